/- The law FnExactClauseChoices: both texts answer alike on every input. -/
import Derived.Test.YtljdpohdfnileaaW26
import Derived.Test.YtljdpohdfnileaaW11
import Derived.Test.YtljdpohdfnileaaFam
namespace Go.Proofs.Ytljdpohdfnileaa
open Go.Abs
set_option maxRecDepth 100000
set_option maxHeartbeats 4000000
set_option linter.unusedSimpArgs false
set_option linter.unusedVariables false

theorem lawFnExactClauseChoices (a0 : Gl) (a1 : Int) (ha0 : Sh Try.prog 25 (a0.enc)) : Gives Try.prog 6 [.agg a0.enc, .int .i64 a1] (.d (.bool true)) := by
  have hsza0 := szc25 _ a0.enc (Nat.lt_succ_self _) ha0
  have htoa0 := fun hb => toc25 _ a0.enc (Nat.lt_succ_self _) hb ha0
  have heqa0 := eqc25 _ a0.enc (Nat.lt_succ_self _) ha0
  refine ACalls.enter (fn := Try.f6) Try.func6 rfl (by show 2 ≤ _; decide) ?_
  refine AW.hole ?_
  refine AW.hole ?_
  refine AW.hole ?_
  refine AW.hole ?_
  refine run_sound Try.func6 mixed 200 _ _ (by kernel_rfl) ?_
  simp only [go_sem, ↓reduceIte, Nat.reduceEqDiff, Nat.reduceLT, Nat.reduceLeDiff, Nat.reduceAdd, Nat.reduceMul, Nat.reduceSub, Int.reduceToNat, Int.reduceLT, Int.reduceLE, Int.reduceEq, Int.reduceNeg, Int.reduceAdd, Int.reduceSub, reduceCtorEq]
  refine (hsza0 _ (by omega) (by omega)).calls rfl ?_
  simp only [go_sem, ↓reduceIte, Nat.reduceEqDiff, Nat.reduceLT, Nat.reduceLeDiff, Nat.reduceAdd, Nat.reduceMul, Nat.reduceSub, Int.reduceToNat, Int.reduceLT, Int.reduceLE, Int.reduceEq, Int.reduceNeg, Int.reduceAdd, Int.reduceSub, reduceCtorEq]
  refine br_intro (fun hq => ?_) (fun hq => ?_)
  · simp only [go_sem, ↓reduceIte, Nat.reduceEqDiff, Nat.reduceLT, Nat.reduceLeDiff, Nat.reduceAdd, Nat.reduceMul, Nat.reduceSub, Int.reduceToNat, Int.reduceLT, Int.reduceLE, Int.reduceEq, Int.reduceNeg, Int.reduceAdd, Int.reduceSub, reduceCtorEq]
  simp only [decide_eq_false_iff_not] at hq
  have hwa0 := szr_ge hq
  rw [szr_pos hwa0]
  clear hq
  simp only [go_sem, ↓reduceIte, Nat.reduceEqDiff, Nat.reduceLT, Nat.reduceLeDiff, Nat.reduceAdd, Nat.reduceMul, Nat.reduceSub, Int.reduceToNat, Int.reduceLT, Int.reduceLE, Int.reduceEq, Int.reduceNeg, Int.reduceAdd, Int.reduceSub, reduceCtorEq]
  have hx := toGoal_T a0 (by omega)
  have hg := iClauseChoices_T a0 a1 (by omega)
  have hvw := Gl.vars_wt a0
  have hmc := Gl.mcnt_wt a0
  have hme := Gl.mcnt_eq a0
  have hcw := Gl.cnt_le_wt a0
  have hV : (ccV a0 a1).length ≤ 1048577 := by
    unfold ccV
    split
    · have := Gl.chI_len a0 a1.toNat; omega
    · simp
  have hw0 := sClauseChoices_fn a0 a1 (by omega)
  generalize ccV a0 a1 = V at hg hw0 hV
  generalize ccB a0 a1 = ok at hg hw0
  have hmx : maxLen = 9223372036854775807 := rfl
  have hei := eq30 (intsD V) (by rw [intsD_ln]; omega) (fun x hx => by obtain ⟨n, _, rfl⟩ := List.mem_map.1 hx; exact ⟨n, rfl⟩)
  have hmk := markGoal_T a0 1 1 1
  have hmi := fun q e B => markIntS_T V 1 q e B (by omega) (by omega) (by omega)
  have hhd := heldIntS_fn V 1 (by omega) (by omega) (by omega)
  refine (htoa0 (by omega)).calls rfl ?_
  simp only [go_sem, ↓reduceIte, Nat.reduceEqDiff, Nat.reduceLT, Nat.reduceLeDiff, Nat.reduceAdd, Nat.reduceMul, Nat.reduceSub, Int.reduceToNat, Int.reduceLT, Int.reduceLE, Int.reduceEq, Int.reduceNeg, Int.reduceAdd, Int.reduceSub, reduceCtorEq]
  refine hw0.calls rfl ?_
  simp only [go_sem, ↓reduceIte, Nat.reduceEqDiff, Nat.reduceLT, Nat.reduceLeDiff, Nat.reduceAdd, Nat.reduceMul, Nat.reduceSub, Int.reduceToNat, Int.reduceLT, Int.reduceLE, Int.reduceEq, Int.reduceNeg, Int.reduceAdd, Int.reduceSub, reduceCtorEq]
  refine ACalls.fresh (ds := [.agg a0.enc]) (m := 2) hx [0, 1] rfl rfl (by simp) (by simp) ?_
  rintro c H' ⟨rfl, e1, B1, e2, B2, rfl⟩ _
  refine ⟨rfl, rfl, ?_⟩
  simp only [go_sem, ↓reduceIte, Nat.reduceEqDiff, Nat.reduceLT, Nat.reduceLeDiff, Nat.reduceAdd, Nat.reduceMul, Nat.reduceSub, Int.reduceToNat, Int.reduceLT, Int.reduceLE, Int.reduceEq, Int.reduceNeg, Int.reduceAdd, Int.reduceSub, reduceCtorEq]
  have hbf : ∀ e1 B1 e2 B2 X, borAll (.tree 1 4 e1 (a0.terms.map Tm.enc) B1 none :: .tree 1 4 e2 (a0.goals.map Gl.enc) B2 none :: X) [.agg [.d (.int .i64 a0.kind), .d (.str a0.name), .own 0 1, .own 1 1], .d (.int .i64 a1)] = some [.agg a0.enc, .int .i64 a1] := fun e1 B1 e2 B2 X => by
    rw [Gl.enc_eq a0]; rfl
  refine ACalls.fresh (ds := [.agg a0.enc, .int .i64 a1]) (m := 1) hg [2] (hbf _ _ _ _ _) rfl (by simp) (by simp) ?_
  rintro c H' ⟨rfl, e3, B3, rfl⟩ _
  refine ⟨rfl, rfl, ?_⟩
  simp only [go_sem, ↓reduceIte, Nat.reduceEqDiff, Nat.reduceLT, Nat.reduceLeDiff, Nat.reduceAdd, Nat.reduceMul, Nat.reduceSub, Int.reduceToNat, Int.reduceLT, Int.reduceLE, Int.reduceEq, Int.reduceNeg, Int.reduceAdd, Int.reduceSub, reduceCtorEq]
  refine hei.lend rfl (by simp only [go_sem, ↓reduceIte, Nat.reduceEqDiff, Nat.reduceLT, Nat.reduceLeDiff, Nat.reduceAdd, Nat.reduceMul, Nat.reduceSub, Int.reduceToNat, Int.reduceLT, Int.reduceLE, Int.reduceEq, Int.reduceNeg, Int.reduceAdd, Int.reduceSub, reduceCtorEq]) ?_
  simp only [go_sem, ↓reduceIte, Nat.reduceEqDiff, Nat.reduceLT, Nat.reduceLeDiff, Nat.reduceAdd, Nat.reduceMul, Nat.reduceSub, Int.reduceToNat, Int.reduceLT, Int.reduceLE, Int.reduceEq, Int.reduceNeg, Int.reduceAdd, Int.reduceSub, reduceCtorEq]
  refine (htoa0 (by omega)).callQ rfl ?_
  simp only [go_sem, ↓reduceIte, Nat.reduceEqDiff, Nat.reduceLT, Nat.reduceLeDiff, Nat.reduceAdd, Nat.reduceMul, Nat.reduceSub, Int.reduceToNat, Int.reduceLT, Int.reduceLE, Int.reduceEq, Int.reduceNeg, Int.reduceAdd, Int.reduceSub, reduceCtorEq]
  have hbe : ∀ e1 B1 e2 B2 X, borAll (.tree 1 4 e1 (a0.terms.map Tm.enc) B1 none :: .tree 1 4 e2 (a0.goals.map Gl.enc) B2 none :: X) [.agg [.d (.int .i64 a0.kind), .d (.str a0.name), .own 0 1, .own 1 1], .d (.agg a0.enc)] = some [.agg a0.enc, .agg a0.enc] := fun e1 B1 e2 B2 X => by
    rw [Gl.enc_eq a0]; rfl
  refine heqa0.lendQ rfl (hbe _ _ _ _ _) ?_
  simp only [go_sem, ↓reduceIte, Nat.reduceEqDiff, Nat.reduceLT, Nat.reduceLeDiff, Nat.reduceAdd, Nat.reduceMul, Nat.reduceSub, Int.reduceToNat, Int.reduceLT, Int.reduceLE, Int.reduceEq, Int.reduceNeg, Int.reduceAdd, Int.reduceSub, reduceCtorEq]
  refine ((hmk _ _ _ _ (by omega) (by omega)).frame (X := [_, _, _, _]) rfl rfl ?_)
  rintro c H' ⟨rfl, B5, B6, rfl⟩ _
  simp only [go_sem, ↓reduceIte, Nat.reduceEqDiff, Nat.reduceLT, Nat.reduceLeDiff, Nat.reduceAdd, Nat.reduceMul, Nat.reduceSub, Int.reduceToNat, Int.reduceLT, Int.reduceLE, Int.reduceEq, Int.reduceNeg, Int.reduceAdd, Int.reduceSub, reduceCtorEq]
  repeat' (first
    | (refine br_intro (fun hq => ?_) (fun hq => ?_) <;> (try simp only [decide_eq_true_eq, decide_eq_false_iff_not, bne_iff_ne, beq_iff_eq, beq_eq_false_iff_ne, bne_eq_false_iff_eq, Bool.not_eq_true, Bool.not_eq_false, ne_eq, Decidable.not_not, Int.not_lt, Int.not_le, Bool.not_eq_eq_eq_not, Bool.not_true, Bool.not_false, gt_iff_lt, ge_iff_le, Bool.and_eq_true, Bool.or_eq_true, Bool.or_eq_false_iff, Bool.and_eq_false_imp] at hq) <;> (try simp only [go_sem, ↓reduceIte, Nat.reduceEqDiff, Nat.reduceLT, Nat.reduceLeDiff, Nat.reduceAdd, Nat.reduceMul, Nat.reduceSub, Int.reduceToNat, Int.reduceLT, Int.reduceLE, Int.reduceEq, Int.reduceNeg, Int.reduceAdd, Int.reduceSub, reduceCtorEq, C.at1, hq]))
    | (refine idx_intro (fun x hx => ?_) <;> (try simp only [go_sem, ↓reduceIte, Nat.reduceEqDiff, Nat.reduceLT, Nat.reduceLeDiff, Nat.reduceAdd, Nat.reduceMul, Nat.reduceSub, Int.reduceToNat, Int.reduceLT, Int.reduceLE, Int.reduceEq, Int.reduceNeg, Int.reduceAdd, Int.reduceSub, reduceCtorEq, C.at1, hx]))
    | (simp (disch := omega) only [wrap_ok])
    | (refine hei.lend rfl (by simp only [go_sem, ↓reduceIte, Nat.reduceEqDiff, Nat.reduceLT, Nat.reduceLeDiff, Nat.reduceAdd, Nat.reduceMul, Nat.reduceSub, Int.reduceToNat, Int.reduceLT, Int.reduceLE, Int.reduceEq, Int.reduceNeg, Int.reduceAdd, Int.reduceSub, reduceCtorEq]) ?_ <;> (try simp only [go_sem, ↓reduceIte, Nat.reduceEqDiff, Nat.reduceLT, Nat.reduceLeDiff, Nat.reduceAdd, Nat.reduceMul, Nat.reduceSub, Int.reduceToNat, Int.reduceLT, Int.reduceLE, Int.reduceEq, Int.reduceNeg, Int.reduceAdd, Int.reduceSub, reduceCtorEq, C.at1]))
    | (refine hhd.lend rfl (by simp only [go_sem, ↓reduceIte, Nat.reduceEqDiff, Nat.reduceLT, Nat.reduceLeDiff, Nat.reduceAdd, Nat.reduceMul, Nat.reduceSub, Int.reduceToNat, Int.reduceLT, Int.reduceLE, Int.reduceEq, Int.reduceNeg, Int.reduceAdd, Int.reduceSub, reduceCtorEq]) ?_ <;> (try simp only [go_sem, ↓reduceIte, Nat.reduceEqDiff, Nat.reduceLT, Nat.reduceLeDiff, Nat.reduceAdd, Nat.reduceMul, Nat.reduceSub, Int.reduceToNat, Int.reduceLT, Int.reduceLE, Int.reduceEq, Int.reduceNeg, Int.reduceAdd, Int.reduceSub, reduceCtorEq, C.at1]))
    | (refine (htoa0 (by omega)).calls rfl ?_ <;> (try simp only [go_sem, ↓reduceIte, Nat.reduceEqDiff, Nat.reduceLT, Nat.reduceLeDiff, Nat.reduceAdd, Nat.reduceMul, Nat.reduceSub, Int.reduceToNat, Int.reduceLT, Int.reduceLE, Int.reduceEq, Int.reduceNeg, Int.reduceAdd, Int.reduceSub, reduceCtorEq, C.at1]))
    | (refine (hmi 1 _ _).at1 rfl 2 rfl rfl ?_ <;> (rintro c o' ⟨rfl, B7, ho⟩; cases ho; refine ⟨rfl, rfl, ?_⟩) <;> (try simp only [go_sem, ↓reduceIte, Nat.reduceEqDiff, Nat.reduceLT, Nat.reduceLeDiff, Nat.reduceAdd, Nat.reduceMul, Nat.reduceSub, Int.reduceToNat, Int.reduceLT, Int.reduceLE, Int.reduceEq, Int.reduceNeg, Int.reduceAdd, Int.reduceSub, reduceCtorEq, C.at1]))
    | (refine ACalls.fresh (ds := [.agg a0.enc, .int .i64 a1]) (m := 1) hg [3] rfl rfl (by simp) (by simp) ?_ <;> (rintro c H' ⟨rfl, e8, B8, rfl⟩ _; refine ⟨rfl, rfl, ?_⟩) <;> (try simp only [go_sem, ↓reduceIte, Nat.reduceEqDiff, Nat.reduceLT, Nat.reduceLeDiff, Nat.reduceAdd, Nat.reduceMul, Nat.reduceSub, Int.reduceToNat, Int.reduceLT, Int.reduceLE, Int.reduceEq, Int.reduceNeg, Int.reduceAdd, Int.reduceSub, reduceCtorEq, C.at1]))
    | (refine ⟨by first | omega | assumption | (simp; done) | (simp; omega), ?_⟩ <;> (try simp only [go_sem, ↓reduceIte, Nat.reduceEqDiff, Nat.reduceLT, Nat.reduceLeDiff, Nat.reduceAdd, Nat.reduceMul, Nat.reduceSub, Int.reduceToNat, Int.reduceLT, Int.reduceLE, Int.reduceEq, Int.reduceNeg, Int.reduceAdd, Int.reduceSub, reduceCtorEq, C.at1]))
    | assumption)
  all_goals try clear ih
  all_goals try clear hnext
  all_goals first
    | (simp_all; done)
    | (simp_all; omega)
    | (simp_all; split <;> simp_all <;> omega)
    | (exfalso; omega)
    | assumption
end Go.Proofs.Ytljdpohdfnileaa

