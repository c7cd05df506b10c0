/- The sizes of streams, as both texts count them. -/
import Derived.Test.YtiihkdmmanaooaaFx
import Derived.Test.YtiihkdmmanaooaaPl2
namespace Go.Proofs.Ytiihkdmmanaooaa
open Go.Abs
set_option maxRecDepth 100000
set_option maxHeartbeats 4000000
set_option linter.unusedSimpArgs false
set_option linter.unusedVariables false

theorem sStreamSize_fn : ∀ t : Stm, wtL t.enc ≤ 1048576 → Gives Try.prog 33 [.agg t.enc] (.d (.int .i64 t.num)) := by
  intro t
  induction t using Stm.ind' with
  | h t ih =>
    intro hw
    have hn := Stm.num_eq t
    have hb := Stm.num_le t
    generalize t.num = N at hn hb ⊢
    refine ACalls.enter (fn := Try.f33) Try.func33 rfl (by show 1 ≤ _; decide) ?_
    refine run_sound Try.func33 mixed 200 _ _ (by kernel_rfl) ?_
    simp only [go_sem, ↓reduceIte, Nat.reduceEqDiff, Nat.reduceLT, Nat.reduceLeDiff, Nat.reduceAdd, Nat.reduceMul, Nat.reduceSub, Int.reduceToNat, Int.reduceLT, Int.reduceLE, Int.reduceEq, Int.reduceNeg, Int.reduceAdd, Int.reduceSub, reduceCtorEq]
    refine AW.rng t.kids [7, 8] 9 7 (fun n : Int => [(3, .d (.int .i64 n))]) (fun H _ => H) (fun r n => 1 ≤ n ∧ n + Stm.nums r = N ∧ ∀ x, x ∈ r → x ∈ t.kids) 1 rfl (by simp) ⟨by omega, by omega, fun _ h => h⟩ (by refine ⟨by simp [mkS], by simp [mkS], by simp [mkS, O.refsLt, C.refsLt, C.refsLt1], ?_⟩; simp [mkS, Abs.get, C.refsLtT, C.refsLt, C.refsLt1]) (fun i x r acc hxi hdr hlt hm hinv hnext => ?_) (fun acc hinv => ?_)
    · have hx := List.mem_of_getElem? hxi
      have ihx := ih x hx
      have hwx := Stm.wt_kids hx
      have hnx := Stm.num_le x
      obtain ⟨v1, v2, v3⟩ := hinv
      simp only [Stm.nums] at v2
      have hr := Stm.nums_pos r (fun x _ => (Stm.num_le x).1)
      refine run_sound Try.func33 mixed 200 _ _ (by kernel_rfl) ?_
      simp only [go_sem, ↓reduceIte, Nat.reduceEqDiff, Nat.reduceLT, Nat.reduceLeDiff, Nat.reduceAdd, Nat.reduceMul, Nat.reduceSub, Int.reduceToNat, Int.reduceLT, Int.reduceLE, Int.reduceEq, Int.reduceNeg, Int.reduceAdd, Int.reduceSub, reduceCtorEq, hlt, idx_of hxi]
      repeat' (first
        | (refine br_intro (fun hq => ?_) (fun hq => ?_) <;> (try simp only [decide_eq_true_eq, decide_eq_false_iff_not, bne_iff_ne, beq_iff_eq, beq_eq_false_iff_ne, bne_eq_false_iff_eq, Bool.not_eq_true, Bool.not_eq_false, ne_eq, Decidable.not_not, Int.not_lt, Int.not_le, Bool.not_eq_eq_eq_not, Bool.not_true, Bool.not_false, gt_iff_lt, ge_iff_le, Bool.and_eq_true, Bool.or_eq_true, Bool.or_eq_false_iff, Bool.and_eq_false_imp] at hq) <;> (try simp only [go_sem, ↓reduceIte, Nat.reduceEqDiff, Nat.reduceLT, Nat.reduceLeDiff, Nat.reduceAdd, Nat.reduceMul, Nat.reduceSub, Int.reduceToNat, Int.reduceLT, Int.reduceLE, Int.reduceEq, Int.reduceNeg, Int.reduceAdd, Int.reduceSub, reduceCtorEq, hq]))
        | (refine idx_intro (fun x hx => ?_) <;> (try simp only [go_sem, ↓reduceIte, Nat.reduceEqDiff, Nat.reduceLT, Nat.reduceLeDiff, Nat.reduceAdd, Nat.reduceMul, Nat.reduceSub, Int.reduceToNat, Int.reduceLT, Int.reduceLE, Int.reduceEq, Int.reduceNeg, Int.reduceAdd, Int.reduceSub, reduceCtorEq, hx]))
        | (simp (disch := omega) only [wrap_ok])
        | (refine (ihx (by omega)).calls rfl ?_ <;> (try simp only [go_sem, ↓reduceIte, Nat.reduceEqDiff, Nat.reduceLT, Nat.reduceLeDiff, Nat.reduceAdd, Nat.reduceMul, Nat.reduceSub, Int.reduceToNat, Int.reduceLT, Int.reduceLE, Int.reduceEq, Int.reduceNeg, Int.reduceAdd, Int.reduceSub, reduceCtorEq]))
        | (refine hnext (acc + x.num) _ ⟨by omega, by omega, fun y hy => v3 y (by simp [hy])⟩ (by refine ⟨by simp [mkS], by simp [mkS], by simp [mkS, O.refsLt, C.refsLt, C.refsLt1], ?_⟩; simp [mkS, Abs.get, C.refsLtT, C.refsLt, C.refsLt1]))
        | (refine ⟨by first | omega | assumption | (simp; done) | (simp; omega), ?_⟩ <;> (try simp only [go_sem, ↓reduceIte, Nat.reduceEqDiff, Nat.reduceLT, Nat.reduceLeDiff, Nat.reduceAdd, Nat.reduceMul, Nat.reduceSub, Int.reduceToNat, Int.reduceLT, Int.reduceLE, Int.reduceEq, Int.reduceNeg, Int.reduceAdd, Int.reduceSub, reduceCtorEq]))
        | assumption)
    · obtain ⟨v1, v2, v3⟩ := hinv
      simp only [Stm.nums, Int.add_zero] at v2
      refine run_sound Try.func33 mixed 200 _ _ (by kernel_rfl) ?_
      simp only [go_sem, ↓reduceIte, Nat.reduceEqDiff, Nat.reduceLT, Nat.reduceLeDiff, Nat.reduceAdd, Nat.reduceMul, Nat.reduceSub, Int.reduceToNat, Int.reduceLT, Int.reduceLE, Int.reduceEq, Int.reduceNeg, Int.reduceAdd, Int.reduceSub, reduceCtorEq]
      simp_all

theorem iStreamSize_fn : ∀ t : Stm, wtL t.enc ≤ 1048576 → Gives Try.prog 35 [.agg t.enc] (.d (.int .i64 t.num)) := by
  intro t
  induction t using Stm.ind' with
  | h t ih =>
    intro hw
    have hn := Stm.num_eq t
    have hb := Stm.num_le t
    generalize t.num = N at hn hb ⊢
    refine ACalls.enter (fn := Try.f35) Try.func35 rfl (by show 1 ≤ _; decide) ?_
    refine run_sound Try.func35 mixed 200 _ _ (by kernel_rfl) ?_
    simp only [go_sem, ↓reduceIte, Nat.reduceEqDiff, Nat.reduceLT, Nat.reduceLeDiff, Nat.reduceAdd, Nat.reduceMul, Nat.reduceSub, Int.reduceToNat, Int.reduceLT, Int.reduceLE, Int.reduceEq, Int.reduceNeg, Int.reduceAdd, Int.reduceSub, reduceCtorEq]
    refine AW.rng t.kids [7, 8] 9 7 (fun n : Int => [(3, .d (.int .i64 n))]) (fun H _ => H) (fun r n => 1 ≤ n ∧ n + Stm.nums r = N ∧ ∀ x, x ∈ r → x ∈ t.kids) 1 rfl (by simp) ⟨by omega, by omega, fun _ h => h⟩ (by refine ⟨by simp [mkS], by simp [mkS], by simp [mkS, O.refsLt, C.refsLt, C.refsLt1], ?_⟩; simp [mkS, Abs.get, C.refsLtT, C.refsLt, C.refsLt1]) (fun i x r acc hxi hdr hlt hm hinv hnext => ?_) (fun acc hinv => ?_)
    · have hx := List.mem_of_getElem? hxi
      have ihx := ih x hx
      have hwx := Stm.wt_kids hx
      have hnx := Stm.num_le x
      obtain ⟨v1, v2, v3⟩ := hinv
      simp only [Stm.nums] at v2
      have hr := Stm.nums_pos r (fun x _ => (Stm.num_le x).1)
      refine run_sound Try.func35 mixed 200 _ _ (by kernel_rfl) ?_
      simp only [go_sem, ↓reduceIte, Nat.reduceEqDiff, Nat.reduceLT, Nat.reduceLeDiff, Nat.reduceAdd, Nat.reduceMul, Nat.reduceSub, Int.reduceToNat, Int.reduceLT, Int.reduceLE, Int.reduceEq, Int.reduceNeg, Int.reduceAdd, Int.reduceSub, reduceCtorEq, hlt, idx_of hxi]
      repeat' (first
        | (refine br_intro (fun hq => ?_) (fun hq => ?_) <;> (try simp only [decide_eq_true_eq, decide_eq_false_iff_not, bne_iff_ne, beq_iff_eq, beq_eq_false_iff_ne, bne_eq_false_iff_eq, Bool.not_eq_true, Bool.not_eq_false, ne_eq, Decidable.not_not, Int.not_lt, Int.not_le, Bool.not_eq_eq_eq_not, Bool.not_true, Bool.not_false, gt_iff_lt, ge_iff_le, Bool.and_eq_true, Bool.or_eq_true, Bool.or_eq_false_iff, Bool.and_eq_false_imp] at hq) <;> (try simp only [go_sem, ↓reduceIte, Nat.reduceEqDiff, Nat.reduceLT, Nat.reduceLeDiff, Nat.reduceAdd, Nat.reduceMul, Nat.reduceSub, Int.reduceToNat, Int.reduceLT, Int.reduceLE, Int.reduceEq, Int.reduceNeg, Int.reduceAdd, Int.reduceSub, reduceCtorEq, hq]))
        | (refine idx_intro (fun x hx => ?_) <;> (try simp only [go_sem, ↓reduceIte, Nat.reduceEqDiff, Nat.reduceLT, Nat.reduceLeDiff, Nat.reduceAdd, Nat.reduceMul, Nat.reduceSub, Int.reduceToNat, Int.reduceLT, Int.reduceLE, Int.reduceEq, Int.reduceNeg, Int.reduceAdd, Int.reduceSub, reduceCtorEq, hx]))
        | (simp (disch := omega) only [wrap_ok])
        | (refine (ihx (by omega)).calls rfl ?_ <;> (try simp only [go_sem, ↓reduceIte, Nat.reduceEqDiff, Nat.reduceLT, Nat.reduceLeDiff, Nat.reduceAdd, Nat.reduceMul, Nat.reduceSub, Int.reduceToNat, Int.reduceLT, Int.reduceLE, Int.reduceEq, Int.reduceNeg, Int.reduceAdd, Int.reduceSub, reduceCtorEq]))
        | (refine hnext (acc + x.num) _ ⟨by omega, by omega, fun y hy => v3 y (by simp [hy])⟩ (by refine ⟨by simp [mkS], by simp [mkS], by simp [mkS, O.refsLt, C.refsLt, C.refsLt1], ?_⟩; simp [mkS, Abs.get, C.refsLtT, C.refsLt, C.refsLt1]))
        | (refine ⟨by first | omega | assumption | (simp; done) | (simp; omega), ?_⟩ <;> (try simp only [go_sem, ↓reduceIte, Nat.reduceEqDiff, Nat.reduceLT, Nat.reduceLeDiff, Nat.reduceAdd, Nat.reduceMul, Nat.reduceSub, Int.reduceToNat, Int.reduceLT, Int.reduceLE, Int.reduceEq, Int.reduceNeg, Int.reduceAdd, Int.reduceSub, reduceCtorEq]))
        | assumption)
    · obtain ⟨v1, v2, v3⟩ := hinv
      simp only [Stm.nums, Int.add_zero] at v2
      refine run_sound Try.func35 mixed 200 _ _ (by kernel_rfl) ?_
      simp only [go_sem, ↓reduceIte, Nat.reduceEqDiff, Nat.reduceLT, Nat.reduceLeDiff, Nat.reduceAdd, Nat.reduceMul, Nat.reduceSub, Int.reduceToNat, Int.reduceLT, Int.reduceLE, Int.reduceEq, Int.reduceNeg, Int.reduceAdd, Int.reduceSub, reduceCtorEq]
      simp_all
end Go.Proofs.Ytiihkdmmanaooaa

