/- The laws' size, copy and comparison functions, walked on plain data. -/
import Derived.Test.YtiihkdmmanaooaaFx
namespace Go.Proofs.Ytiihkdmmanaooaa
open Go.Abs
set_option maxRecDepth 100000
set_option maxHeartbeats 4000000
set_option linter.unusedSimpArgs false
set_option linter.unusedVariables false

theorem lv117 : leaves Try.prog 6 117 = some [.int .i64, .int .i64, .str, .sl 117] := by kernel_rfl
theorem inv117 {x : List D} (h : Sh Try.prog 117 x) : ∃ a0 a1 a2 a3, x = [.int .i64 a0, .int .i64 a1, .str a2, .sl a3] ∧ (Lit.int .i64 a0).wf = true ∧ (Lit.int .i64 a1).wf = true ∧ a2.length ≤ maxLen ∧ (a3.length ≤ maxLen ∧ ∀ x, x ∈ a3 → Sh Try.prog 117 x) := by
  obtain ⟨ls, h1, h2, h3⟩ := h
  rw [lv117] at h1
  cases h1
  match x, h2, h3 with
  | [c0, c1, c2, c3], _, h3 =>
    have g0 := h3 0 _ _ rfl rfl
    have g1 := h3 1 _ _ rfl rfl
    have g2 := h3 2 _ _ rfl rfl
    have g3 := h3 3 _ _ rfl rfl
    obtain ⟨b0, rfl, q0⟩ := g0.int_inv
    obtain ⟨b1, rfl, q1⟩ := g1.int_inv
    obtain ⟨b2, rfl, q2⟩ := g2.str_inv
    obtain ⟨b3, rfl, q3⟩ := g3.elems
    exact ⟨_, _, _, _, rfl, q0, q1, q2, q3⟩

theorem sz37 (xs : List (List D)) (hm : xs.length ≤ maxLen) (hx : ∀ x, x ∈ xs → x.length = 4 ∧ ∀ n : Int, 0 ≤ n → n ≤ 1048576 → Gives Try.prog 66 [.agg x, .int .i64 n] (.d (.int .i64 (szr n (wtL x)))))
    (n : Int) (h0 : 0 ≤ n) (h1 : n ≤ 1048576) : Gives Try.prog 37 [.sl xs, .int .i64 n] (.d (.int .i64 (szr n (wtR xs)))) := by
  have hm' : (xs.length : Int) ≤ 9223372036854775807 := by simp only [maxLen] at hm; omega
  have hs := sumW_all xs
  have hs0 := sumW_le xs 0
  simp only [sumW] at hs0
  refine ACalls.enter (fn := Try.f37) Try.func37 rfl (by show 2 ≤ _; decide) ?_
  refine run_sound Try.func37 mixed 100 _ _ (by kernel_rfl) ?_
  simp only [go_sem, ↓reduceIte, Nat.reduceEqDiff, Nat.reduceLT, Nat.reduceLeDiff, Nat.reduceAdd, Nat.reduceMul, Nat.reduceSub, Int.reduceToNat, Int.reduceLT, Int.reduceLE, Int.reduceEq, Int.reduceNeg, Int.reduceAdd, Int.reduceSub, reduceCtorEq]
  rw [wrap_ok (by omega) (by omega)]
  refine br_intro (fun h => ?_) (fun h => ?_)
  · simp only [decide_eq_true_eq] at h
    simp only [go_sem, ↓reduceIte, Nat.reduceEqDiff, Nat.reduceLT, Nat.reduceLeDiff, Nat.reduceAdd, Nat.reduceMul, Nat.reduceSub, Int.reduceToNat, Int.reduceLT, Int.reduceLE, Int.reduceEq, Int.reduceNeg, Int.reduceAdd, Int.reduceSub, reduceCtorEq]
    rw [szr_neg (by omega)]
  simp only [decide_eq_false_iff_not, Int.not_lt] at h
  simp only [go_sem, ↓reduceIte, Nat.reduceEqDiff, Nat.reduceLT, Nat.reduceLeDiff, Nat.reduceAdd, Nat.reduceMul, Nat.reduceSub, Int.reduceToNat, Int.reduceLT, Int.reduceLE, Int.reduceEq, Int.reduceNeg, Int.reduceAdd, Int.reduceSub, reduceCtorEq]
  refine AW.loop_ind (fun i : Nat => ⟨[(5, .d (.int .i64 i)), (0, .d (.sl xs)), (1, .d (.int .i64 (n - xs.length - sumW xs i))), (4, .d (.int .i64 0))], []⟩) (fun i => i ≤ xs.length ∧ (sumW xs i : Int) ≤ n - xs.length) (fun i => xs.length - i) 0 ⟨by omega, by simp only [sumW]; omega⟩ ?_ ?_
  · refine Weak.of (by simp) rfl ?_
    simp [Abs.get, sumW, C.refsLtT, C.refsLt, C.refsLt1]
  · intro i hi hnext
    obtain ⟨hi1, hi2⟩ := hi
    refine run_sound Try.func37 mixed 100 _ _ (by kernel_rfl) ?_
    simp only [go_sem, ↓reduceIte, Nat.reduceEqDiff, Nat.reduceLT, Nat.reduceLeDiff, Nat.reduceAdd, Nat.reduceMul, Nat.reduceSub, Int.reduceToNat, Int.reduceLT, Int.reduceLE, Int.reduceEq, Int.reduceNeg, Int.reduceAdd, Int.reduceSub, reduceCtorEq]
    refine br_intro (fun h => ?_) (fun h => ?_)
    · simp only [decide_eq_true_eq] at h
      have hi : i < xs.length := by omega
      obtain ⟨x, hxi⟩ : ∃ x, xs[i]? = some x := ⟨_, List.getElem?_eq_getElem hi⟩
      have hsum := sumW_at hxi
      have hle := sumW_le xs (i + 1)
      obtain ⟨e1, e2⟩ := hx x (List.mem_of_getElem? hxi)
      simp only [go_sem, ↓reduceIte, Nat.reduceEqDiff, Nat.reduceLT, Nat.reduceLeDiff, Nat.reduceAdd, Nat.reduceMul, Nat.reduceSub, Int.reduceToNat, Int.reduceLT, Int.reduceLE, Int.reduceEq, Int.reduceNeg, Int.reduceAdd, Int.reduceSub, reduceCtorEq, Int.toNat_natCast, hxi, idx_of hxi, e1]
      repeat refine And.intro (by omega) ?_
      refine (e2 _ (by omega) (by omega)).calls rfl ?_
      simp only [go_sem, ↓reduceIte, Nat.reduceEqDiff, Nat.reduceLT, Nat.reduceLeDiff, Nat.reduceAdd, Nat.reduceMul, Nat.reduceSub, Int.reduceToNat, Int.reduceLT, Int.reduceLE, Int.reduceEq, Int.reduceNeg, Int.reduceAdd, Int.reduceSub, reduceCtorEq]
      refine br_intro (fun h => ?_) (fun h => ?_)
      · simp only [decide_eq_true_eq] at h
        have hg := szr_lt h
        simp only [go_sem, ↓reduceIte, Nat.reduceEqDiff, Nat.reduceLT, Nat.reduceLeDiff, Nat.reduceAdd, Nat.reduceMul, Nat.reduceSub, Int.reduceToNat, Int.reduceLT, Int.reduceLE, Int.reduceEq, Int.reduceNeg, Int.reduceAdd, Int.reduceSub, reduceCtorEq]
        rw [szr_neg (by omega)]
      · simp only [decide_eq_false_iff_not] at h
        have hg := szr_ge h
        rw [szr_pos hg]
        simp only [go_sem, ↓reduceIte, Nat.reduceEqDiff, Nat.reduceLT, Nat.reduceLeDiff, Nat.reduceAdd, Nat.reduceMul, Nat.reduceSub, Int.reduceToNat, Int.reduceLT, Int.reduceLE, Int.reduceEq, Int.reduceNeg, Int.reduceAdd, Int.reduceSub, reduceCtorEq]
        rw [wrap_ok (by omega) (by omega)]
        refine hnext (i + 1) _ ⟨by omega, by omega⟩ (by omega) ?_
        refine Weak.of (by simp) rfl ?_
        simp [Abs.get, C.refsLtT, C.refsLt, C.refsLt1]
        omega
    · simp only [decide_eq_false_iff_not] at h
      have : i = xs.length := by omega
      subst this
      simp only [go_sem, ↓reduceIte, Nat.reduceEqDiff, Nat.reduceLT, Nat.reduceLeDiff, Nat.reduceAdd, Nat.reduceMul, Nat.reduceSub, Int.reduceToNat, Int.reduceLT, Int.reduceLE, Int.reduceEq, Int.reduceNeg, Int.reduceAdd, Int.reduceSub, reduceCtorEq]
      rw [szr_pos (by omega)]
      all_goals (congr 2 <;> omega)

theorem sz66 (a0 : Int) (a1 : Int) (a2 : List UInt8) (a3 : List (List D)) (h2 : a2.length ≤ maxLen) (h3 : ∀ n : Int, 0 ≤ n → n ≤ 1048576 → Gives Try.prog 37 [.sl a3, .int .i64 n] (.d (.int .i64 (szr n (wtR a3)))))
    (n : Int) (g0 : 0 ≤ n) (g1 : n ≤ 1048576) : Gives Try.prog 66 [.agg [.int .i64 a0, .int .i64 a1, .str a2, .sl a3], .int .i64 n] (.d (.int .i64 (szr n (wtL [.int .i64 a0, .int .i64 a1, .str a2, .sl a3])))) := by
  have hw : wtL [.int .i64 a0, .int .i64 a1, .str a2, .sl a3] = a2.length + wtR a3 := by simp only [wtL, D.wt] <;> omega
  simp only [maxLen] at h2
  rw [hw]
  refine ACalls.enter (fn := Try.f66) Try.func66 rfl (by show 2 ≤ _; decide) ?_
  refine run_sound Try.func66 mixed 100 _ _ (by kernel_rfl) ?_
  simp only [go_sem, ↓reduceIte, Nat.reduceEqDiff, Nat.reduceLT, Nat.reduceLeDiff, Nat.reduceAdd, Nat.reduceMul, Nat.reduceSub, Int.reduceToNat, Int.reduceLT, Int.reduceLE, Int.reduceEq, Int.reduceNeg, Int.reduceAdd, Int.reduceSub, reduceCtorEq]
  rw [wrap_ok (by omega) (by omega)]
  refine br_intro (fun h => ?_) (fun h => ?_)
  · simp only [decide_eq_true_eq] at h
    simp only [go_sem, ↓reduceIte, Nat.reduceEqDiff, Nat.reduceLT, Nat.reduceLeDiff, Nat.reduceAdd, Nat.reduceMul, Nat.reduceSub, Int.reduceToNat, Int.reduceLT, Int.reduceLE, Int.reduceEq, Int.reduceNeg, Int.reduceAdd, Int.reduceSub, reduceCtorEq]
    rw [szr_neg (by omega)]
  simp only [decide_eq_false_iff_not, Int.not_lt] at h
  simp only [go_sem, ↓reduceIte, Nat.reduceEqDiff, Nat.reduceLT, Nat.reduceLeDiff, Nat.reduceAdd, Nat.reduceMul, Nat.reduceSub, Int.reduceToNat, Int.reduceLT, Int.reduceLE, Int.reduceEq, Int.reduceNeg, Int.reduceAdd, Int.reduceSub, reduceCtorEq]
  refine (h3 _ (by omega) (by omega)).calls rfl ?_
  simp only [go_sem, ↓reduceIte, Nat.reduceEqDiff, Nat.reduceLT, Nat.reduceLeDiff, Nat.reduceAdd, Nat.reduceMul, Nat.reduceSub, Int.reduceToNat, Int.reduceLT, Int.reduceLE, Int.reduceEq, Int.reduceNeg, Int.reduceAdd, Int.reduceSub, reduceCtorEq]
  refine br_intro (fun h => ?_) (fun h => ?_)
  · simp only [decide_eq_true_eq] at h
    have hg := szr_lt h
    simp only [go_sem, ↓reduceIte, Nat.reduceEqDiff, Nat.reduceLT, Nat.reduceLeDiff, Nat.reduceAdd, Nat.reduceMul, Nat.reduceSub, Int.reduceToNat, Int.reduceLT, Int.reduceLE, Int.reduceEq, Int.reduceNeg, Int.reduceAdd, Int.reduceSub, reduceCtorEq]
    rw [szr_neg (by omega)]
  simp only [decide_eq_false_iff_not] at h
  have hg := szr_ge h
  rw [szr_pos hg]
  clear h
  simp only [go_sem, ↓reduceIte, Nat.reduceEqDiff, Nat.reduceLT, Nat.reduceLeDiff, Nat.reduceAdd, Nat.reduceMul, Nat.reduceSub, Int.reduceToNat, Int.reduceLT, Int.reduceLE, Int.reduceEq, Int.reduceNeg, Int.reduceAdd, Int.reduceSub, reduceCtorEq]
  all_goals rw [szr_pos (by omega)]
  all_goals (congr 2 <;> omega)

theorem to40 (xs : List (List D)) (hl : xs.length ≤ 1048576) (hx : ∀ x, x ∈ xs → x.length = 4 ∧ Gives Try.prog 67 [.agg x] (.d (.agg x))) : Gives Try.prog 40 [.sl xs] (.d (.sl xs)) := by
  refine ACalls.enter (fn := Try.f40) Try.func40 rfl (by show 1 ≤ _; decide) ?_
  refine run_sound Try.func40 mixed 100 _ _ (by kernel_rfl) ?_
  simp only [go_sem, ↓reduceIte, Nat.reduceEqDiff, Nat.reduceLT, Nat.reduceLeDiff, Nat.reduceAdd, Nat.reduceMul, Nat.reduceSub, Int.reduceToNat, Int.reduceLT, Int.reduceLE, Int.reduceEq, Int.reduceNeg, Int.reduceAdd, Int.reduceSub, reduceCtorEq, Int.toNat_natCast]
  repeat refine And.intro (by first | omega | (simp only [maxLen]; omega)) ?_
  refine AW.loop_ind (fun i : Nat => ⟨[(4, .d (.int .i64 i)), (0, .d (.sl xs)), (3, .rsl 0 xs.length), (2, .nil0)], [.row 4 119 (xs.take i ++ List.replicate (xs.length - i) [.int .i64 0, .int .i64 0, .str [], .sl []])]⟩) (fun i => i ≤ xs.length) (fun i => xs.length - i) 0 (by omega) ?_ ?_
  · refine Weak.of (by simp) rfl ?_
    simp [Abs.get, C.refsLtT, C.refsLt, C.refsLt1]
  · intro i hi hnext
    by_cases h : i < xs.length
    · obtain ⟨x, hxi⟩ : ∃ x, xs[i]? = some x := ⟨_, List.getElem?_eq_getElem h⟩
      obtain ⟨e1, e2⟩ := hx x (List.mem_of_getElem? hxi)
      have hlt : ((i : Int) < (xs.length : Int)) = True := by simp; omega
      refine run_sound Try.func40 mixed 100 _ _ (by kernel_rfl) ?_
      simp only [go_sem, ↓reduceIte, Nat.reduceEqDiff, Nat.reduceLT, Nat.reduceLeDiff, Nat.reduceAdd, Nat.reduceMul, Nat.reduceSub, Int.reduceToNat, Int.reduceLT, Int.reduceLE, Int.reduceEq, Int.reduceNeg, Int.reduceAdd, Int.reduceSub, reduceCtorEq, Int.toNat_natCast, hlt, hxi, idx_of hxi, e1]
      repeat refine And.intro (by omega) ?_
      refine e2.calls rfl ?_
      simp only [go_sem, ↓reduceIte, Nat.reduceEqDiff, Nat.reduceLT, Nat.reduceLeDiff, Nat.reduceAdd, Nat.reduceMul, Nat.reduceSub, Int.reduceToNat, Int.reduceLT, Int.reduceLE, Int.reduceEq, Int.reduceNeg, Int.reduceAdd, Int.reduceSub, reduceCtorEq, Int.toNat_natCast, hlt, hxi, idx_of hxi, e1]
      repeat refine And.intro (by first | omega | (simp; omega) | (simp_all; done)) ?_
      rw [wrap_ok (by omega) (by omega)]
      first | rw [row_step (k := 4) hxi (by rfl)] | rw [row_step1 hxi (by rfl)]
      refine hnext (i + 1) _ (by omega) (by omega) ?_
      refine Weak.of (by simp) rfl ?_
      simp [Abs.get, C.refsLtT, C.refsLt, C.refsLt1]
    · have hlt : ((i : Int) < (xs.length : Int)) = False := by simp; omega
      refine run_sound Try.func40 mixed 6 _ _ (by kernel_rfl) ?_
      simp only [go_sem, ↓reduceIte, Nat.reduceEqDiff, Nat.reduceLT, Nat.reduceLeDiff, Nat.reduceAdd, Nat.reduceMul, Nat.reduceSub, Int.reduceToNat, Int.reduceLT, Int.reduceLE, Int.reduceEq, Int.reduceNeg, Int.reduceAdd, Int.reduceSub, reduceCtorEq, Int.toNat_natCast, hlt]
      obtain rfl : i = xs.length := by omega
      rw [row_all]
      refine AW.freeze 3 0 rfl rfl rfl ?_
      refine run_sound Try.func40 mixed 100 _ _ (by kernel_rfl) ?_
      simp only [go_sem, ↓reduceIte, Nat.reduceEqDiff, Nat.reduceLT, Nat.reduceLeDiff, Nat.reduceAdd, Nat.reduceMul, Nat.reduceSub, Int.reduceToNat, Int.reduceLT, Int.reduceLE, Int.reduceEq, Int.reduceNeg, Int.reduceAdd, Int.reduceSub, reduceCtorEq]

theorem to67 (a0 : Int) (a1 : Int) (a2 : List UInt8) (a3 : List (List D)) (h3 : Gives Try.prog 40 [.sl a3] (.d (.sl a3))) : Gives Try.prog 67 [.agg [.int .i64 a0, .int .i64 a1, .str a2, .sl a3]] (.d (.agg [.int .i64 a0, .int .i64 a1, .str a2, .sl a3])) := by
  refine ACalls.enter (fn := Try.f67) Try.func67 rfl (by show 1 ≤ _; decide) ?_
  refine run_sound Try.func67 mixed 100 _ _ (by kernel_rfl) ?_
  simp only [go_sem, ↓reduceIte, Nat.reduceEqDiff, Nat.reduceLT, Nat.reduceLeDiff, Nat.reduceAdd, Nat.reduceMul, Nat.reduceSub, Int.reduceToNat, Int.reduceLT, Int.reduceLE, Int.reduceEq, Int.reduceNeg, Int.reduceAdd, Int.reduceSub, reduceCtorEq]
  refine h3.calls rfl ?_
  simp only [go_sem, ↓reduceIte, Nat.reduceEqDiff, Nat.reduceLT, Nat.reduceLeDiff, Nat.reduceAdd, Nat.reduceMul, Nat.reduceSub, Int.reduceToNat, Int.reduceLT, Int.reduceLE, Int.reduceEq, Int.reduceNeg, Int.reduceAdd, Int.reduceSub, reduceCtorEq]

theorem eq43 (xs : List (List D)) (hm : xs.length ≤ maxLen) (hx : ∀ x, x ∈ xs → x.length = 4 ∧ Gives Try.prog 68 [.agg x, .agg x] (.d (.bool true))) : Gives Try.prog 43 [.sl xs, .sl xs] (.d (.bool true)) := by
  have hm' : (xs.length : Int) ≤ 9223372036854775807 := by simp only [maxLen] at hm; omega
  refine ACalls.enter (fn := Try.f43) Try.func43 rfl (by show 2 ≤ _; decide) ?_
  refine run_sound Try.func43 mixed 100 _ _ (by kernel_rfl) ?_
  simp only [go_sem, ↓reduceIte, Nat.reduceEqDiff, Nat.reduceLT, Nat.reduceLeDiff, Nat.reduceAdd, Nat.reduceMul, Nat.reduceSub, Int.reduceToNat, Int.reduceLT, Int.reduceLE, Int.reduceEq, Int.reduceNeg, Int.reduceAdd, Int.reduceSub, reduceCtorEq, bne_self_eq_false]
  refine AW.loop_ind (fun i : Nat => ⟨[(5, .d (.int .i64 i)), (0, .d (.sl xs)), (1, .d (.sl xs)), (4, .d (.bool false))], []⟩) (fun i => i ≤ xs.length) (fun i => xs.length - i) 0 (by omega) ?_ ?_
  · refine Weak.of (by simp) rfl ?_
    simp [Abs.get, C.refsLtT, C.refsLt, C.refsLt1]
  · intro i hi hnext
    by_cases h : i < xs.length
    · obtain ⟨x, hxi⟩ : ∃ x, xs[i]? = some x := ⟨_, List.getElem?_eq_getElem h⟩
      obtain ⟨e1, e2⟩ := hx x (List.mem_of_getElem? hxi)
      have hlt : ((i : Int) < (xs.length : Int)) = True := by simp; omega
      have h00 : (0 ≤ (i : Int)) = True := by simp
      refine run_sound Try.func43 mixed 100 _ _ (by kernel_rfl) ?_
      simp only [go_sem, ↓reduceIte, Nat.reduceEqDiff, Nat.reduceLT, Nat.reduceLeDiff, Nat.reduceAdd, Nat.reduceMul, Nat.reduceSub, Int.reduceToNat, Int.reduceLT, Int.reduceLE, Int.reduceEq, Int.reduceNeg, Int.reduceAdd, Int.reduceSub, reduceCtorEq, Int.toNat_natCast, hlt, hxi, idx_of hxi, e1, h00, bne_self_eq_false]
      refine e2.callQ rfl ?_
      simp only [go_sem, ↓reduceIte, Nat.reduceEqDiff, Nat.reduceLT, Nat.reduceLeDiff, Nat.reduceAdd, Nat.reduceMul, Nat.reduceSub, Int.reduceToNat, Int.reduceLT, Int.reduceLE, Int.reduceEq, Int.reduceNeg, Int.reduceAdd, Int.reduceSub, reduceCtorEq]
      rw [wrap_ok (by omega) (by omega)]
      refine hnext (i + 1) _ (by omega) (by omega) ?_
      refine Weak.of (by simp) rfl ?_
      simp [Abs.get, C.refsLtT, C.refsLt, C.refsLt1]
    · have hlt : ((i : Int) < (xs.length : Int)) = False := by simp; omega
      refine run_sound Try.func43 mixed 100 _ _ (by kernel_rfl) ?_
      simp only [go_sem, ↓reduceIte, Nat.reduceEqDiff, Nat.reduceLT, Nat.reduceLeDiff, Nat.reduceAdd, Nat.reduceMul, Nat.reduceSub, Int.reduceToNat, Int.reduceLT, Int.reduceLE, Int.reduceEq, Int.reduceNeg, Int.reduceAdd, Int.reduceSub, reduceCtorEq, hlt]

theorem eq68 (a0 : Int) (a1 : Int) (a2 : List UInt8) (a3 : List (List D)) (h3 : Gives Try.prog 43 [.sl a3, .sl a3] (.d (.bool true))) : Gives Try.prog 68 [.agg [.int .i64 a0, .int .i64 a1, .str a2, .sl a3], .agg [.int .i64 a0, .int .i64 a1, .str a2, .sl a3]] (.d (.bool true)) := by
  refine ACalls.enter (fn := Try.f68) Try.func68 rfl (by show 2 ≤ _; decide) ?_
  refine run_sound Try.func68 mixed 100 _ _ (by kernel_rfl) ?_
  simp only [go_sem, ↓reduceIte, Nat.reduceEqDiff, Nat.reduceLT, Nat.reduceLeDiff, Nat.reduceAdd, Nat.reduceMul, Nat.reduceSub, Int.reduceToNat, Int.reduceLT, Int.reduceLE, Int.reduceEq, Int.reduceNeg, Int.reduceAdd, Int.reduceSub, reduceCtorEq, bne_self_eq_false]
  refine h3.calls rfl ?_
  simp only [go_sem, ↓reduceIte, Nat.reduceEqDiff, Nat.reduceLT, Nat.reduceLeDiff, Nat.reduceAdd, Nat.reduceMul, Nat.reduceSub, Int.reduceToNat, Int.reduceLT, Int.reduceLE, Int.reduceEq, Int.reduceNeg, Int.reduceAdd, Int.reduceSub, reduceCtorEq, bne_self_eq_false]

theorem mk117 (a0 : Int) (a1 : Int) (a2 : List UInt8) (a3 : List (List D)) (q0 : (Lit.int .i64 a0).wf = true) (q1 : (Lit.int .i64 a1).wf = true) (q2 : a2.length ≤ maxLen) (q3 : a3.length ≤ maxLen ∧ ∀ x, x ∈ a3 → Sh Try.prog 117 x) : Sh Try.prog 117 [.int .i64 a0, .int .i64 a1, .str a2, .sl a3] := by
  refine ⟨_, lv117, rfl, fun i l c hl hc => ?_⟩
  match i with
  | 0 => simp at hl hc; subst hl hc; exact .int _ _ q0
  | 1 => simp at hl hc; subst hl hc; exact .int _ _ q1
  | 2 => simp at hl hc; subst hl hc; exact .str _ q2
  | 3 => simp at hl hc; subst hl hc; exact ShC.sl_of lv117 q3.1 q3.2
  | i + 4 => simp at hl

theorem len117 {x : List D} (h : Sh Try.prog 117 x) : x.length = 4 := by
  obtain ⟨_, _, _, _, rfl, _⟩ := inv117 h
  rfl
theorem szc117 : ∀ (m : Nat) (x : List D), wtL x < m → Sh Try.prog 117 x → ∀ n : Int, 0 ≤ n → n ≤ 1048576 → Gives Try.prog 66 [.agg x, .int .i64 n] (.d (.int .i64 (szr n (wtL x))))
  | 0, _, hm, _ => by omega
  | m + 1, x, hm, h => by
    obtain ⟨a0, a1, a2, a3, rfl, q0, q1, q2, q3⟩ := inv117 h
    have hw : wtL [.int .i64 a0, .int .i64 a1, .str a2, .sl a3] = a2.length + wtR a3 := by simp only [wtL, D.wt] <;> omega
    exact fun n g0 g1 => sz66 a0 a1 a2 a3 q2 (fun n g0 g1 => sz37 a3 q3.1 (fun x hx => ⟨len117 (q3.2 x hx), szc117 m x (by have := wtL_lt a3 x hx; omega) (q3.2 x hx)⟩) n g0 g1) n g0 g1
theorem toc117 : ∀ (m : Nat) (x : List D), wtL x < m → wtL x ≤ 1048576 → Sh Try.prog 117 x → Gives Try.prog 67 [.agg x] (.d (.agg x))
  | 0, _, hm, _, _ => by omega
  | m + 1, x, hm, hb, h => by
    obtain ⟨a0, a1, a2, a3, rfl, q0, q1, q2, q3⟩ := inv117 h
    have hw : wtL [.int .i64 a0, .int .i64 a1, .str a2, .sl a3] = a2.length + wtR a3 := by simp only [wtL, D.wt] <;> omega
    exact to67 a0 a1 a2 a3 (to40 a3 (by have := sumW_le a3 0; omega) (fun x hx => ⟨len117 (q3.2 x hx), toc117 m x (by have := wtL_lt a3 x hx; omega) (by have := wtL_lt a3 x hx; omega) (q3.2 x hx)⟩))
theorem eqc117 : ∀ (m : Nat) (x : List D), wtL x < m → Sh Try.prog 117 x → Gives Try.prog 68 [.agg x, .agg x] (.d (.bool true))
  | 0, _, hm, _ => by omega
  | m + 1, x, hm, h => by
    obtain ⟨a0, a1, a2, a3, rfl, q0, q1, q2, q3⟩ := inv117 h
    have hw : wtL [.int .i64 a0, .int .i64 a1, .str a2, .sl a3] = a2.length + wtR a3 := by simp only [wtL, D.wt] <;> omega
    exact eq68 a0 a1 a2 a3 (eq43 a3 q3.1 (fun x hx => ⟨len117 (q3.2 x hx), eqc117 m x (by have := wtL_lt a3 x hx; omega) (q3.2 x hx)⟩))

theorem sh_Tm (x : List D) (h : Sh Try.prog 117 x) : ∃ t, x = Tm.enc t := Tm.of_sh lv117 x h
theorem sl_24 {x : D} (h : Sh Try.prog 24 [x]) : ∃ l : List Tm, x = .sl (l.map Tm.enc) := shL (by kernel_rfl) sh_Tm h

theorem szs24 (xs : List (List D)) (hm : xs.length ≤ maxLen) (h : ∀ x, x ∈ xs → Sh Try.prog 117 x) (n : Int) (g0 : 0 ≤ n) (g1 : n ≤ 1048576) : Gives Try.prog 37 [.sl xs, .int .i64 n] (.d (.int .i64 (szr n (wtR xs)))) :=
  sz37 xs hm (fun x hx => ⟨len117 (h x hx), szc117 _ x (Nat.lt_succ_self _) (h x hx)⟩) n g0 g1
theorem tos24 (xs : List (List D)) (hb : wtR xs ≤ 1048576) (h : ∀ x, x ∈ xs → Sh Try.prog 117 x) : Gives Try.prog 40 [.sl xs] (.d (.sl xs)) :=
  to40 xs (by have := sumW_le xs 0; omega) (fun x hx => ⟨len117 (h x hx), toc117 _ x (Nat.lt_succ_self _) (by have := wtL_lt xs x hx; omega) (h x hx)⟩)
theorem eqs24 (xs : List (List D)) (hm : xs.length ≤ maxLen) (h : ∀ x, x ∈ xs → Sh Try.prog 117 x) : Gives Try.prog 43 [.sl xs, .sl xs] (.d (.bool true)) :=
  eq43 xs hm (fun x hx => ⟨len117 (h x hx), eqc117 _ x (Nat.lt_succ_self _) (h x hx)⟩)

theorem lv38 : leaves Try.prog 6 38 = some [.str, .sl 117] := by kernel_rfl
theorem inv38 {x : List D} (h : Sh Try.prog 38 x) : ∃ a0 a1, x = [.str a0, .sl a1] ∧ a0.length ≤ maxLen ∧ (a1.length ≤ maxLen ∧ ∀ x, x ∈ a1 → Sh Try.prog 117 x) := by
  obtain ⟨ls, h1, h2, h3⟩ := h
  rw [lv38] at h1
  cases h1
  match x, h2, h3 with
  | [c0, c1], _, h3 =>
    have g0 := h3 0 _ _ rfl rfl
    have g1 := h3 1 _ _ rfl rfl
    obtain ⟨b0, rfl, q0⟩ := g0.str_inv
    obtain ⟨b1, rfl, q1⟩ := g1.elems
    exact ⟨_, _, rfl, q0, q1⟩

theorem sz18 (a0 : List UInt8) (a1 : List (List D)) (h0 : a0.length ≤ maxLen) (h1 : ∀ n : Int, 0 ≤ n → n ≤ 1048576 → Gives Try.prog 37 [.sl a1, .int .i64 n] (.d (.int .i64 (szr n (wtR a1)))))
    (n : Int) (g0 : 0 ≤ n) (g1 : n ≤ 1048576) : Gives Try.prog 18 [.agg [.str a0, .sl a1], .int .i64 n] (.d (.int .i64 (szr n (wtL [.str a0, .sl a1])))) := by
  have hw : wtL [.str a0, .sl a1] = a0.length + wtR a1 := by simp only [wtL, D.wt] <;> omega
  simp only [maxLen] at h0
  rw [hw]
  refine ACalls.enter (fn := Try.f18) Try.func18 rfl (by show 2 ≤ _; decide) ?_
  refine run_sound Try.func18 mixed 100 _ _ (by kernel_rfl) ?_
  simp only [go_sem, ↓reduceIte, Nat.reduceEqDiff, Nat.reduceLT, Nat.reduceLeDiff, Nat.reduceAdd, Nat.reduceMul, Nat.reduceSub, Int.reduceToNat, Int.reduceLT, Int.reduceLE, Int.reduceEq, Int.reduceNeg, Int.reduceAdd, Int.reduceSub, reduceCtorEq]
  rw [wrap_ok (by omega) (by omega)]
  refine br_intro (fun h => ?_) (fun h => ?_)
  · simp only [decide_eq_true_eq] at h
    simp only [go_sem, ↓reduceIte, Nat.reduceEqDiff, Nat.reduceLT, Nat.reduceLeDiff, Nat.reduceAdd, Nat.reduceMul, Nat.reduceSub, Int.reduceToNat, Int.reduceLT, Int.reduceLE, Int.reduceEq, Int.reduceNeg, Int.reduceAdd, Int.reduceSub, reduceCtorEq]
    rw [szr_neg (by omega)]
  simp only [decide_eq_false_iff_not, Int.not_lt] at h
  simp only [go_sem, ↓reduceIte, Nat.reduceEqDiff, Nat.reduceLT, Nat.reduceLeDiff, Nat.reduceAdd, Nat.reduceMul, Nat.reduceSub, Int.reduceToNat, Int.reduceLT, Int.reduceLE, Int.reduceEq, Int.reduceNeg, Int.reduceAdd, Int.reduceSub, reduceCtorEq]
  refine (h1 _ (by omega) (by omega)).calls rfl ?_
  simp only [go_sem, ↓reduceIte, Nat.reduceEqDiff, Nat.reduceLT, Nat.reduceLeDiff, Nat.reduceAdd, Nat.reduceMul, Nat.reduceSub, Int.reduceToNat, Int.reduceLT, Int.reduceLE, Int.reduceEq, Int.reduceNeg, Int.reduceAdd, Int.reduceSub, reduceCtorEq]
  refine br_intro (fun h => ?_) (fun h => ?_)
  · simp only [decide_eq_true_eq] at h
    have hg := szr_lt h
    simp only [go_sem, ↓reduceIte, Nat.reduceEqDiff, Nat.reduceLT, Nat.reduceLeDiff, Nat.reduceAdd, Nat.reduceMul, Nat.reduceSub, Int.reduceToNat, Int.reduceLT, Int.reduceLE, Int.reduceEq, Int.reduceNeg, Int.reduceAdd, Int.reduceSub, reduceCtorEq]
    rw [szr_neg (by omega)]
  simp only [decide_eq_false_iff_not] at h
  have hg := szr_ge h
  rw [szr_pos hg]
  clear h
  simp only [go_sem, ↓reduceIte, Nat.reduceEqDiff, Nat.reduceLT, Nat.reduceLeDiff, Nat.reduceAdd, Nat.reduceMul, Nat.reduceSub, Int.reduceToNat, Int.reduceLT, Int.reduceLE, Int.reduceEq, Int.reduceNeg, Int.reduceAdd, Int.reduceSub, reduceCtorEq]
  all_goals rw [szr_pos (by omega)]
  all_goals (congr 2 <;> omega)

theorem to20 (a0 : List UInt8) (a1 : List (List D)) (h1 : Gives Try.prog 40 [.sl a1] (.d (.sl a1))) : Gives Try.prog 20 [.agg [.str a0, .sl a1]] (.d (.agg [.str a0, .sl a1])) := by
  refine ACalls.enter (fn := Try.f20) Try.func20 rfl (by show 1 ≤ _; decide) ?_
  refine run_sound Try.func20 mixed 100 _ _ (by kernel_rfl) ?_
  simp only [go_sem, ↓reduceIte, Nat.reduceEqDiff, Nat.reduceLT, Nat.reduceLeDiff, Nat.reduceAdd, Nat.reduceMul, Nat.reduceSub, Int.reduceToNat, Int.reduceLT, Int.reduceLE, Int.reduceEq, Int.reduceNeg, Int.reduceAdd, Int.reduceSub, reduceCtorEq]
  refine h1.calls rfl ?_
  simp only [go_sem, ↓reduceIte, Nat.reduceEqDiff, Nat.reduceLT, Nat.reduceLeDiff, Nat.reduceAdd, Nat.reduceMul, Nat.reduceSub, Int.reduceToNat, Int.reduceLT, Int.reduceLE, Int.reduceEq, Int.reduceNeg, Int.reduceAdd, Int.reduceSub, reduceCtorEq]

theorem eq22 (a0 : List UInt8) (a1 : List (List D)) (h1 : Gives Try.prog 43 [.sl a1, .sl a1] (.d (.bool true))) : Gives Try.prog 22 [.agg [.str a0, .sl a1], .agg [.str a0, .sl a1]] (.d (.bool true)) := by
  refine ACalls.enter (fn := Try.f22) Try.func22 rfl (by show 2 ≤ _; decide) ?_
  refine run_sound Try.func22 mixed 100 _ _ (by kernel_rfl) ?_
  simp only [go_sem, ↓reduceIte, Nat.reduceEqDiff, Nat.reduceLT, Nat.reduceLeDiff, Nat.reduceAdd, Nat.reduceMul, Nat.reduceSub, Int.reduceToNat, Int.reduceLT, Int.reduceLE, Int.reduceEq, Int.reduceNeg, Int.reduceAdd, Int.reduceSub, reduceCtorEq, bne_self_eq_false]
  refine h1.calls rfl ?_
  simp only [go_sem, ↓reduceIte, Nat.reduceEqDiff, Nat.reduceLT, Nat.reduceLeDiff, Nat.reduceAdd, Nat.reduceMul, Nat.reduceSub, Int.reduceToNat, Int.reduceLT, Int.reduceLE, Int.reduceEq, Int.reduceNeg, Int.reduceAdd, Int.reduceSub, reduceCtorEq, bne_self_eq_false]

theorem mk38 (a0 : List UInt8) (a1 : List (List D)) (q0 : a0.length ≤ maxLen) (q1 : a1.length ≤ maxLen ∧ ∀ x, x ∈ a1 → Sh Try.prog 117 x) : Sh Try.prog 38 [.str a0, .sl a1] := by
  refine ⟨_, lv38, rfl, fun i l c hl hc => ?_⟩
  match i with
  | 0 => simp at hl hc; subst hl hc; exact .str _ q0
  | 1 => simp at hl hc; subst hl hc; exact ShC.sl_of lv117 q1.1 q1.2
  | i + 2 => simp at hl

theorem len38 {x : List D} (h : Sh Try.prog 38 x) : x.length = 2 := by
  obtain ⟨_, _, rfl, _⟩ := inv38 h
  rfl
theorem szc38 : ∀ (m : Nat) (x : List D), wtL x < m → Sh Try.prog 38 x → ∀ n : Int, 0 ≤ n → n ≤ 1048576 → Gives Try.prog 18 [.agg x, .int .i64 n] (.d (.int .i64 (szr n (wtL x))))
  | 0, _, hm, _ => by omega
  | m + 1, x, hm, h => by
    obtain ⟨a0, a1, rfl, q0, q1⟩ := inv38 h
    have hw : wtL [.str a0, .sl a1] = a0.length + wtR a1 := by simp only [wtL, D.wt] <;> omega
    exact fun n g0 g1 => sz18 a0 a1 q0 (fun n g0 g1 => szs24 a1 q1.1 q1.2 n g0 g1) n g0 g1
theorem toc38 : ∀ (m : Nat) (x : List D), wtL x < m → wtL x ≤ 1048576 → Sh Try.prog 38 x → Gives Try.prog 20 [.agg x] (.d (.agg x))
  | 0, _, hm, _, _ => by omega
  | m + 1, x, hm, hb, h => by
    obtain ⟨a0, a1, rfl, q0, q1⟩ := inv38 h
    have hw : wtL [.str a0, .sl a1] = a0.length + wtR a1 := by simp only [wtL, D.wt] <;> omega
    exact to20 a0 a1 (tos24 a1 (by omega) q1.2)
theorem eqc38 : ∀ (m : Nat) (x : List D), wtL x < m → Sh Try.prog 38 x → Gives Try.prog 22 [.agg x, .agg x] (.d (.bool true))
  | 0, _, hm, _ => by omega
  | m + 1, x, hm, h => by
    obtain ⟨a0, a1, rfl, q0, q1⟩ := inv38 h
    have hw : wtL [.str a0, .sl a1] = a0.length + wtR a1 := by simp only [wtL, D.wt] <;> omega
    exact eq22 a0 a1 (eqs24 a1 q1.1 q1.2)

theorem sh_Fc (x : List D) (h : Sh Try.prog 38 x) : ∃ t, x = Fc.enc t := Fc.of_sh lv38 sh_Tm x h

theorem lv48 : leaves Try.prog 6 48 = some [.int .i64, .str, .sl 117, .sl 48] := by kernel_rfl
theorem inv48 {x : List D} (h : Sh Try.prog 48 x) : ∃ a0 a1 a2 a3, x = [.int .i64 a0, .str a1, .sl a2, .sl a3] ∧ (Lit.int .i64 a0).wf = true ∧ a1.length ≤ maxLen ∧ (a2.length ≤ maxLen ∧ ∀ x, x ∈ a2 → Sh Try.prog 117 x) ∧ (a3.length ≤ maxLen ∧ ∀ x, x ∈ a3 → Sh Try.prog 48 x) := by
  obtain ⟨ls, h1, h2, h3⟩ := h
  rw [lv48] at h1
  cases h1
  match x, h2, h3 with
  | [c0, c1, c2, c3], _, h3 =>
    have g0 := h3 0 _ _ rfl rfl
    have g1 := h3 1 _ _ rfl rfl
    have g2 := h3 2 _ _ rfl rfl
    have g3 := h3 3 _ _ rfl rfl
    obtain ⟨b0, rfl, q0⟩ := g0.int_inv
    obtain ⟨b1, rfl, q1⟩ := g1.str_inv
    obtain ⟨b2, rfl, q2⟩ := g2.elems
    obtain ⟨b3, rfl, q3⟩ := g3.elems
    exact ⟨_, _, _, _, rfl, q0, q1, q2, q3⟩

theorem sz50 (xs : List (List D)) (hm : xs.length ≤ maxLen) (hx : ∀ x, x ∈ xs → x.length = 4 ∧ ∀ n : Int, 0 ≤ n → n ≤ 1048576 → Gives Try.prog 23 [.agg x, .int .i64 n] (.d (.int .i64 (szr n (wtL x)))))
    (n : Int) (h0 : 0 ≤ n) (h1 : n ≤ 1048576) : Gives Try.prog 50 [.sl xs, .int .i64 n] (.d (.int .i64 (szr n (wtR xs)))) := by
  have hm' : (xs.length : Int) ≤ 9223372036854775807 := by simp only [maxLen] at hm; omega
  have hs := sumW_all xs
  have hs0 := sumW_le xs 0
  simp only [sumW] at hs0
  refine ACalls.enter (fn := Try.f50) Try.func50 rfl (by show 2 ≤ _; decide) ?_
  refine run_sound Try.func50 mixed 100 _ _ (by kernel_rfl) ?_
  simp only [go_sem, ↓reduceIte, Nat.reduceEqDiff, Nat.reduceLT, Nat.reduceLeDiff, Nat.reduceAdd, Nat.reduceMul, Nat.reduceSub, Int.reduceToNat, Int.reduceLT, Int.reduceLE, Int.reduceEq, Int.reduceNeg, Int.reduceAdd, Int.reduceSub, reduceCtorEq]
  rw [wrap_ok (by omega) (by omega)]
  refine br_intro (fun h => ?_) (fun h => ?_)
  · simp only [decide_eq_true_eq] at h
    simp only [go_sem, ↓reduceIte, Nat.reduceEqDiff, Nat.reduceLT, Nat.reduceLeDiff, Nat.reduceAdd, Nat.reduceMul, Nat.reduceSub, Int.reduceToNat, Int.reduceLT, Int.reduceLE, Int.reduceEq, Int.reduceNeg, Int.reduceAdd, Int.reduceSub, reduceCtorEq]
    rw [szr_neg (by omega)]
  simp only [decide_eq_false_iff_not, Int.not_lt] at h
  simp only [go_sem, ↓reduceIte, Nat.reduceEqDiff, Nat.reduceLT, Nat.reduceLeDiff, Nat.reduceAdd, Nat.reduceMul, Nat.reduceSub, Int.reduceToNat, Int.reduceLT, Int.reduceLE, Int.reduceEq, Int.reduceNeg, Int.reduceAdd, Int.reduceSub, reduceCtorEq]
  refine AW.loop_ind (fun i : Nat => ⟨[(5, .d (.int .i64 i)), (0, .d (.sl xs)), (1, .d (.int .i64 (n - xs.length - sumW xs i))), (4, .d (.int .i64 0))], []⟩) (fun i => i ≤ xs.length ∧ (sumW xs i : Int) ≤ n - xs.length) (fun i => xs.length - i) 0 ⟨by omega, by simp only [sumW]; omega⟩ ?_ ?_
  · refine Weak.of (by simp) rfl ?_
    simp [Abs.get, sumW, C.refsLtT, C.refsLt, C.refsLt1]
  · intro i hi hnext
    obtain ⟨hi1, hi2⟩ := hi
    refine run_sound Try.func50 mixed 100 _ _ (by kernel_rfl) ?_
    simp only [go_sem, ↓reduceIte, Nat.reduceEqDiff, Nat.reduceLT, Nat.reduceLeDiff, Nat.reduceAdd, Nat.reduceMul, Nat.reduceSub, Int.reduceToNat, Int.reduceLT, Int.reduceLE, Int.reduceEq, Int.reduceNeg, Int.reduceAdd, Int.reduceSub, reduceCtorEq]
    refine br_intro (fun h => ?_) (fun h => ?_)
    · simp only [decide_eq_true_eq] at h
      have hi : i < xs.length := by omega
      obtain ⟨x, hxi⟩ : ∃ x, xs[i]? = some x := ⟨_, List.getElem?_eq_getElem hi⟩
      have hsum := sumW_at hxi
      have hle := sumW_le xs (i + 1)
      obtain ⟨e1, e2⟩ := hx x (List.mem_of_getElem? hxi)
      simp only [go_sem, ↓reduceIte, Nat.reduceEqDiff, Nat.reduceLT, Nat.reduceLeDiff, Nat.reduceAdd, Nat.reduceMul, Nat.reduceSub, Int.reduceToNat, Int.reduceLT, Int.reduceLE, Int.reduceEq, Int.reduceNeg, Int.reduceAdd, Int.reduceSub, reduceCtorEq, Int.toNat_natCast, hxi, idx_of hxi, e1]
      repeat refine And.intro (by omega) ?_
      refine (e2 _ (by omega) (by omega)).calls rfl ?_
      simp only [go_sem, ↓reduceIte, Nat.reduceEqDiff, Nat.reduceLT, Nat.reduceLeDiff, Nat.reduceAdd, Nat.reduceMul, Nat.reduceSub, Int.reduceToNat, Int.reduceLT, Int.reduceLE, Int.reduceEq, Int.reduceNeg, Int.reduceAdd, Int.reduceSub, reduceCtorEq]
      refine br_intro (fun h => ?_) (fun h => ?_)
      · simp only [decide_eq_true_eq] at h
        have hg := szr_lt h
        simp only [go_sem, ↓reduceIte, Nat.reduceEqDiff, Nat.reduceLT, Nat.reduceLeDiff, Nat.reduceAdd, Nat.reduceMul, Nat.reduceSub, Int.reduceToNat, Int.reduceLT, Int.reduceLE, Int.reduceEq, Int.reduceNeg, Int.reduceAdd, Int.reduceSub, reduceCtorEq]
        rw [szr_neg (by omega)]
      · simp only [decide_eq_false_iff_not] at h
        have hg := szr_ge h
        rw [szr_pos hg]
        simp only [go_sem, ↓reduceIte, Nat.reduceEqDiff, Nat.reduceLT, Nat.reduceLeDiff, Nat.reduceAdd, Nat.reduceMul, Nat.reduceSub, Int.reduceToNat, Int.reduceLT, Int.reduceLE, Int.reduceEq, Int.reduceNeg, Int.reduceAdd, Int.reduceSub, reduceCtorEq]
        rw [wrap_ok (by omega) (by omega)]
        refine hnext (i + 1) _ ⟨by omega, by omega⟩ (by omega) ?_
        refine Weak.of (by simp) rfl ?_
        simp [Abs.get, C.refsLtT, C.refsLt, C.refsLt1]
        omega
    · simp only [decide_eq_false_iff_not] at h
      have : i = xs.length := by omega
      subst this
      simp only [go_sem, ↓reduceIte, Nat.reduceEqDiff, Nat.reduceLT, Nat.reduceLeDiff, Nat.reduceAdd, Nat.reduceMul, Nat.reduceSub, Int.reduceToNat, Int.reduceLT, Int.reduceLE, Int.reduceEq, Int.reduceNeg, Int.reduceAdd, Int.reduceSub, reduceCtorEq]
      rw [szr_pos (by omega)]
      all_goals (congr 2 <;> omega)

theorem sz23 (a0 : Int) (a1 : List UInt8) (a2 : List (List D)) (a3 : List (List D)) (h1 : a1.length ≤ maxLen) (h2 : ∀ n : Int, 0 ≤ n → n ≤ 1048576 → Gives Try.prog 37 [.sl a2, .int .i64 n] (.d (.int .i64 (szr n (wtR a2))))) (h3 : ∀ n : Int, 0 ≤ n → n ≤ 1048576 → Gives Try.prog 50 [.sl a3, .int .i64 n] (.d (.int .i64 (szr n (wtR a3)))))
    (n : Int) (g0 : 0 ≤ n) (g1 : n ≤ 1048576) : Gives Try.prog 23 [.agg [.int .i64 a0, .str a1, .sl a2, .sl a3], .int .i64 n] (.d (.int .i64 (szr n (wtL [.int .i64 a0, .str a1, .sl a2, .sl a3])))) := by
  have hw : wtL [.int .i64 a0, .str a1, .sl a2, .sl a3] = a1.length + wtR a2 + wtR a3 := by simp only [wtL, D.wt] <;> omega
  simp only [maxLen] at h1
  rw [hw]
  refine ACalls.enter (fn := Try.f23) Try.func23 rfl (by show 2 ≤ _; decide) ?_
  refine run_sound Try.func23 mixed 100 _ _ (by kernel_rfl) ?_
  simp only [go_sem, ↓reduceIte, Nat.reduceEqDiff, Nat.reduceLT, Nat.reduceLeDiff, Nat.reduceAdd, Nat.reduceMul, Nat.reduceSub, Int.reduceToNat, Int.reduceLT, Int.reduceLE, Int.reduceEq, Int.reduceNeg, Int.reduceAdd, Int.reduceSub, reduceCtorEq]
  rw [wrap_ok (by omega) (by omega)]
  refine br_intro (fun h => ?_) (fun h => ?_)
  · simp only [decide_eq_true_eq] at h
    simp only [go_sem, ↓reduceIte, Nat.reduceEqDiff, Nat.reduceLT, Nat.reduceLeDiff, Nat.reduceAdd, Nat.reduceMul, Nat.reduceSub, Int.reduceToNat, Int.reduceLT, Int.reduceLE, Int.reduceEq, Int.reduceNeg, Int.reduceAdd, Int.reduceSub, reduceCtorEq]
    rw [szr_neg (by omega)]
  simp only [decide_eq_false_iff_not, Int.not_lt] at h
  simp only [go_sem, ↓reduceIte, Nat.reduceEqDiff, Nat.reduceLT, Nat.reduceLeDiff, Nat.reduceAdd, Nat.reduceMul, Nat.reduceSub, Int.reduceToNat, Int.reduceLT, Int.reduceLE, Int.reduceEq, Int.reduceNeg, Int.reduceAdd, Int.reduceSub, reduceCtorEq]
  refine (h2 _ (by omega) (by omega)).calls rfl ?_
  simp only [go_sem, ↓reduceIte, Nat.reduceEqDiff, Nat.reduceLT, Nat.reduceLeDiff, Nat.reduceAdd, Nat.reduceMul, Nat.reduceSub, Int.reduceToNat, Int.reduceLT, Int.reduceLE, Int.reduceEq, Int.reduceNeg, Int.reduceAdd, Int.reduceSub, reduceCtorEq]
  refine br_intro (fun h => ?_) (fun h => ?_)
  · simp only [decide_eq_true_eq] at h
    have hg := szr_lt h
    simp only [go_sem, ↓reduceIte, Nat.reduceEqDiff, Nat.reduceLT, Nat.reduceLeDiff, Nat.reduceAdd, Nat.reduceMul, Nat.reduceSub, Int.reduceToNat, Int.reduceLT, Int.reduceLE, Int.reduceEq, Int.reduceNeg, Int.reduceAdd, Int.reduceSub, reduceCtorEq]
    rw [szr_neg (by omega)]
  simp only [decide_eq_false_iff_not] at h
  have hg := szr_ge h
  rw [szr_pos hg]
  clear h
  simp only [go_sem, ↓reduceIte, Nat.reduceEqDiff, Nat.reduceLT, Nat.reduceLeDiff, Nat.reduceAdd, Nat.reduceMul, Nat.reduceSub, Int.reduceToNat, Int.reduceLT, Int.reduceLE, Int.reduceEq, Int.reduceNeg, Int.reduceAdd, Int.reduceSub, reduceCtorEq]
  refine (h3 _ (by omega) (by omega)).calls rfl ?_
  simp only [go_sem, ↓reduceIte, Nat.reduceEqDiff, Nat.reduceLT, Nat.reduceLeDiff, Nat.reduceAdd, Nat.reduceMul, Nat.reduceSub, Int.reduceToNat, Int.reduceLT, Int.reduceLE, Int.reduceEq, Int.reduceNeg, Int.reduceAdd, Int.reduceSub, reduceCtorEq]
  refine br_intro (fun h => ?_) (fun h => ?_)
  · simp only [decide_eq_true_eq] at h
    have hg := szr_lt h
    simp only [go_sem, ↓reduceIte, Nat.reduceEqDiff, Nat.reduceLT, Nat.reduceLeDiff, Nat.reduceAdd, Nat.reduceMul, Nat.reduceSub, Int.reduceToNat, Int.reduceLT, Int.reduceLE, Int.reduceEq, Int.reduceNeg, Int.reduceAdd, Int.reduceSub, reduceCtorEq]
    rw [szr_neg (by omega)]
  simp only [decide_eq_false_iff_not] at h
  have hg := szr_ge h
  rw [szr_pos hg]
  clear h
  simp only [go_sem, ↓reduceIte, Nat.reduceEqDiff, Nat.reduceLT, Nat.reduceLeDiff, Nat.reduceAdd, Nat.reduceMul, Nat.reduceSub, Int.reduceToNat, Int.reduceLT, Int.reduceLE, Int.reduceEq, Int.reduceNeg, Int.reduceAdd, Int.reduceSub, reduceCtorEq]
  all_goals rw [szr_pos (by omega)]
  all_goals (congr 2 <;> omega)

theorem to53 (xs : List (List D)) (hl : xs.length ≤ 1048576) (hx : ∀ x, x ∈ xs → x.length = 4 ∧ Gives Try.prog 25 [.agg x] (.d (.agg x))) : Gives Try.prog 53 [.sl xs] (.d (.sl xs)) := by
  refine ACalls.enter (fn := Try.f53) Try.func53 rfl (by show 1 ≤ _; decide) ?_
  refine run_sound Try.func53 mixed 100 _ _ (by kernel_rfl) ?_
  simp only [go_sem, ↓reduceIte, Nat.reduceEqDiff, Nat.reduceLT, Nat.reduceLeDiff, Nat.reduceAdd, Nat.reduceMul, Nat.reduceSub, Int.reduceToNat, Int.reduceLT, Int.reduceLE, Int.reduceEq, Int.reduceNeg, Int.reduceAdd, Int.reduceSub, reduceCtorEq, Int.toNat_natCast]
  repeat refine And.intro (by first | omega | (simp only [maxLen]; omega)) ?_
  refine AW.loop_ind (fun i : Nat => ⟨[(4, .d (.int .i64 i)), (0, .d (.sl xs)), (3, .rsl 0 xs.length), (2, .nil0)], [.row 4 54 (xs.take i ++ List.replicate (xs.length - i) [.int .i64 0, .str [], .sl [], .sl []])]⟩) (fun i => i ≤ xs.length) (fun i => xs.length - i) 0 (by omega) ?_ ?_
  · refine Weak.of (by simp) rfl ?_
    simp [Abs.get, C.refsLtT, C.refsLt, C.refsLt1]
  · intro i hi hnext
    by_cases h : i < xs.length
    · obtain ⟨x, hxi⟩ : ∃ x, xs[i]? = some x := ⟨_, List.getElem?_eq_getElem h⟩
      obtain ⟨e1, e2⟩ := hx x (List.mem_of_getElem? hxi)
      have hlt : ((i : Int) < (xs.length : Int)) = True := by simp; omega
      refine run_sound Try.func53 mixed 100 _ _ (by kernel_rfl) ?_
      simp only [go_sem, ↓reduceIte, Nat.reduceEqDiff, Nat.reduceLT, Nat.reduceLeDiff, Nat.reduceAdd, Nat.reduceMul, Nat.reduceSub, Int.reduceToNat, Int.reduceLT, Int.reduceLE, Int.reduceEq, Int.reduceNeg, Int.reduceAdd, Int.reduceSub, reduceCtorEq, Int.toNat_natCast, hlt, hxi, idx_of hxi, e1]
      repeat refine And.intro (by omega) ?_
      refine e2.calls rfl ?_
      simp only [go_sem, ↓reduceIte, Nat.reduceEqDiff, Nat.reduceLT, Nat.reduceLeDiff, Nat.reduceAdd, Nat.reduceMul, Nat.reduceSub, Int.reduceToNat, Int.reduceLT, Int.reduceLE, Int.reduceEq, Int.reduceNeg, Int.reduceAdd, Int.reduceSub, reduceCtorEq, Int.toNat_natCast, hlt, hxi, idx_of hxi, e1]
      repeat refine And.intro (by first | omega | (simp; omega) | (simp_all; done)) ?_
      rw [wrap_ok (by omega) (by omega)]
      first | rw [row_step (k := 4) hxi (by rfl)] | rw [row_step1 hxi (by rfl)]
      refine hnext (i + 1) _ (by omega) (by omega) ?_
      refine Weak.of (by simp) rfl ?_
      simp [Abs.get, C.refsLtT, C.refsLt, C.refsLt1]
    · have hlt : ((i : Int) < (xs.length : Int)) = False := by simp; omega
      refine run_sound Try.func53 mixed 6 _ _ (by kernel_rfl) ?_
      simp only [go_sem, ↓reduceIte, Nat.reduceEqDiff, Nat.reduceLT, Nat.reduceLeDiff, Nat.reduceAdd, Nat.reduceMul, Nat.reduceSub, Int.reduceToNat, Int.reduceLT, Int.reduceLE, Int.reduceEq, Int.reduceNeg, Int.reduceAdd, Int.reduceSub, reduceCtorEq, Int.toNat_natCast, hlt]
      obtain rfl : i = xs.length := by omega
      rw [row_all]
      refine AW.freeze 3 0 rfl rfl rfl ?_
      refine run_sound Try.func53 mixed 100 _ _ (by kernel_rfl) ?_
      simp only [go_sem, ↓reduceIte, Nat.reduceEqDiff, Nat.reduceLT, Nat.reduceLeDiff, Nat.reduceAdd, Nat.reduceMul, Nat.reduceSub, Int.reduceToNat, Int.reduceLT, Int.reduceLE, Int.reduceEq, Int.reduceNeg, Int.reduceAdd, Int.reduceSub, reduceCtorEq]

theorem to25 (a0 : Int) (a1 : List UInt8) (a2 : List (List D)) (a3 : List (List D)) (h2 : Gives Try.prog 40 [.sl a2] (.d (.sl a2))) (h3 : Gives Try.prog 53 [.sl a3] (.d (.sl a3))) : Gives Try.prog 25 [.agg [.int .i64 a0, .str a1, .sl a2, .sl a3]] (.d (.agg [.int .i64 a0, .str a1, .sl a2, .sl a3])) := by
  refine ACalls.enter (fn := Try.f25) Try.func25 rfl (by show 1 ≤ _; decide) ?_
  refine run_sound Try.func25 mixed 100 _ _ (by kernel_rfl) ?_
  simp only [go_sem, ↓reduceIte, Nat.reduceEqDiff, Nat.reduceLT, Nat.reduceLeDiff, Nat.reduceAdd, Nat.reduceMul, Nat.reduceSub, Int.reduceToNat, Int.reduceLT, Int.reduceLE, Int.reduceEq, Int.reduceNeg, Int.reduceAdd, Int.reduceSub, reduceCtorEq]
  refine h2.calls rfl ?_
  simp only [go_sem, ↓reduceIte, Nat.reduceEqDiff, Nat.reduceLT, Nat.reduceLeDiff, Nat.reduceAdd, Nat.reduceMul, Nat.reduceSub, Int.reduceToNat, Int.reduceLT, Int.reduceLE, Int.reduceEq, Int.reduceNeg, Int.reduceAdd, Int.reduceSub, reduceCtorEq]
  refine h3.calls rfl ?_
  simp only [go_sem, ↓reduceIte, Nat.reduceEqDiff, Nat.reduceLT, Nat.reduceLeDiff, Nat.reduceAdd, Nat.reduceMul, Nat.reduceSub, Int.reduceToNat, Int.reduceLT, Int.reduceLE, Int.reduceEq, Int.reduceNeg, Int.reduceAdd, Int.reduceSub, reduceCtorEq]

theorem eq56 (xs : List (List D)) (hm : xs.length ≤ maxLen) (hx : ∀ x, x ∈ xs → x.length = 4 ∧ Gives Try.prog 28 [.agg x, .agg x] (.d (.bool true))) : Gives Try.prog 56 [.sl xs, .sl xs] (.d (.bool true)) := by
  have hm' : (xs.length : Int) ≤ 9223372036854775807 := by simp only [maxLen] at hm; omega
  refine ACalls.enter (fn := Try.f56) Try.func56 rfl (by show 2 ≤ _; decide) ?_
  refine run_sound Try.func56 mixed 100 _ _ (by kernel_rfl) ?_
  simp only [go_sem, ↓reduceIte, Nat.reduceEqDiff, Nat.reduceLT, Nat.reduceLeDiff, Nat.reduceAdd, Nat.reduceMul, Nat.reduceSub, Int.reduceToNat, Int.reduceLT, Int.reduceLE, Int.reduceEq, Int.reduceNeg, Int.reduceAdd, Int.reduceSub, reduceCtorEq, bne_self_eq_false]
  refine AW.loop_ind (fun i : Nat => ⟨[(5, .d (.int .i64 i)), (0, .d (.sl xs)), (1, .d (.sl xs)), (4, .d (.bool false))], []⟩) (fun i => i ≤ xs.length) (fun i => xs.length - i) 0 (by omega) ?_ ?_
  · refine Weak.of (by simp) rfl ?_
    simp [Abs.get, C.refsLtT, C.refsLt, C.refsLt1]
  · intro i hi hnext
    by_cases h : i < xs.length
    · obtain ⟨x, hxi⟩ : ∃ x, xs[i]? = some x := ⟨_, List.getElem?_eq_getElem h⟩
      obtain ⟨e1, e2⟩ := hx x (List.mem_of_getElem? hxi)
      have hlt : ((i : Int) < (xs.length : Int)) = True := by simp; omega
      have h00 : (0 ≤ (i : Int)) = True := by simp
      refine run_sound Try.func56 mixed 100 _ _ (by kernel_rfl) ?_
      simp only [go_sem, ↓reduceIte, Nat.reduceEqDiff, Nat.reduceLT, Nat.reduceLeDiff, Nat.reduceAdd, Nat.reduceMul, Nat.reduceSub, Int.reduceToNat, Int.reduceLT, Int.reduceLE, Int.reduceEq, Int.reduceNeg, Int.reduceAdd, Int.reduceSub, reduceCtorEq, Int.toNat_natCast, hlt, hxi, idx_of hxi, e1, h00, bne_self_eq_false]
      refine e2.callQ rfl ?_
      simp only [go_sem, ↓reduceIte, Nat.reduceEqDiff, Nat.reduceLT, Nat.reduceLeDiff, Nat.reduceAdd, Nat.reduceMul, Nat.reduceSub, Int.reduceToNat, Int.reduceLT, Int.reduceLE, Int.reduceEq, Int.reduceNeg, Int.reduceAdd, Int.reduceSub, reduceCtorEq]
      rw [wrap_ok (by omega) (by omega)]
      refine hnext (i + 1) _ (by omega) (by omega) ?_
      refine Weak.of (by simp) rfl ?_
      simp [Abs.get, C.refsLtT, C.refsLt, C.refsLt1]
    · have hlt : ((i : Int) < (xs.length : Int)) = False := by simp; omega
      refine run_sound Try.func56 mixed 100 _ _ (by kernel_rfl) ?_
      simp only [go_sem, ↓reduceIte, Nat.reduceEqDiff, Nat.reduceLT, Nat.reduceLeDiff, Nat.reduceAdd, Nat.reduceMul, Nat.reduceSub, Int.reduceToNat, Int.reduceLT, Int.reduceLE, Int.reduceEq, Int.reduceNeg, Int.reduceAdd, Int.reduceSub, reduceCtorEq, hlt]

theorem eq28 (a0 : Int) (a1 : List UInt8) (a2 : List (List D)) (a3 : List (List D)) (h2 : Gives Try.prog 43 [.sl a2, .sl a2] (.d (.bool true))) (h3 : Gives Try.prog 56 [.sl a3, .sl a3] (.d (.bool true))) : Gives Try.prog 28 [.agg [.int .i64 a0, .str a1, .sl a2, .sl a3], .agg [.int .i64 a0, .str a1, .sl a2, .sl a3]] (.d (.bool true)) := by
  refine ACalls.enter (fn := Try.f28) Try.func28 rfl (by show 2 ≤ _; decide) ?_
  refine run_sound Try.func28 mixed 100 _ _ (by kernel_rfl) ?_
  simp only [go_sem, ↓reduceIte, Nat.reduceEqDiff, Nat.reduceLT, Nat.reduceLeDiff, Nat.reduceAdd, Nat.reduceMul, Nat.reduceSub, Int.reduceToNat, Int.reduceLT, Int.reduceLE, Int.reduceEq, Int.reduceNeg, Int.reduceAdd, Int.reduceSub, reduceCtorEq, bne_self_eq_false]
  refine h2.calls rfl ?_
  simp only [go_sem, ↓reduceIte, Nat.reduceEqDiff, Nat.reduceLT, Nat.reduceLeDiff, Nat.reduceAdd, Nat.reduceMul, Nat.reduceSub, Int.reduceToNat, Int.reduceLT, Int.reduceLE, Int.reduceEq, Int.reduceNeg, Int.reduceAdd, Int.reduceSub, reduceCtorEq, bne_self_eq_false]
  refine h3.calls rfl ?_
  simp only [go_sem, ↓reduceIte, Nat.reduceEqDiff, Nat.reduceLT, Nat.reduceLeDiff, Nat.reduceAdd, Nat.reduceMul, Nat.reduceSub, Int.reduceToNat, Int.reduceLT, Int.reduceLE, Int.reduceEq, Int.reduceNeg, Int.reduceAdd, Int.reduceSub, reduceCtorEq, bne_self_eq_false]

theorem mk48 (a0 : Int) (a1 : List UInt8) (a2 : List (List D)) (a3 : List (List D)) (q0 : (Lit.int .i64 a0).wf = true) (q1 : a1.length ≤ maxLen) (q2 : a2.length ≤ maxLen ∧ ∀ x, x ∈ a2 → Sh Try.prog 117 x) (q3 : a3.length ≤ maxLen ∧ ∀ x, x ∈ a3 → Sh Try.prog 48 x) : Sh Try.prog 48 [.int .i64 a0, .str a1, .sl a2, .sl a3] := by
  refine ⟨_, lv48, rfl, fun i l c hl hc => ?_⟩
  match i with
  | 0 => simp at hl hc; subst hl hc; exact .int _ _ q0
  | 1 => simp at hl hc; subst hl hc; exact .str _ q1
  | 2 => simp at hl hc; subst hl hc; exact ShC.sl_of lv117 q2.1 q2.2
  | 3 => simp at hl hc; subst hl hc; exact ShC.sl_of lv48 q3.1 q3.2
  | i + 4 => simp at hl

theorem len48 {x : List D} (h : Sh Try.prog 48 x) : x.length = 4 := by
  obtain ⟨_, _, _, _, rfl, _⟩ := inv48 h
  rfl
theorem szc48 : ∀ (m : Nat) (x : List D), wtL x < m → Sh Try.prog 48 x → ∀ n : Int, 0 ≤ n → n ≤ 1048576 → Gives Try.prog 23 [.agg x, .int .i64 n] (.d (.int .i64 (szr n (wtL x))))
  | 0, _, hm, _ => by omega
  | m + 1, x, hm, h => by
    obtain ⟨a0, a1, a2, a3, rfl, q0, q1, q2, q3⟩ := inv48 h
    have hw : wtL [.int .i64 a0, .str a1, .sl a2, .sl a3] = a1.length + wtR a2 + wtR a3 := by simp only [wtL, D.wt] <;> omega
    exact fun n g0 g1 => sz23 a0 a1 a2 a3 q1 (fun n g0 g1 => szs24 a2 q2.1 q2.2 n g0 g1) (fun n g0 g1 => sz50 a3 q3.1 (fun x hx => ⟨len48 (q3.2 x hx), szc48 m x (by have := wtL_lt a3 x hx; omega) (q3.2 x hx)⟩) n g0 g1) n g0 g1
theorem toc48 : ∀ (m : Nat) (x : List D), wtL x < m → wtL x ≤ 1048576 → Sh Try.prog 48 x → Gives Try.prog 25 [.agg x] (.d (.agg x))
  | 0, _, hm, _, _ => by omega
  | m + 1, x, hm, hb, h => by
    obtain ⟨a0, a1, a2, a3, rfl, q0, q1, q2, q3⟩ := inv48 h
    have hw : wtL [.int .i64 a0, .str a1, .sl a2, .sl a3] = a1.length + wtR a2 + wtR a3 := by simp only [wtL, D.wt] <;> omega
    exact to25 a0 a1 a2 a3 (tos24 a2 (by omega) q2.2) (to53 a3 (by have := sumW_le a3 0; omega) (fun x hx => ⟨len48 (q3.2 x hx), toc48 m x (by have := wtL_lt a3 x hx; omega) (by have := wtL_lt a3 x hx; omega) (q3.2 x hx)⟩))
theorem eqc48 : ∀ (m : Nat) (x : List D), wtL x < m → Sh Try.prog 48 x → Gives Try.prog 28 [.agg x, .agg x] (.d (.bool true))
  | 0, _, hm, _ => by omega
  | m + 1, x, hm, h => by
    obtain ⟨a0, a1, a2, a3, rfl, q0, q1, q2, q3⟩ := inv48 h
    have hw : wtL [.int .i64 a0, .str a1, .sl a2, .sl a3] = a1.length + wtR a2 + wtR a3 := by simp only [wtL, D.wt] <;> omega
    exact eq28 a0 a1 a2 a3 (eqs24 a2 q2.1 q2.2) (eq56 a3 q3.1 (fun x hx => ⟨len48 (q3.2 x hx), eqc48 m x (by have := wtL_lt a3 x hx; omega) (q3.2 x hx)⟩))

theorem sh_Gl (x : List D) (h : Sh Try.prog 48 x) : ∃ t, x = Gl.enc t := Gl.of_sh lv48 sh_Tm x h
theorem sl_46 {x : D} (h : Sh Try.prog 46 [x]) : ∃ l : List Gl, x = .sl (l.map Gl.enc) := shL (by kernel_rfl) sh_Gl h

theorem szs46 (xs : List (List D)) (hm : xs.length ≤ maxLen) (h : ∀ x, x ∈ xs → Sh Try.prog 48 x) (n : Int) (g0 : 0 ≤ n) (g1 : n ≤ 1048576) : Gives Try.prog 50 [.sl xs, .int .i64 n] (.d (.int .i64 (szr n (wtR xs)))) :=
  sz50 xs hm (fun x hx => ⟨len48 (h x hx), szc48 _ x (Nat.lt_succ_self _) (h x hx)⟩) n g0 g1
theorem tos46 (xs : List (List D)) (hb : wtR xs ≤ 1048576) (h : ∀ x, x ∈ xs → Sh Try.prog 48 x) : Gives Try.prog 53 [.sl xs] (.d (.sl xs)) :=
  to53 xs (by have := sumW_le xs 0; omega) (fun x hx => ⟨len48 (h x hx), toc48 _ x (Nat.lt_succ_self _) (by have := wtL_lt xs x hx; omega) (h x hx)⟩)
theorem eqs46 (xs : List (List D)) (hm : xs.length ≤ maxLen) (h : ∀ x, x ∈ xs → Sh Try.prog 48 x) : Gives Try.prog 56 [.sl xs, .sl xs] (.d (.bool true)) :=
  eq56 xs hm (fun x hx => ⟨len48 (h x hx), eqc48 _ x (Nat.lt_succ_self _) (h x hx)⟩)

theorem lv150 : leaves Try.prog 6 150 = some [.int .i64, .int .i64, .int .i64, .str, .sl 117] := by kernel_rfl
theorem inv150 {x : List D} (h : Sh Try.prog 150 x) : ∃ a0 a1 a2 a3 a4, x = [.int .i64 a0, .int .i64 a1, .int .i64 a2, .str a3, .sl a4] ∧ (Lit.int .i64 a0).wf = true ∧ (Lit.int .i64 a1).wf = true ∧ (Lit.int .i64 a2).wf = true ∧ a3.length ≤ maxLen ∧ (a4.length ≤ maxLen ∧ ∀ x, x ∈ a4 → Sh Try.prog 117 x) := by
  obtain ⟨ls, h1, h2, h3⟩ := h
  rw [lv150] at h1
  cases h1
  match x, h2, h3 with
  | [c0, c1, c2, c3, c4], _, h3 =>
    have g0 := h3 0 _ _ rfl rfl
    have g1 := h3 1 _ _ rfl rfl
    have g2 := h3 2 _ _ rfl rfl
    have g3 := h3 3 _ _ rfl rfl
    have g4 := h3 4 _ _ rfl rfl
    obtain ⟨b0, rfl, q0⟩ := g0.int_inv
    obtain ⟨b1, rfl, q1⟩ := g1.int_inv
    obtain ⟨b2, rfl, q2⟩ := g2.int_inv
    obtain ⟨b3, rfl, q3⟩ := g3.str_inv
    obtain ⟨b4, rfl, q4⟩ := g4.elems
    exact ⟨_, _, _, _, _, rfl, q0, q1, q2, q3, q4⟩

theorem sz92 (xs : List (List D)) (hm : xs.length ≤ maxLen) (hx : ∀ x, x ∈ xs → x.length = 5 ∧ ∀ n : Int, 0 ≤ n → n ≤ 1048576 → Gives Try.prog 106 [.agg x, .int .i64 n] (.d (.int .i64 (szr n (wtL x)))))
    (n : Int) (h0 : 0 ≤ n) (h1 : n ≤ 1048576) : Gives Try.prog 92 [.sl xs, .int .i64 n] (.d (.int .i64 (szr n (wtR xs)))) := by
  have hm' : (xs.length : Int) ≤ 9223372036854775807 := by simp only [maxLen] at hm; omega
  have hs := sumW_all xs
  have hs0 := sumW_le xs 0
  simp only [sumW] at hs0
  refine ACalls.enter (fn := Try.f92) Try.func92 rfl (by show 2 ≤ _; decide) ?_
  refine run_sound Try.func92 mixed 100 _ _ (by kernel_rfl) ?_
  simp only [go_sem, ↓reduceIte, Nat.reduceEqDiff, Nat.reduceLT, Nat.reduceLeDiff, Nat.reduceAdd, Nat.reduceMul, Nat.reduceSub, Int.reduceToNat, Int.reduceLT, Int.reduceLE, Int.reduceEq, Int.reduceNeg, Int.reduceAdd, Int.reduceSub, reduceCtorEq]
  rw [wrap_ok (by omega) (by omega)]
  refine br_intro (fun h => ?_) (fun h => ?_)
  · simp only [decide_eq_true_eq] at h
    simp only [go_sem, ↓reduceIte, Nat.reduceEqDiff, Nat.reduceLT, Nat.reduceLeDiff, Nat.reduceAdd, Nat.reduceMul, Nat.reduceSub, Int.reduceToNat, Int.reduceLT, Int.reduceLE, Int.reduceEq, Int.reduceNeg, Int.reduceAdd, Int.reduceSub, reduceCtorEq]
    rw [szr_neg (by omega)]
  simp only [decide_eq_false_iff_not, Int.not_lt] at h
  simp only [go_sem, ↓reduceIte, Nat.reduceEqDiff, Nat.reduceLT, Nat.reduceLeDiff, Nat.reduceAdd, Nat.reduceMul, Nat.reduceSub, Int.reduceToNat, Int.reduceLT, Int.reduceLE, Int.reduceEq, Int.reduceNeg, Int.reduceAdd, Int.reduceSub, reduceCtorEq]
  refine AW.loop_ind (fun i : Nat => ⟨[(5, .d (.int .i64 i)), (0, .d (.sl xs)), (1, .d (.int .i64 (n - xs.length - sumW xs i))), (4, .d (.int .i64 0))], []⟩) (fun i => i ≤ xs.length ∧ (sumW xs i : Int) ≤ n - xs.length) (fun i => xs.length - i) 0 ⟨by omega, by simp only [sumW]; omega⟩ ?_ ?_
  · refine Weak.of (by simp) rfl ?_
    simp [Abs.get, sumW, C.refsLtT, C.refsLt, C.refsLt1]
  · intro i hi hnext
    obtain ⟨hi1, hi2⟩ := hi
    refine run_sound Try.func92 mixed 100 _ _ (by kernel_rfl) ?_
    simp only [go_sem, ↓reduceIte, Nat.reduceEqDiff, Nat.reduceLT, Nat.reduceLeDiff, Nat.reduceAdd, Nat.reduceMul, Nat.reduceSub, Int.reduceToNat, Int.reduceLT, Int.reduceLE, Int.reduceEq, Int.reduceNeg, Int.reduceAdd, Int.reduceSub, reduceCtorEq]
    refine br_intro (fun h => ?_) (fun h => ?_)
    · simp only [decide_eq_true_eq] at h
      have hi : i < xs.length := by omega
      obtain ⟨x, hxi⟩ : ∃ x, xs[i]? = some x := ⟨_, List.getElem?_eq_getElem hi⟩
      have hsum := sumW_at hxi
      have hle := sumW_le xs (i + 1)
      obtain ⟨e1, e2⟩ := hx x (List.mem_of_getElem? hxi)
      simp only [go_sem, ↓reduceIte, Nat.reduceEqDiff, Nat.reduceLT, Nat.reduceLeDiff, Nat.reduceAdd, Nat.reduceMul, Nat.reduceSub, Int.reduceToNat, Int.reduceLT, Int.reduceLE, Int.reduceEq, Int.reduceNeg, Int.reduceAdd, Int.reduceSub, reduceCtorEq, Int.toNat_natCast, hxi, idx_of hxi, e1]
      repeat refine And.intro (by omega) ?_
      refine (e2 _ (by omega) (by omega)).calls rfl ?_
      simp only [go_sem, ↓reduceIte, Nat.reduceEqDiff, Nat.reduceLT, Nat.reduceLeDiff, Nat.reduceAdd, Nat.reduceMul, Nat.reduceSub, Int.reduceToNat, Int.reduceLT, Int.reduceLE, Int.reduceEq, Int.reduceNeg, Int.reduceAdd, Int.reduceSub, reduceCtorEq]
      refine br_intro (fun h => ?_) (fun h => ?_)
      · simp only [decide_eq_true_eq] at h
        have hg := szr_lt h
        simp only [go_sem, ↓reduceIte, Nat.reduceEqDiff, Nat.reduceLT, Nat.reduceLeDiff, Nat.reduceAdd, Nat.reduceMul, Nat.reduceSub, Int.reduceToNat, Int.reduceLT, Int.reduceLE, Int.reduceEq, Int.reduceNeg, Int.reduceAdd, Int.reduceSub, reduceCtorEq]
        rw [szr_neg (by omega)]
      · simp only [decide_eq_false_iff_not] at h
        have hg := szr_ge h
        rw [szr_pos hg]
        simp only [go_sem, ↓reduceIte, Nat.reduceEqDiff, Nat.reduceLT, Nat.reduceLeDiff, Nat.reduceAdd, Nat.reduceMul, Nat.reduceSub, Int.reduceToNat, Int.reduceLT, Int.reduceLE, Int.reduceEq, Int.reduceNeg, Int.reduceAdd, Int.reduceSub, reduceCtorEq]
        rw [wrap_ok (by omega) (by omega)]
        refine hnext (i + 1) _ ⟨by omega, by omega⟩ (by omega) ?_
        refine Weak.of (by simp) rfl ?_
        simp [Abs.get, C.refsLtT, C.refsLt, C.refsLt1]
        omega
    · simp only [decide_eq_false_iff_not] at h
      have : i = xs.length := by omega
      subst this
      simp only [go_sem, ↓reduceIte, Nat.reduceEqDiff, Nat.reduceLT, Nat.reduceLeDiff, Nat.reduceAdd, Nat.reduceMul, Nat.reduceSub, Int.reduceToNat, Int.reduceLT, Int.reduceLE, Int.reduceEq, Int.reduceNeg, Int.reduceAdd, Int.reduceSub, reduceCtorEq]
      rw [szr_pos (by omega)]
      all_goals (congr 2 <;> omega)

theorem sz106 (a0 : Int) (a1 : Int) (a2 : Int) (a3 : List UInt8) (a4 : List (List D)) (h1 : ∀ n : Int, 0 ≤ n → n ≤ 1048576 → Gives Try.prog 66 [.agg [.int .i64 a1, .int .i64 a2, .str a3, .sl a4], .int .i64 n] (.d (.int .i64 (szr n (wtL [.int .i64 a1, .int .i64 a2, .str a3, .sl a4])))))
    (n : Int) (g0 : 0 ≤ n) (g1 : n ≤ 1048576) : Gives Try.prog 106 [.agg [.int .i64 a0, .int .i64 a1, .int .i64 a2, .str a3, .sl a4], .int .i64 n] (.d (.int .i64 (szr n (wtL [.int .i64 a0, .int .i64 a1, .int .i64 a2, .str a3, .sl a4])))) := by
  have hw : wtL [.int .i64 a0, .int .i64 a1, .int .i64 a2, .str a3, .sl a4] = wtL [.int .i64 a1, .int .i64 a2, .str a3, .sl a4] := by simp only [wtL, D.wt] <;> omega
  rw [hw]
  refine ACalls.enter (fn := Try.f106) Try.func106 rfl (by show 2 ≤ _; decide) ?_
  refine run_sound Try.func106 mixed 100 _ _ (by kernel_rfl) ?_
  simp only [go_sem, ↓reduceIte, Nat.reduceEqDiff, Nat.reduceLT, Nat.reduceLeDiff, Nat.reduceAdd, Nat.reduceMul, Nat.reduceSub, Int.reduceToNat, Int.reduceLT, Int.reduceLE, Int.reduceEq, Int.reduceNeg, Int.reduceAdd, Int.reduceSub, reduceCtorEq]
  refine (h1 _ (by omega) (by omega)).calls rfl ?_
  simp only [go_sem, ↓reduceIte, Nat.reduceEqDiff, Nat.reduceLT, Nat.reduceLeDiff, Nat.reduceAdd, Nat.reduceMul, Nat.reduceSub, Int.reduceToNat, Int.reduceLT, Int.reduceLE, Int.reduceEq, Int.reduceNeg, Int.reduceAdd, Int.reduceSub, reduceCtorEq]
  refine br_intro (fun h => ?_) (fun h => ?_)
  · simp only [decide_eq_true_eq] at h
    have hg := szr_lt h
    simp only [go_sem, ↓reduceIte, Nat.reduceEqDiff, Nat.reduceLT, Nat.reduceLeDiff, Nat.reduceAdd, Nat.reduceMul, Nat.reduceSub, Int.reduceToNat, Int.reduceLT, Int.reduceLE, Int.reduceEq, Int.reduceNeg, Int.reduceAdd, Int.reduceSub, reduceCtorEq]
    rw [szr_neg (by omega)]
  simp only [decide_eq_false_iff_not] at h
  have hg := szr_ge h
  rw [szr_pos hg]
  clear h
  simp only [go_sem, ↓reduceIte, Nat.reduceEqDiff, Nat.reduceLT, Nat.reduceLeDiff, Nat.reduceAdd, Nat.reduceMul, Nat.reduceSub, Int.reduceToNat, Int.reduceLT, Int.reduceLE, Int.reduceEq, Int.reduceNeg, Int.reduceAdd, Int.reduceSub, reduceCtorEq]
  all_goals rw [szr_pos (by omega)]
  all_goals (congr 2 <;> omega)

theorem to96 (xs : List (List D)) (hl : xs.length ≤ 1048576) (hx : ∀ x, x ∈ xs → x.length = 5 ∧ Gives Try.prog 108 [.agg x] (.d (.agg x))) : Gives Try.prog 96 [.sl xs] (.d (.sl xs)) := by
  refine ACalls.enter (fn := Try.f96) Try.func96 rfl (by show 1 ≤ _; decide) ?_
  refine run_sound Try.func96 mixed 100 _ _ (by kernel_rfl) ?_
  simp only [go_sem, ↓reduceIte, Nat.reduceEqDiff, Nat.reduceLT, Nat.reduceLeDiff, Nat.reduceAdd, Nat.reduceMul, Nat.reduceSub, Int.reduceToNat, Int.reduceLT, Int.reduceLE, Int.reduceEq, Int.reduceNeg, Int.reduceAdd, Int.reduceSub, reduceCtorEq, Int.toNat_natCast]
  repeat refine And.intro (by first | omega | (simp only [maxLen]; omega)) ?_
  refine AW.loop_ind (fun i : Nat => ⟨[(4, .d (.int .i64 i)), (0, .d (.sl xs)), (3, .rsl 0 xs.length), (2, .nil0)], [.row 5 155 (xs.take i ++ List.replicate (xs.length - i) [.int .i64 0, .int .i64 0, .int .i64 0, .str [], .sl []])]⟩) (fun i => i ≤ xs.length) (fun i => xs.length - i) 0 (by omega) ?_ ?_
  · refine Weak.of (by simp) rfl ?_
    simp [Abs.get, C.refsLtT, C.refsLt, C.refsLt1]
  · intro i hi hnext
    by_cases h : i < xs.length
    · obtain ⟨x, hxi⟩ : ∃ x, xs[i]? = some x := ⟨_, List.getElem?_eq_getElem h⟩
      obtain ⟨e1, e2⟩ := hx x (List.mem_of_getElem? hxi)
      have hlt : ((i : Int) < (xs.length : Int)) = True := by simp; omega
      refine run_sound Try.func96 mixed 100 _ _ (by kernel_rfl) ?_
      simp only [go_sem, ↓reduceIte, Nat.reduceEqDiff, Nat.reduceLT, Nat.reduceLeDiff, Nat.reduceAdd, Nat.reduceMul, Nat.reduceSub, Int.reduceToNat, Int.reduceLT, Int.reduceLE, Int.reduceEq, Int.reduceNeg, Int.reduceAdd, Int.reduceSub, reduceCtorEq, Int.toNat_natCast, hlt, hxi, idx_of hxi, e1]
      repeat refine And.intro (by omega) ?_
      refine e2.calls rfl ?_
      simp only [go_sem, ↓reduceIte, Nat.reduceEqDiff, Nat.reduceLT, Nat.reduceLeDiff, Nat.reduceAdd, Nat.reduceMul, Nat.reduceSub, Int.reduceToNat, Int.reduceLT, Int.reduceLE, Int.reduceEq, Int.reduceNeg, Int.reduceAdd, Int.reduceSub, reduceCtorEq, Int.toNat_natCast, hlt, hxi, idx_of hxi, e1]
      repeat refine And.intro (by first | omega | (simp; omega) | (simp_all; done)) ?_
      rw [wrap_ok (by omega) (by omega)]
      first | rw [row_step (k := 5) hxi (by rfl)] | rw [row_step1 hxi (by rfl)]
      refine hnext (i + 1) _ (by omega) (by omega) ?_
      refine Weak.of (by simp) rfl ?_
      simp [Abs.get, C.refsLtT, C.refsLt, C.refsLt1]
    · have hlt : ((i : Int) < (xs.length : Int)) = False := by simp; omega
      refine run_sound Try.func96 mixed 6 _ _ (by kernel_rfl) ?_
      simp only [go_sem, ↓reduceIte, Nat.reduceEqDiff, Nat.reduceLT, Nat.reduceLeDiff, Nat.reduceAdd, Nat.reduceMul, Nat.reduceSub, Int.reduceToNat, Int.reduceLT, Int.reduceLE, Int.reduceEq, Int.reduceNeg, Int.reduceAdd, Int.reduceSub, reduceCtorEq, Int.toNat_natCast, hlt]
      obtain rfl : i = xs.length := by omega
      rw [row_all]
      refine AW.freeze 3 0 rfl rfl rfl ?_
      refine run_sound Try.func96 mixed 100 _ _ (by kernel_rfl) ?_
      simp only [go_sem, ↓reduceIte, Nat.reduceEqDiff, Nat.reduceLT, Nat.reduceLeDiff, Nat.reduceAdd, Nat.reduceMul, Nat.reduceSub, Int.reduceToNat, Int.reduceLT, Int.reduceLE, Int.reduceEq, Int.reduceNeg, Int.reduceAdd, Int.reduceSub, reduceCtorEq]

theorem to108 (a0 : Int) (a1 : Int) (a2 : Int) (a3 : List UInt8) (a4 : List (List D)) (h1 : Gives Try.prog 67 [.agg [.int .i64 a1, .int .i64 a2, .str a3, .sl a4]] (.d (.agg [.int .i64 a1, .int .i64 a2, .str a3, .sl a4]))) : Gives Try.prog 108 [.agg [.int .i64 a0, .int .i64 a1, .int .i64 a2, .str a3, .sl a4]] (.d (.agg [.int .i64 a0, .int .i64 a1, .int .i64 a2, .str a3, .sl a4])) := by
  refine ACalls.enter (fn := Try.f108) Try.func108 rfl (by show 1 ≤ _; decide) ?_
  refine run_sound Try.func108 mixed 100 _ _ (by kernel_rfl) ?_
  simp only [go_sem, ↓reduceIte, Nat.reduceEqDiff, Nat.reduceLT, Nat.reduceLeDiff, Nat.reduceAdd, Nat.reduceMul, Nat.reduceSub, Int.reduceToNat, Int.reduceLT, Int.reduceLE, Int.reduceEq, Int.reduceNeg, Int.reduceAdd, Int.reduceSub, reduceCtorEq]
  refine h1.calls rfl ?_
  simp only [go_sem, ↓reduceIte, Nat.reduceEqDiff, Nat.reduceLT, Nat.reduceLeDiff, Nat.reduceAdd, Nat.reduceMul, Nat.reduceSub, Int.reduceToNat, Int.reduceLT, Int.reduceLE, Int.reduceEq, Int.reduceNeg, Int.reduceAdd, Int.reduceSub, reduceCtorEq]

theorem eq100 (xs : List (List D)) (hm : xs.length ≤ maxLen) (hx : ∀ x, x ∈ xs → x.length = 5 ∧ Gives Try.prog 111 [.agg x, .agg x] (.d (.bool true))) : Gives Try.prog 100 [.sl xs, .sl xs] (.d (.bool true)) := by
  have hm' : (xs.length : Int) ≤ 9223372036854775807 := by simp only [maxLen] at hm; omega
  refine ACalls.enter (fn := Try.f100) Try.func100 rfl (by show 2 ≤ _; decide) ?_
  refine run_sound Try.func100 mixed 100 _ _ (by kernel_rfl) ?_
  simp only [go_sem, ↓reduceIte, Nat.reduceEqDiff, Nat.reduceLT, Nat.reduceLeDiff, Nat.reduceAdd, Nat.reduceMul, Nat.reduceSub, Int.reduceToNat, Int.reduceLT, Int.reduceLE, Int.reduceEq, Int.reduceNeg, Int.reduceAdd, Int.reduceSub, reduceCtorEq, bne_self_eq_false]
  refine AW.loop_ind (fun i : Nat => ⟨[(5, .d (.int .i64 i)), (0, .d (.sl xs)), (1, .d (.sl xs)), (4, .d (.bool false))], []⟩) (fun i => i ≤ xs.length) (fun i => xs.length - i) 0 (by omega) ?_ ?_
  · refine Weak.of (by simp) rfl ?_
    simp [Abs.get, C.refsLtT, C.refsLt, C.refsLt1]
  · intro i hi hnext
    by_cases h : i < xs.length
    · obtain ⟨x, hxi⟩ : ∃ x, xs[i]? = some x := ⟨_, List.getElem?_eq_getElem h⟩
      obtain ⟨e1, e2⟩ := hx x (List.mem_of_getElem? hxi)
      have hlt : ((i : Int) < (xs.length : Int)) = True := by simp; omega
      have h00 : (0 ≤ (i : Int)) = True := by simp
      refine run_sound Try.func100 mixed 100 _ _ (by kernel_rfl) ?_
      simp only [go_sem, ↓reduceIte, Nat.reduceEqDiff, Nat.reduceLT, Nat.reduceLeDiff, Nat.reduceAdd, Nat.reduceMul, Nat.reduceSub, Int.reduceToNat, Int.reduceLT, Int.reduceLE, Int.reduceEq, Int.reduceNeg, Int.reduceAdd, Int.reduceSub, reduceCtorEq, Int.toNat_natCast, hlt, hxi, idx_of hxi, e1, h00, bne_self_eq_false]
      refine e2.callQ rfl ?_
      simp only [go_sem, ↓reduceIte, Nat.reduceEqDiff, Nat.reduceLT, Nat.reduceLeDiff, Nat.reduceAdd, Nat.reduceMul, Nat.reduceSub, Int.reduceToNat, Int.reduceLT, Int.reduceLE, Int.reduceEq, Int.reduceNeg, Int.reduceAdd, Int.reduceSub, reduceCtorEq]
      rw [wrap_ok (by omega) (by omega)]
      refine hnext (i + 1) _ (by omega) (by omega) ?_
      refine Weak.of (by simp) rfl ?_
      simp [Abs.get, C.refsLtT, C.refsLt, C.refsLt1]
    · have hlt : ((i : Int) < (xs.length : Int)) = False := by simp; omega
      refine run_sound Try.func100 mixed 100 _ _ (by kernel_rfl) ?_
      simp only [go_sem, ↓reduceIte, Nat.reduceEqDiff, Nat.reduceLT, Nat.reduceLeDiff, Nat.reduceAdd, Nat.reduceMul, Nat.reduceSub, Int.reduceToNat, Int.reduceLT, Int.reduceLE, Int.reduceEq, Int.reduceNeg, Int.reduceAdd, Int.reduceSub, reduceCtorEq, hlt]

theorem eq111 (a0 : Int) (a1 : Int) (a2 : Int) (a3 : List UInt8) (a4 : List (List D)) (h1 : Gives Try.prog 68 [.agg [.int .i64 a1, .int .i64 a2, .str a3, .sl a4], .agg [.int .i64 a1, .int .i64 a2, .str a3, .sl a4]] (.d (.bool true))) : Gives Try.prog 111 [.agg [.int .i64 a0, .int .i64 a1, .int .i64 a2, .str a3, .sl a4], .agg [.int .i64 a0, .int .i64 a1, .int .i64 a2, .str a3, .sl a4]] (.d (.bool true)) := by
  refine ACalls.enter (fn := Try.f111) Try.func111 rfl (by show 2 ≤ _; decide) ?_
  refine run_sound Try.func111 mixed 100 _ _ (by kernel_rfl) ?_
  simp only [go_sem, ↓reduceIte, Nat.reduceEqDiff, Nat.reduceLT, Nat.reduceLeDiff, Nat.reduceAdd, Nat.reduceMul, Nat.reduceSub, Int.reduceToNat, Int.reduceLT, Int.reduceLE, Int.reduceEq, Int.reduceNeg, Int.reduceAdd, Int.reduceSub, reduceCtorEq, bne_self_eq_false]
  refine h1.calls rfl ?_
  simp only [go_sem, ↓reduceIte, Nat.reduceEqDiff, Nat.reduceLT, Nat.reduceLeDiff, Nat.reduceAdd, Nat.reduceMul, Nat.reduceSub, Int.reduceToNat, Int.reduceLT, Int.reduceLE, Int.reduceEq, Int.reduceNeg, Int.reduceAdd, Int.reduceSub, reduceCtorEq, bne_self_eq_false]

theorem mk150 (a0 : Int) (a1 : Int) (a2 : Int) (a3 : List UInt8) (a4 : List (List D)) (q0 : (Lit.int .i64 a0).wf = true) (q1 : (Lit.int .i64 a1).wf = true) (q2 : (Lit.int .i64 a2).wf = true) (q3 : a3.length ≤ maxLen) (q4 : a4.length ≤ maxLen ∧ ∀ x, x ∈ a4 → Sh Try.prog 117 x) : Sh Try.prog 150 [.int .i64 a0, .int .i64 a1, .int .i64 a2, .str a3, .sl a4] := by
  refine ⟨_, lv150, rfl, fun i l c hl hc => ?_⟩
  match i with
  | 0 => simp at hl hc; subst hl hc; exact .int _ _ q0
  | 1 => simp at hl hc; subst hl hc; exact .int _ _ q1
  | 2 => simp at hl hc; subst hl hc; exact .int _ _ q2
  | 3 => simp at hl hc; subst hl hc; exact .str _ q3
  | 4 => simp at hl hc; subst hl hc; exact ShC.sl_of lv117 q4.1 q4.2
  | i + 5 => simp at hl

theorem len150 {x : List D} (h : Sh Try.prog 150 x) : x.length = 5 := by
  obtain ⟨_, _, _, _, _, rfl, _⟩ := inv150 h
  rfl
theorem szc150 : ∀ (m : Nat) (x : List D), wtL x < m → Sh Try.prog 150 x → ∀ n : Int, 0 ≤ n → n ≤ 1048576 → Gives Try.prog 106 [.agg x, .int .i64 n] (.d (.int .i64 (szr n (wtL x))))
  | 0, _, hm, _ => by omega
  | m + 1, x, hm, h => by
    obtain ⟨a0, a1, a2, a3, a4, rfl, q0, q1, q2, q3, q4⟩ := inv150 h
    have hw : wtL [.int .i64 a0, .int .i64 a1, .int .i64 a2, .str a3, .sl a4] = wtL [.int .i64 a1, .int .i64 a2, .str a3, .sl a4] := by simp only [wtL, D.wt] <;> omega
    exact fun n g0 g1 => sz106 a0 a1 a2 a3 a4 (fun n g0 g1 => szc117 _ [.int .i64 a1, .int .i64 a2, .str a3, .sl a4] (Nat.lt_succ_self _) (mk117 a1 a2 a3 a4 q1 q2 q3 q4) n g0 g1) n g0 g1
theorem toc150 : ∀ (m : Nat) (x : List D), wtL x < m → wtL x ≤ 1048576 → Sh Try.prog 150 x → Gives Try.prog 108 [.agg x] (.d (.agg x))
  | 0, _, hm, _, _ => by omega
  | m + 1, x, hm, hb, h => by
    obtain ⟨a0, a1, a2, a3, a4, rfl, q0, q1, q2, q3, q4⟩ := inv150 h
    have hw : wtL [.int .i64 a0, .int .i64 a1, .int .i64 a2, .str a3, .sl a4] = wtL [.int .i64 a1, .int .i64 a2, .str a3, .sl a4] := by simp only [wtL, D.wt] <;> omega
    exact to108 a0 a1 a2 a3 a4 (toc117 _ [.int .i64 a1, .int .i64 a2, .str a3, .sl a4] (Nat.lt_succ_self _) (by omega) (mk117 a1 a2 a3 a4 q1 q2 q3 q4))
theorem eqc150 : ∀ (m : Nat) (x : List D), wtL x < m → Sh Try.prog 150 x → Gives Try.prog 111 [.agg x, .agg x] (.d (.bool true))
  | 0, _, hm, _ => by omega
  | m + 1, x, hm, h => by
    obtain ⟨a0, a1, a2, a3, a4, rfl, q0, q1, q2, q3, q4⟩ := inv150 h
    have hw : wtL [.int .i64 a0, .int .i64 a1, .int .i64 a2, .str a3, .sl a4] = wtL [.int .i64 a1, .int .i64 a2, .str a3, .sl a4] := by simp only [wtL, D.wt] <;> omega
    exact eq111 a0 a1 a2 a3 a4 (eqc117 _ [.int .i64 a1, .int .i64 a2, .str a3, .sl a4] (Nat.lt_succ_self _) (mk117 a1 a2 a3 a4 q1 q2 q3 q4))

theorem sh_Bd (x : List D) (h : Sh Try.prog 150 x) : ∃ t, x = Bd.enc t := Bd.of_sh lv150 sh_Tm x h
theorem sl_61 {x : D} (h : Sh Try.prog 61 [x]) : ∃ l : List Bd, x = .sl (l.map Bd.enc) := shL (by kernel_rfl) sh_Bd h

theorem szs61 (xs : List (List D)) (hm : xs.length ≤ maxLen) (h : ∀ x, x ∈ xs → Sh Try.prog 150 x) (n : Int) (g0 : 0 ≤ n) (g1 : n ≤ 1048576) : Gives Try.prog 92 [.sl xs, .int .i64 n] (.d (.int .i64 (szr n (wtR xs)))) :=
  sz92 xs hm (fun x hx => ⟨len150 (h x hx), szc150 _ x (Nat.lt_succ_self _) (h x hx)⟩) n g0 g1
theorem tos61 (xs : List (List D)) (hb : wtR xs ≤ 1048576) (h : ∀ x, x ∈ xs → Sh Try.prog 150 x) : Gives Try.prog 96 [.sl xs] (.d (.sl xs)) :=
  to96 xs (by have := sumW_le xs 0; omega) (fun x hx => ⟨len150 (h x hx), toc150 _ x (Nat.lt_succ_self _) (by have := wtL_lt xs x hx; omega) (h x hx)⟩)
theorem eqs61 (xs : List (List D)) (hm : xs.length ≤ maxLen) (h : ∀ x, x ∈ xs → Sh Try.prog 150 x) : Gives Try.prog 100 [.sl xs, .sl xs] (.d (.bool true)) :=
  eq100 xs hm (fun x hx => ⟨len150 (h x hx), eqc150 _ x (Nat.lt_succ_self _) (h x hx)⟩)

theorem sz93 (xs : List (List D)) (hm : xs.length ≤ maxLen) (hx : ∀ x, x ∈ xs → ∃ y, x = [.sl y] ∧ ∀ n : Int, 0 ≤ n → n ≤ 1048576 → Gives Try.prog 92 [.sl y, .int .i64 n] (.d (.int .i64 (szr n (wtR y)))))
    (n : Int) (h0 : 0 ≤ n) (h1 : n ≤ 1048576) : Gives Try.prog 93 [.sl xs, .int .i64 n] (.d (.int .i64 (szr n (wtR xs)))) := by
  have hm' : (xs.length : Int) ≤ 9223372036854775807 := by simp only [maxLen] at hm; omega
  have hs := sumW_all xs
  have hs0 := sumW_le xs 0
  simp only [sumW] at hs0
  refine ACalls.enter (fn := Try.f93) Try.func93 rfl (by show 2 ≤ _; decide) ?_
  refine run_sound Try.func93 mixed 100 _ _ (by kernel_rfl) ?_
  simp only [go_sem, ↓reduceIte, Nat.reduceEqDiff, Nat.reduceLT, Nat.reduceLeDiff, Nat.reduceAdd, Nat.reduceMul, Nat.reduceSub, Int.reduceToNat, Int.reduceLT, Int.reduceLE, Int.reduceEq, Int.reduceNeg, Int.reduceAdd, Int.reduceSub, reduceCtorEq]
  rw [wrap_ok (by omega) (by omega)]
  refine br_intro (fun h => ?_) (fun h => ?_)
  · simp only [decide_eq_true_eq] at h
    simp only [go_sem, ↓reduceIte, Nat.reduceEqDiff, Nat.reduceLT, Nat.reduceLeDiff, Nat.reduceAdd, Nat.reduceMul, Nat.reduceSub, Int.reduceToNat, Int.reduceLT, Int.reduceLE, Int.reduceEq, Int.reduceNeg, Int.reduceAdd, Int.reduceSub, reduceCtorEq]
    rw [szr_neg (by omega)]
  simp only [decide_eq_false_iff_not, Int.not_lt] at h
  simp only [go_sem, ↓reduceIte, Nat.reduceEqDiff, Nat.reduceLT, Nat.reduceLeDiff, Nat.reduceAdd, Nat.reduceMul, Nat.reduceSub, Int.reduceToNat, Int.reduceLT, Int.reduceLE, Int.reduceEq, Int.reduceNeg, Int.reduceAdd, Int.reduceSub, reduceCtorEq]
  refine AW.loop_ind (fun i : Nat => ⟨[(5, .d (.int .i64 i)), (0, .d (.sl xs)), (1, .d (.int .i64 (n - xs.length - sumW xs i))), (4, .d (.int .i64 0))], []⟩) (fun i => i ≤ xs.length ∧ (sumW xs i : Int) ≤ n - xs.length) (fun i => xs.length - i) 0 ⟨by omega, by simp only [sumW]; omega⟩ ?_ ?_
  · refine Weak.of (by simp) rfl ?_
    simp [Abs.get, sumW, C.refsLtT, C.refsLt, C.refsLt1]
  · intro i hi hnext
    obtain ⟨hi1, hi2⟩ := hi
    refine run_sound Try.func93 mixed 100 _ _ (by kernel_rfl) ?_
    simp only [go_sem, ↓reduceIte, Nat.reduceEqDiff, Nat.reduceLT, Nat.reduceLeDiff, Nat.reduceAdd, Nat.reduceMul, Nat.reduceSub, Int.reduceToNat, Int.reduceLT, Int.reduceLE, Int.reduceEq, Int.reduceNeg, Int.reduceAdd, Int.reduceSub, reduceCtorEq]
    refine br_intro (fun h => ?_) (fun h => ?_)
    · simp only [decide_eq_true_eq] at h
      have hi : i < xs.length := by omega
      obtain ⟨x, hxi⟩ : ∃ x, xs[i]? = some x := ⟨_, List.getElem?_eq_getElem hi⟩
      have hsum := sumW_at hxi
      have hle := sumW_le xs (i + 1)
      obtain ⟨y, e1, e2⟩ := hx x (List.mem_of_getElem? hxi)
      subst e1
      have e1 : wtL [D.sl y] = wtR y := by simp [wtL, D.wt]
      rw [← e1] at e2
      simp only [go_sem, ↓reduceIte, Nat.reduceEqDiff, Nat.reduceLT, Nat.reduceLeDiff, Nat.reduceAdd, Nat.reduceMul, Nat.reduceSub, Int.reduceToNat, Int.reduceLT, Int.reduceLE, Int.reduceEq, Int.reduceNeg, Int.reduceAdd, Int.reduceSub, reduceCtorEq, Int.toNat_natCast, hxi, idx_of hxi, e1]
      repeat refine And.intro (by omega) ?_
      refine (e2 _ (by omega) (by omega)).calls rfl ?_
      simp only [go_sem, ↓reduceIte, Nat.reduceEqDiff, Nat.reduceLT, Nat.reduceLeDiff, Nat.reduceAdd, Nat.reduceMul, Nat.reduceSub, Int.reduceToNat, Int.reduceLT, Int.reduceLE, Int.reduceEq, Int.reduceNeg, Int.reduceAdd, Int.reduceSub, reduceCtorEq]
      refine br_intro (fun h => ?_) (fun h => ?_)
      · simp only [decide_eq_true_eq] at h
        have hg := szr_lt h
        simp only [go_sem, ↓reduceIte, Nat.reduceEqDiff, Nat.reduceLT, Nat.reduceLeDiff, Nat.reduceAdd, Nat.reduceMul, Nat.reduceSub, Int.reduceToNat, Int.reduceLT, Int.reduceLE, Int.reduceEq, Int.reduceNeg, Int.reduceAdd, Int.reduceSub, reduceCtorEq]
        rw [szr_neg (by omega)]
      · simp only [decide_eq_false_iff_not] at h
        have hg := szr_ge h
        rw [szr_pos hg]
        simp only [go_sem, ↓reduceIte, Nat.reduceEqDiff, Nat.reduceLT, Nat.reduceLeDiff, Nat.reduceAdd, Nat.reduceMul, Nat.reduceSub, Int.reduceToNat, Int.reduceLT, Int.reduceLE, Int.reduceEq, Int.reduceNeg, Int.reduceAdd, Int.reduceSub, reduceCtorEq]
        rw [wrap_ok (by omega) (by omega)]
        refine hnext (i + 1) _ ⟨by omega, by omega⟩ (by omega) ?_
        refine Weak.of (by simp) rfl ?_
        simp [Abs.get, C.refsLtT, C.refsLt, C.refsLt1]
        omega
    · simp only [decide_eq_false_iff_not] at h
      have : i = xs.length := by omega
      subst this
      simp only [go_sem, ↓reduceIte, Nat.reduceEqDiff, Nat.reduceLT, Nat.reduceLeDiff, Nat.reduceAdd, Nat.reduceMul, Nat.reduceSub, Int.reduceToNat, Int.reduceLT, Int.reduceLE, Int.reduceEq, Int.reduceNeg, Int.reduceAdd, Int.reduceSub, reduceCtorEq]
      rw [szr_pos (by omega)]
      all_goals (congr 2 <;> omega)

theorem to97 (xs : List (List D)) (hl : xs.length ≤ 1048576) (hx : ∀ x, x ∈ xs → ∃ y, x = [.sl y] ∧ Gives Try.prog 96 [.sl y] (.d (.sl y))) : Gives Try.prog 97 [.sl xs] (.d (.sl xs)) := by
  refine ACalls.enter (fn := Try.f97) Try.func97 rfl (by show 1 ≤ _; decide) ?_
  refine run_sound Try.func97 mixed 100 _ _ (by kernel_rfl) ?_
  simp only [go_sem, ↓reduceIte, Nat.reduceEqDiff, Nat.reduceLT, Nat.reduceLeDiff, Nat.reduceAdd, Nat.reduceMul, Nat.reduceSub, Int.reduceToNat, Int.reduceLT, Int.reduceLE, Int.reduceEq, Int.reduceNeg, Int.reduceAdd, Int.reduceSub, reduceCtorEq, Int.toNat_natCast]
  repeat refine And.intro (by first | omega | (simp only [maxLen]; omega)) ?_
  refine AW.loop_ind (fun i : Nat => ⟨[(4, .d (.int .i64 i)), (0, .d (.sl xs)), (3, .rsl 0 xs.length), (2, .nil0)], [.row 1 75 (xs.take i ++ List.replicate (xs.length - i) [.sl []])]⟩) (fun i => i ≤ xs.length) (fun i => xs.length - i) 0 (by omega) ?_ ?_
  · refine Weak.of (by simp) rfl ?_
    simp [Abs.get, C.refsLtT, C.refsLt, C.refsLt1]
  · intro i hi hnext
    by_cases h : i < xs.length
    · obtain ⟨x, hxi⟩ : ∃ x, xs[i]? = some x := ⟨_, List.getElem?_eq_getElem h⟩
      obtain ⟨y, e1, e2⟩ := hx x (List.mem_of_getElem? hxi)
      subst e1
      have hlt : ((i : Int) < (xs.length : Int)) = True := by simp; omega
      refine run_sound Try.func97 mixed 100 _ _ (by kernel_rfl) ?_
      simp only [go_sem, ↓reduceIte, Nat.reduceEqDiff, Nat.reduceLT, Nat.reduceLeDiff, Nat.reduceAdd, Nat.reduceMul, Nat.reduceSub, Int.reduceToNat, Int.reduceLT, Int.reduceLE, Int.reduceEq, Int.reduceNeg, Int.reduceAdd, Int.reduceSub, reduceCtorEq, Int.toNat_natCast, hlt, hxi, idx_of hxi]
      repeat refine And.intro (by omega) ?_
      refine e2.calls rfl ?_
      simp only [go_sem, ↓reduceIte, Nat.reduceEqDiff, Nat.reduceLT, Nat.reduceLeDiff, Nat.reduceAdd, Nat.reduceMul, Nat.reduceSub, Int.reduceToNat, Int.reduceLT, Int.reduceLE, Int.reduceEq, Int.reduceNeg, Int.reduceAdd, Int.reduceSub, reduceCtorEq, Int.toNat_natCast, hlt, hxi, idx_of hxi]
      repeat refine And.intro (by first | omega | (simp; omega) | (simp_all; done)) ?_
      rw [wrap_ok (by omega) (by omega)]
      first | rw [row_step (k := 1) hxi (by rfl)] | rw [row_step1 hxi (by rfl)]
      refine hnext (i + 1) _ (by omega) (by omega) ?_
      refine Weak.of (by simp) rfl ?_
      simp [Abs.get, C.refsLtT, C.refsLt, C.refsLt1]
    · have hlt : ((i : Int) < (xs.length : Int)) = False := by simp; omega
      refine run_sound Try.func97 mixed 6 _ _ (by kernel_rfl) ?_
      simp only [go_sem, ↓reduceIte, Nat.reduceEqDiff, Nat.reduceLT, Nat.reduceLeDiff, Nat.reduceAdd, Nat.reduceMul, Nat.reduceSub, Int.reduceToNat, Int.reduceLT, Int.reduceLE, Int.reduceEq, Int.reduceNeg, Int.reduceAdd, Int.reduceSub, reduceCtorEq, Int.toNat_natCast, hlt]
      obtain rfl : i = xs.length := by omega
      rw [row_all]
      refine AW.freeze 3 0 rfl rfl rfl ?_
      refine run_sound Try.func97 mixed 100 _ _ (by kernel_rfl) ?_
      simp only [go_sem, ↓reduceIte, Nat.reduceEqDiff, Nat.reduceLT, Nat.reduceLeDiff, Nat.reduceAdd, Nat.reduceMul, Nat.reduceSub, Int.reduceToNat, Int.reduceLT, Int.reduceLE, Int.reduceEq, Int.reduceNeg, Int.reduceAdd, Int.reduceSub, reduceCtorEq]

theorem eq101 (xs : List (List D)) (hm : xs.length ≤ maxLen) (hx : ∀ x, x ∈ xs → ∃ y, x = [.sl y] ∧ Gives Try.prog 100 [.sl y, .sl y] (.d (.bool true))) : Gives Try.prog 101 [.sl xs, .sl xs] (.d (.bool true)) := by
  have hm' : (xs.length : Int) ≤ 9223372036854775807 := by simp only [maxLen] at hm; omega
  refine ACalls.enter (fn := Try.f101) Try.func101 rfl (by show 2 ≤ _; decide) ?_
  refine run_sound Try.func101 mixed 100 _ _ (by kernel_rfl) ?_
  simp only [go_sem, ↓reduceIte, Nat.reduceEqDiff, Nat.reduceLT, Nat.reduceLeDiff, Nat.reduceAdd, Nat.reduceMul, Nat.reduceSub, Int.reduceToNat, Int.reduceLT, Int.reduceLE, Int.reduceEq, Int.reduceNeg, Int.reduceAdd, Int.reduceSub, reduceCtorEq, bne_self_eq_false]
  refine AW.loop_ind (fun i : Nat => ⟨[(5, .d (.int .i64 i)), (0, .d (.sl xs)), (1, .d (.sl xs)), (4, .d (.bool false))], []⟩) (fun i => i ≤ xs.length) (fun i => xs.length - i) 0 (by omega) ?_ ?_
  · refine Weak.of (by simp) rfl ?_
    simp [Abs.get, C.refsLtT, C.refsLt, C.refsLt1]
  · intro i hi hnext
    by_cases h : i < xs.length
    · obtain ⟨x, hxi⟩ : ∃ x, xs[i]? = some x := ⟨_, List.getElem?_eq_getElem h⟩
      obtain ⟨y, e1, e2⟩ := hx x (List.mem_of_getElem? hxi)
      subst e1
      have hlt : ((i : Int) < (xs.length : Int)) = True := by simp; omega
      have h00 : (0 ≤ (i : Int)) = True := by simp
      refine run_sound Try.func101 mixed 100 _ _ (by kernel_rfl) ?_
      simp only [go_sem, ↓reduceIte, Nat.reduceEqDiff, Nat.reduceLT, Nat.reduceLeDiff, Nat.reduceAdd, Nat.reduceMul, Nat.reduceSub, Int.reduceToNat, Int.reduceLT, Int.reduceLE, Int.reduceEq, Int.reduceNeg, Int.reduceAdd, Int.reduceSub, reduceCtorEq, Int.toNat_natCast, hlt, hxi, idx_of hxi, h00, bne_self_eq_false]
      refine e2.callQ rfl ?_
      simp only [go_sem, ↓reduceIte, Nat.reduceEqDiff, Nat.reduceLT, Nat.reduceLeDiff, Nat.reduceAdd, Nat.reduceMul, Nat.reduceSub, Int.reduceToNat, Int.reduceLT, Int.reduceLE, Int.reduceEq, Int.reduceNeg, Int.reduceAdd, Int.reduceSub, reduceCtorEq]
      rw [wrap_ok (by omega) (by omega)]
      refine hnext (i + 1) _ (by omega) (by omega) ?_
      refine Weak.of (by simp) rfl ?_
      simp [Abs.get, C.refsLtT, C.refsLt, C.refsLt1]
    · have hlt : ((i : Int) < (xs.length : Int)) = False := by simp; omega
      refine run_sound Try.func101 mixed 100 _ _ (by kernel_rfl) ?_
      simp only [go_sem, ↓reduceIte, Nat.reduceEqDiff, Nat.reduceLT, Nat.reduceLeDiff, Nat.reduceAdd, Nat.reduceMul, Nat.reduceSub, Int.reduceToNat, Int.reduceLT, Int.reduceLE, Int.reduceEq, Int.reduceNeg, Int.reduceAdd, Int.reduceSub, reduceCtorEq, hlt]

theorem lv61 : leaves Try.prog 6 61 = some [.sl 150] := by kernel_rfl

theorem szs62 (xs : List (List D)) (hm : xs.length ≤ maxLen) (h : ∀ x, x ∈ xs → Sh Try.prog 61 x) (n : Int) (g0 : 0 ≤ n) (g1 : n ≤ 1048576) : Gives Try.prog 93 [.sl xs, .int .i64 n] (.d (.int .i64 (szr n (wtR xs)))) :=
  sz93 xs hm (fun x hx => by
    obtain ⟨y, rfl, q⟩ := sh_L lv61 (h x hx)
    exact ⟨y, rfl, fun n g0 g1 => szs61 y q.1 q.2 n g0 g1⟩) n g0 g1
theorem tos62 (xs : List (List D)) (hb : wtR xs ≤ 1048576) (h : ∀ x, x ∈ xs → Sh Try.prog 61 x) : Gives Try.prog 97 [.sl xs] (.d (.sl xs)) :=
  to97 xs (by have := sumW_le xs 0; omega) (fun x hx => by
    obtain ⟨y, rfl, q⟩ := sh_L lv61 (h x hx)
    exact ⟨y, rfl, tos61 y (by have := wtL_lt xs _ hx; simp only [wtL, D.wt] at this; omega) q.2⟩)
theorem eqs62 (xs : List (List D)) (hm : xs.length ≤ maxLen) (h : ∀ x, x ∈ xs → Sh Try.prog 61 x) : Gives Try.prog 101 [.sl xs, .sl xs] (.d (.bool true)) :=
  eq101 xs hm (fun x hx => by
    obtain ⟨y, rfl, q⟩ := sh_L lv61 (h x hx)
    exact ⟨y, rfl, eqs61 y q.1 q.2⟩)

theorem lv160 : leaves Try.prog 6 160 = some [.int .i64, .int .i64] := by kernel_rfl
theorem inv160 {x : List D} (h : Sh Try.prog 160 x) : ∃ a0 a1, x = [.int .i64 a0, .int .i64 a1] ∧ (Lit.int .i64 a0).wf = true ∧ (Lit.int .i64 a1).wf = true := by
  obtain ⟨ls, h1, h2, h3⟩ := h
  rw [lv160] at h1
  cases h1
  match x, h2, h3 with
  | [c0, c1], _, h3 =>
    have g0 := h3 0 _ _ rfl rfl
    have g1 := h3 1 _ _ rfl rfl
    obtain ⟨b0, rfl, q0⟩ := g0.int_inv
    obtain ⟨b1, rfl, q1⟩ := g1.int_inv
    exact ⟨_, _, rfl, q0, q1⟩

theorem sz94 (xs : List (List D)) (hm : xs.length ≤ maxLen) (hx : ∀ x, x ∈ xs → wtL x = 0)
    (n : Int) (h0 : 0 ≤ n) (h1 : n ≤ 1048576) : Gives Try.prog 94 [.sl xs, .int .i64 n] (.d (.int .i64 (szr n (wtR xs)))) := by
  have hm' : (xs.length : Int) ≤ 9223372036854775807 := by simp only [maxLen] at hm; omega
  have hs : wtR xs = xs.length := wtR_flat xs hx
  refine ACalls.enter (fn := Try.f94) Try.func94 rfl (by show 2 ≤ _; decide) ?_
  refine run_sound Try.func94 mixed 100 _ _ (by kernel_rfl) ?_
  simp only [go_sem, ↓reduceIte, Nat.reduceEqDiff, Nat.reduceLT, Nat.reduceLeDiff, Nat.reduceAdd, Nat.reduceMul, Nat.reduceSub, Int.reduceToNat, Int.reduceLT, Int.reduceLE, Int.reduceEq, Int.reduceNeg, Int.reduceAdd, Int.reduceSub, reduceCtorEq]
  rw [wrap_ok (by omega) (by omega)]
  refine br_intro (fun h => ?_) (fun h => ?_)
  · simp only [decide_eq_true_eq] at h
    simp only [go_sem, ↓reduceIte, Nat.reduceEqDiff, Nat.reduceLT, Nat.reduceLeDiff, Nat.reduceAdd, Nat.reduceMul, Nat.reduceSub, Int.reduceToNat, Int.reduceLT, Int.reduceLE, Int.reduceEq, Int.reduceNeg, Int.reduceAdd, Int.reduceSub, reduceCtorEq]
    rw [szr_neg (by omega)]
  · simp only [decide_eq_false_iff_not] at h
    simp only [go_sem, ↓reduceIte, Nat.reduceEqDiff, Nat.reduceLT, Nat.reduceLeDiff, Nat.reduceAdd, Nat.reduceMul, Nat.reduceSub, Int.reduceToNat, Int.reduceLT, Int.reduceLE, Int.reduceEq, Int.reduceNeg, Int.reduceAdd, Int.reduceSub, reduceCtorEq]
    rw [szr_pos (by omega), hs]

theorem to98 (xs : List (List D)) (hl : xs.length ≤ 1048576) (hx : ∀ x, x ∈ xs → x.length = 2 ∧ Gives Try.prog 109 [.agg x] (.d (.agg x))) : Gives Try.prog 98 [.sl xs] (.d (.sl xs)) := by
  refine ACalls.enter (fn := Try.f98) Try.func98 rfl (by show 1 ≤ _; decide) ?_
  refine run_sound Try.func98 mixed 100 _ _ (by kernel_rfl) ?_
  simp only [go_sem, ↓reduceIte, Nat.reduceEqDiff, Nat.reduceLT, Nat.reduceLeDiff, Nat.reduceAdd, Nat.reduceMul, Nat.reduceSub, Int.reduceToNat, Int.reduceLT, Int.reduceLE, Int.reduceEq, Int.reduceNeg, Int.reduceAdd, Int.reduceSub, reduceCtorEq, Int.toNat_natCast]
  repeat refine And.intro (by first | omega | (simp only [maxLen]; omega)) ?_
  refine AW.loop_ind (fun i : Nat => ⟨[(4, .d (.int .i64 i)), (0, .d (.sl xs)), (3, .rsl 0 xs.length), (2, .nil0)], [.row 2 158 (xs.take i ++ List.replicate (xs.length - i) [.int .i64 0, .int .i64 0])]⟩) (fun i => i ≤ xs.length) (fun i => xs.length - i) 0 (by omega) ?_ ?_
  · refine Weak.of (by simp) rfl ?_
    simp [Abs.get, C.refsLtT, C.refsLt, C.refsLt1]
  · intro i hi hnext
    by_cases h : i < xs.length
    · obtain ⟨x, hxi⟩ : ∃ x, xs[i]? = some x := ⟨_, List.getElem?_eq_getElem h⟩
      obtain ⟨e1, e2⟩ := hx x (List.mem_of_getElem? hxi)
      have hlt : ((i : Int) < (xs.length : Int)) = True := by simp; omega
      refine run_sound Try.func98 mixed 100 _ _ (by kernel_rfl) ?_
      simp only [go_sem, ↓reduceIte, Nat.reduceEqDiff, Nat.reduceLT, Nat.reduceLeDiff, Nat.reduceAdd, Nat.reduceMul, Nat.reduceSub, Int.reduceToNat, Int.reduceLT, Int.reduceLE, Int.reduceEq, Int.reduceNeg, Int.reduceAdd, Int.reduceSub, reduceCtorEq, Int.toNat_natCast, hlt, hxi, idx_of hxi, e1]
      repeat refine And.intro (by omega) ?_
      refine e2.calls rfl ?_
      simp only [go_sem, ↓reduceIte, Nat.reduceEqDiff, Nat.reduceLT, Nat.reduceLeDiff, Nat.reduceAdd, Nat.reduceMul, Nat.reduceSub, Int.reduceToNat, Int.reduceLT, Int.reduceLE, Int.reduceEq, Int.reduceNeg, Int.reduceAdd, Int.reduceSub, reduceCtorEq, Int.toNat_natCast, hlt, hxi, idx_of hxi, e1]
      repeat refine And.intro (by first | omega | (simp; omega) | (simp_all; done)) ?_
      rw [wrap_ok (by omega) (by omega)]
      first | rw [row_step (k := 2) hxi (by rfl)] | rw [row_step1 hxi (by rfl)]
      refine hnext (i + 1) _ (by omega) (by omega) ?_
      refine Weak.of (by simp) rfl ?_
      simp [Abs.get, C.refsLtT, C.refsLt, C.refsLt1]
    · have hlt : ((i : Int) < (xs.length : Int)) = False := by simp; omega
      refine run_sound Try.func98 mixed 6 _ _ (by kernel_rfl) ?_
      simp only [go_sem, ↓reduceIte, Nat.reduceEqDiff, Nat.reduceLT, Nat.reduceLeDiff, Nat.reduceAdd, Nat.reduceMul, Nat.reduceSub, Int.reduceToNat, Int.reduceLT, Int.reduceLE, Int.reduceEq, Int.reduceNeg, Int.reduceAdd, Int.reduceSub, reduceCtorEq, Int.toNat_natCast, hlt]
      obtain rfl : i = xs.length := by omega
      rw [row_all]
      refine AW.freeze 3 0 rfl rfl rfl ?_
      refine run_sound Try.func98 mixed 100 _ _ (by kernel_rfl) ?_
      simp only [go_sem, ↓reduceIte, Nat.reduceEqDiff, Nat.reduceLT, Nat.reduceLeDiff, Nat.reduceAdd, Nat.reduceMul, Nat.reduceSub, Int.reduceToNat, Int.reduceLT, Int.reduceLE, Int.reduceEq, Int.reduceNeg, Int.reduceAdd, Int.reduceSub, reduceCtorEq]

theorem to109 (a0 : Int) (a1 : Int)  : Gives Try.prog 109 [.agg [.int .i64 a0, .int .i64 a1]] (.d (.agg [.int .i64 a0, .int .i64 a1])) := by
  refine ACalls.enter (fn := Try.f109) Try.func109 rfl (by show 1 ≤ _; decide) ?_
  refine run_sound Try.func109 mixed 100 _ _ (by kernel_rfl) ?_
  simp only [go_sem, ↓reduceIte, Nat.reduceEqDiff, Nat.reduceLT, Nat.reduceLeDiff, Nat.reduceAdd, Nat.reduceMul, Nat.reduceSub, Int.reduceToNat, Int.reduceLT, Int.reduceLE, Int.reduceEq, Int.reduceNeg, Int.reduceAdd, Int.reduceSub, reduceCtorEq]

theorem eq102 (xs : List (List D)) (hm : xs.length ≤ maxLen) (hx : ∀ x, x ∈ xs → x.length = 2 ∧ Gives Try.prog 112 [.agg x, .agg x] (.d (.bool true))) : Gives Try.prog 102 [.sl xs, .sl xs] (.d (.bool true)) := by
  have hm' : (xs.length : Int) ≤ 9223372036854775807 := by simp only [maxLen] at hm; omega
  refine ACalls.enter (fn := Try.f102) Try.func102 rfl (by show 2 ≤ _; decide) ?_
  refine run_sound Try.func102 mixed 100 _ _ (by kernel_rfl) ?_
  simp only [go_sem, ↓reduceIte, Nat.reduceEqDiff, Nat.reduceLT, Nat.reduceLeDiff, Nat.reduceAdd, Nat.reduceMul, Nat.reduceSub, Int.reduceToNat, Int.reduceLT, Int.reduceLE, Int.reduceEq, Int.reduceNeg, Int.reduceAdd, Int.reduceSub, reduceCtorEq, bne_self_eq_false]
  refine AW.loop_ind (fun i : Nat => ⟨[(5, .d (.int .i64 i)), (0, .d (.sl xs)), (1, .d (.sl xs)), (4, .d (.bool false))], []⟩) (fun i => i ≤ xs.length) (fun i => xs.length - i) 0 (by omega) ?_ ?_
  · refine Weak.of (by simp) rfl ?_
    simp [Abs.get, C.refsLtT, C.refsLt, C.refsLt1]
  · intro i hi hnext
    by_cases h : i < xs.length
    · obtain ⟨x, hxi⟩ : ∃ x, xs[i]? = some x := ⟨_, List.getElem?_eq_getElem h⟩
      obtain ⟨e1, e2⟩ := hx x (List.mem_of_getElem? hxi)
      have hlt : ((i : Int) < (xs.length : Int)) = True := by simp; omega
      have h00 : (0 ≤ (i : Int)) = True := by simp
      refine run_sound Try.func102 mixed 100 _ _ (by kernel_rfl) ?_
      simp only [go_sem, ↓reduceIte, Nat.reduceEqDiff, Nat.reduceLT, Nat.reduceLeDiff, Nat.reduceAdd, Nat.reduceMul, Nat.reduceSub, Int.reduceToNat, Int.reduceLT, Int.reduceLE, Int.reduceEq, Int.reduceNeg, Int.reduceAdd, Int.reduceSub, reduceCtorEq, Int.toNat_natCast, hlt, hxi, idx_of hxi, e1, h00, bne_self_eq_false]
      refine e2.callQ rfl ?_
      simp only [go_sem, ↓reduceIte, Nat.reduceEqDiff, Nat.reduceLT, Nat.reduceLeDiff, Nat.reduceAdd, Nat.reduceMul, Nat.reduceSub, Int.reduceToNat, Int.reduceLT, Int.reduceLE, Int.reduceEq, Int.reduceNeg, Int.reduceAdd, Int.reduceSub, reduceCtorEq]
      rw [wrap_ok (by omega) (by omega)]
      refine hnext (i + 1) _ (by omega) (by omega) ?_
      refine Weak.of (by simp) rfl ?_
      simp [Abs.get, C.refsLtT, C.refsLt, C.refsLt1]
    · have hlt : ((i : Int) < (xs.length : Int)) = False := by simp; omega
      refine run_sound Try.func102 mixed 100 _ _ (by kernel_rfl) ?_
      simp only [go_sem, ↓reduceIte, Nat.reduceEqDiff, Nat.reduceLT, Nat.reduceLeDiff, Nat.reduceAdd, Nat.reduceMul, Nat.reduceSub, Int.reduceToNat, Int.reduceLT, Int.reduceLE, Int.reduceEq, Int.reduceNeg, Int.reduceAdd, Int.reduceSub, reduceCtorEq, hlt]

theorem eq112 (a0 : Int) (a1 : Int)  : Gives Try.prog 112 [.agg [.int .i64 a0, .int .i64 a1], .agg [.int .i64 a0, .int .i64 a1]] (.d (.bool true)) := by
  refine ACalls.enter (fn := Try.f112) Try.func112 rfl (by show 2 ≤ _; decide) ?_
  refine run_sound Try.func112 mixed 100 _ _ (by kernel_rfl) ?_
  simp only [go_sem, ↓reduceIte, Nat.reduceEqDiff, Nat.reduceLT, Nat.reduceLeDiff, Nat.reduceAdd, Nat.reduceMul, Nat.reduceSub, Int.reduceToNat, Int.reduceLT, Int.reduceLE, Int.reduceEq, Int.reduceNeg, Int.reduceAdd, Int.reduceSub, reduceCtorEq, bne_self_eq_false]

theorem mk160 (a0 : Int) (a1 : Int) (q0 : (Lit.int .i64 a0).wf = true) (q1 : (Lit.int .i64 a1).wf = true) : Sh Try.prog 160 [.int .i64 a0, .int .i64 a1] := by
  refine ⟨_, lv160, rfl, fun i l c hl hc => ?_⟩
  match i with
  | 0 => simp at hl hc; subst hl hc; exact .int _ _ q0
  | 1 => simp at hl hc; subst hl hc; exact .int _ _ q1
  | i + 2 => simp at hl

theorem len160 {x : List D} (h : Sh Try.prog 160 x) : x.length = 2 := by
  obtain ⟨_, _, rfl, _⟩ := inv160 h
  rfl
theorem toc160 : ∀ (m : Nat) (x : List D), wtL x < m → wtL x ≤ 1048576 → Sh Try.prog 160 x → Gives Try.prog 109 [.agg x] (.d (.agg x))
  | 0, _, hm, _, _ => by omega
  | m + 1, x, hm, hb, h => by
    obtain ⟨a0, a1, rfl, q0, q1⟩ := inv160 h
    have hw : wtL [.int .i64 a0, .int .i64 a1] = 0 := by simp only [wtL, D.wt] <;> omega
    exact to109 a0 a1 
theorem eqc160 : ∀ (m : Nat) (x : List D), wtL x < m → Sh Try.prog 160 x → Gives Try.prog 112 [.agg x, .agg x] (.d (.bool true))
  | 0, _, hm, _ => by omega
  | m + 1, x, hm, h => by
    obtain ⟨a0, a1, rfl, q0, q1⟩ := inv160 h
    have hw : wtL [.int .i64 a0, .int .i64 a1] = 0 := by simp only [wtL, D.wt] <;> omega
    exact eq112 a0 a1 

theorem sh_Vk (x : List D) (h : Sh Try.prog 160 x) : ∃ t, x = Vk.enc t := Vk.of_sh lv160 x h
theorem sl_63 {x : D} (h : Sh Try.prog 63 [x]) : ∃ l : List Vk, x = .sl (l.map Vk.enc) := shL (by kernel_rfl) sh_Vk h

theorem szs63 (xs : List (List D)) (hm : xs.length ≤ maxLen) (h : ∀ x, x ∈ xs → Sh Try.prog 160 x) (n : Int) (g0 : 0 ≤ n) (g1 : n ≤ 1048576) : Gives Try.prog 94 [.sl xs, .int .i64 n] (.d (.int .i64 (szr n (wtR xs)))) :=
  sz94 xs hm (fun x hx => by obtain ⟨_, _, rfl, _⟩ := inv160 (h x hx); rfl) n g0 g1
theorem tos63 (xs : List (List D)) (hb : wtR xs ≤ 1048576) (h : ∀ x, x ∈ xs → Sh Try.prog 160 x) : Gives Try.prog 98 [.sl xs] (.d (.sl xs)) :=
  to98 xs (by have := sumW_le xs 0; omega) (fun x hx => ⟨len160 (h x hx), toc160 _ x (Nat.lt_succ_self _) (by have := wtL_lt xs x hx; omega) (h x hx)⟩)
theorem eqs63 (xs : List (List D)) (hm : xs.length ≤ maxLen) (h : ∀ x, x ∈ xs → Sh Try.prog 160 x) : Gives Try.prog 102 [.sl xs, .sl xs] (.d (.bool true)) :=
  eq102 xs hm (fun x hx => ⟨len160 (h x hx), eqc160 _ x (Nat.lt_succ_self _) (h x hx)⟩)

theorem lv153 : leaves Try.prog 6 153 = some [.int .i64, .str] := by kernel_rfl
theorem inv153 {x : List D} (h : Sh Try.prog 153 x) : ∃ a0 a1, x = [.int .i64 a0, .str a1] ∧ (Lit.int .i64 a0).wf = true ∧ a1.length ≤ maxLen := by
  obtain ⟨ls, h1, h2, h3⟩ := h
  rw [lv153] at h1
  cases h1
  match x, h2, h3 with
  | [c0, c1], _, h3 =>
    have g0 := h3 0 _ _ rfl rfl
    have g1 := h3 1 _ _ rfl rfl
    obtain ⟨b0, rfl, q0⟩ := g0.int_inv
    obtain ⟨b1, rfl, q1⟩ := g1.str_inv
    exact ⟨_, _, rfl, q0, q1⟩

theorem sz95 (xs : List (List D)) (hm : xs.length ≤ maxLen) (hx : ∀ x, x ∈ xs → x.length = 2 ∧ ∀ n : Int, 0 ≤ n → n ≤ 1048576 → Gives Try.prog 107 [.agg x, .int .i64 n] (.d (.int .i64 (szr n (wtL x)))))
    (n : Int) (h0 : 0 ≤ n) (h1 : n ≤ 1048576) : Gives Try.prog 95 [.sl xs, .int .i64 n] (.d (.int .i64 (szr n (wtR xs)))) := by
  have hm' : (xs.length : Int) ≤ 9223372036854775807 := by simp only [maxLen] at hm; omega
  have hs := sumW_all xs
  have hs0 := sumW_le xs 0
  simp only [sumW] at hs0
  refine ACalls.enter (fn := Try.f95) Try.func95 rfl (by show 2 ≤ _; decide) ?_
  refine run_sound Try.func95 mixed 100 _ _ (by kernel_rfl) ?_
  simp only [go_sem, ↓reduceIte, Nat.reduceEqDiff, Nat.reduceLT, Nat.reduceLeDiff, Nat.reduceAdd, Nat.reduceMul, Nat.reduceSub, Int.reduceToNat, Int.reduceLT, Int.reduceLE, Int.reduceEq, Int.reduceNeg, Int.reduceAdd, Int.reduceSub, reduceCtorEq]
  rw [wrap_ok (by omega) (by omega)]
  refine br_intro (fun h => ?_) (fun h => ?_)
  · simp only [decide_eq_true_eq] at h
    simp only [go_sem, ↓reduceIte, Nat.reduceEqDiff, Nat.reduceLT, Nat.reduceLeDiff, Nat.reduceAdd, Nat.reduceMul, Nat.reduceSub, Int.reduceToNat, Int.reduceLT, Int.reduceLE, Int.reduceEq, Int.reduceNeg, Int.reduceAdd, Int.reduceSub, reduceCtorEq]
    rw [szr_neg (by omega)]
  simp only [decide_eq_false_iff_not, Int.not_lt] at h
  simp only [go_sem, ↓reduceIte, Nat.reduceEqDiff, Nat.reduceLT, Nat.reduceLeDiff, Nat.reduceAdd, Nat.reduceMul, Nat.reduceSub, Int.reduceToNat, Int.reduceLT, Int.reduceLE, Int.reduceEq, Int.reduceNeg, Int.reduceAdd, Int.reduceSub, reduceCtorEq]
  refine AW.loop_ind (fun i : Nat => ⟨[(5, .d (.int .i64 i)), (0, .d (.sl xs)), (1, .d (.int .i64 (n - xs.length - sumW xs i))), (4, .d (.int .i64 0))], []⟩) (fun i => i ≤ xs.length ∧ (sumW xs i : Int) ≤ n - xs.length) (fun i => xs.length - i) 0 ⟨by omega, by simp only [sumW]; omega⟩ ?_ ?_
  · refine Weak.of (by simp) rfl ?_
    simp [Abs.get, sumW, C.refsLtT, C.refsLt, C.refsLt1]
  · intro i hi hnext
    obtain ⟨hi1, hi2⟩ := hi
    refine run_sound Try.func95 mixed 100 _ _ (by kernel_rfl) ?_
    simp only [go_sem, ↓reduceIte, Nat.reduceEqDiff, Nat.reduceLT, Nat.reduceLeDiff, Nat.reduceAdd, Nat.reduceMul, Nat.reduceSub, Int.reduceToNat, Int.reduceLT, Int.reduceLE, Int.reduceEq, Int.reduceNeg, Int.reduceAdd, Int.reduceSub, reduceCtorEq]
    refine br_intro (fun h => ?_) (fun h => ?_)
    · simp only [decide_eq_true_eq] at h
      have hi : i < xs.length := by omega
      obtain ⟨x, hxi⟩ : ∃ x, xs[i]? = some x := ⟨_, List.getElem?_eq_getElem hi⟩
      have hsum := sumW_at hxi
      have hle := sumW_le xs (i + 1)
      obtain ⟨e1, e2⟩ := hx x (List.mem_of_getElem? hxi)
      simp only [go_sem, ↓reduceIte, Nat.reduceEqDiff, Nat.reduceLT, Nat.reduceLeDiff, Nat.reduceAdd, Nat.reduceMul, Nat.reduceSub, Int.reduceToNat, Int.reduceLT, Int.reduceLE, Int.reduceEq, Int.reduceNeg, Int.reduceAdd, Int.reduceSub, reduceCtorEq, Int.toNat_natCast, hxi, idx_of hxi, e1]
      repeat refine And.intro (by omega) ?_
      refine (e2 _ (by omega) (by omega)).calls rfl ?_
      simp only [go_sem, ↓reduceIte, Nat.reduceEqDiff, Nat.reduceLT, Nat.reduceLeDiff, Nat.reduceAdd, Nat.reduceMul, Nat.reduceSub, Int.reduceToNat, Int.reduceLT, Int.reduceLE, Int.reduceEq, Int.reduceNeg, Int.reduceAdd, Int.reduceSub, reduceCtorEq]
      refine br_intro (fun h => ?_) (fun h => ?_)
      · simp only [decide_eq_true_eq] at h
        have hg := szr_lt h
        simp only [go_sem, ↓reduceIte, Nat.reduceEqDiff, Nat.reduceLT, Nat.reduceLeDiff, Nat.reduceAdd, Nat.reduceMul, Nat.reduceSub, Int.reduceToNat, Int.reduceLT, Int.reduceLE, Int.reduceEq, Int.reduceNeg, Int.reduceAdd, Int.reduceSub, reduceCtorEq]
        rw [szr_neg (by omega)]
      · simp only [decide_eq_false_iff_not] at h
        have hg := szr_ge h
        rw [szr_pos hg]
        simp only [go_sem, ↓reduceIte, Nat.reduceEqDiff, Nat.reduceLT, Nat.reduceLeDiff, Nat.reduceAdd, Nat.reduceMul, Nat.reduceSub, Int.reduceToNat, Int.reduceLT, Int.reduceLE, Int.reduceEq, Int.reduceNeg, Int.reduceAdd, Int.reduceSub, reduceCtorEq]
        rw [wrap_ok (by omega) (by omega)]
        refine hnext (i + 1) _ ⟨by omega, by omega⟩ (by omega) ?_
        refine Weak.of (by simp) rfl ?_
        simp [Abs.get, C.refsLtT, C.refsLt, C.refsLt1]
        omega
    · simp only [decide_eq_false_iff_not] at h
      have : i = xs.length := by omega
      subst this
      simp only [go_sem, ↓reduceIte, Nat.reduceEqDiff, Nat.reduceLT, Nat.reduceLeDiff, Nat.reduceAdd, Nat.reduceMul, Nat.reduceSub, Int.reduceToNat, Int.reduceLT, Int.reduceLE, Int.reduceEq, Int.reduceNeg, Int.reduceAdd, Int.reduceSub, reduceCtorEq]
      rw [szr_pos (by omega)]
      all_goals (congr 2 <;> omega)

theorem sz107 (a0 : Int) (a1 : List UInt8) (h1 : a1.length ≤ maxLen)
    (n : Int) (g0 : 0 ≤ n) (g1 : n ≤ 1048576) : Gives Try.prog 107 [.agg [.int .i64 a0, .str a1], .int .i64 n] (.d (.int .i64 (szr n (wtL [.int .i64 a0, .str a1])))) := by
  have hw : wtL [.int .i64 a0, .str a1] = a1.length := by simp only [wtL, D.wt] <;> omega
  simp only [maxLen] at h1
  rw [hw]
  refine ACalls.enter (fn := Try.f107) Try.func107 rfl (by show 2 ≤ _; decide) ?_
  refine run_sound Try.func107 mixed 100 _ _ (by kernel_rfl) ?_
  simp only [go_sem, ↓reduceIte, Nat.reduceEqDiff, Nat.reduceLT, Nat.reduceLeDiff, Nat.reduceAdd, Nat.reduceMul, Nat.reduceSub, Int.reduceToNat, Int.reduceLT, Int.reduceLE, Int.reduceEq, Int.reduceNeg, Int.reduceAdd, Int.reduceSub, reduceCtorEq]
  rw [wrap_ok (by omega) (by omega)]
  refine br_intro (fun h => ?_) (fun h => ?_)
  · simp only [decide_eq_true_eq] at h
    simp only [go_sem, ↓reduceIte, Nat.reduceEqDiff, Nat.reduceLT, Nat.reduceLeDiff, Nat.reduceAdd, Nat.reduceMul, Nat.reduceSub, Int.reduceToNat, Int.reduceLT, Int.reduceLE, Int.reduceEq, Int.reduceNeg, Int.reduceAdd, Int.reduceSub, reduceCtorEq]
    rw [szr_neg (by omega)]
  simp only [decide_eq_false_iff_not, Int.not_lt] at h
  simp only [go_sem, ↓reduceIte, Nat.reduceEqDiff, Nat.reduceLT, Nat.reduceLeDiff, Nat.reduceAdd, Nat.reduceMul, Nat.reduceSub, Int.reduceToNat, Int.reduceLT, Int.reduceLE, Int.reduceEq, Int.reduceNeg, Int.reduceAdd, Int.reduceSub, reduceCtorEq]
  all_goals rw [szr_pos (by omega)]
  all_goals (congr 2 <;> omega)

theorem to99 (xs : List (List D)) (hl : xs.length ≤ 1048576) (hx : ∀ x, x ∈ xs → x.length = 2 ∧ Gives Try.prog 110 [.agg x] (.d (.agg x))) : Gives Try.prog 99 [.sl xs] (.d (.sl xs)) := by
  refine ACalls.enter (fn := Try.f99) Try.func99 rfl (by show 1 ≤ _; decide) ?_
  refine run_sound Try.func99 mixed 100 _ _ (by kernel_rfl) ?_
  simp only [go_sem, ↓reduceIte, Nat.reduceEqDiff, Nat.reduceLT, Nat.reduceLeDiff, Nat.reduceAdd, Nat.reduceMul, Nat.reduceSub, Int.reduceToNat, Int.reduceLT, Int.reduceLE, Int.reduceEq, Int.reduceNeg, Int.reduceAdd, Int.reduceSub, reduceCtorEq, Int.toNat_natCast]
  repeat refine And.intro (by first | omega | (simp only [maxLen]; omega)) ?_
  refine AW.loop_ind (fun i : Nat => ⟨[(4, .d (.int .i64 i)), (0, .d (.sl xs)), (3, .rsl 0 xs.length), (2, .nil0)], [.row 2 161 (xs.take i ++ List.replicate (xs.length - i) [.int .i64 0, .str []])]⟩) (fun i => i ≤ xs.length) (fun i => xs.length - i) 0 (by omega) ?_ ?_
  · refine Weak.of (by simp) rfl ?_
    simp [Abs.get, C.refsLtT, C.refsLt, C.refsLt1]
  · intro i hi hnext
    by_cases h : i < xs.length
    · obtain ⟨x, hxi⟩ : ∃ x, xs[i]? = some x := ⟨_, List.getElem?_eq_getElem h⟩
      obtain ⟨e1, e2⟩ := hx x (List.mem_of_getElem? hxi)
      have hlt : ((i : Int) < (xs.length : Int)) = True := by simp; omega
      refine run_sound Try.func99 mixed 100 _ _ (by kernel_rfl) ?_
      simp only [go_sem, ↓reduceIte, Nat.reduceEqDiff, Nat.reduceLT, Nat.reduceLeDiff, Nat.reduceAdd, Nat.reduceMul, Nat.reduceSub, Int.reduceToNat, Int.reduceLT, Int.reduceLE, Int.reduceEq, Int.reduceNeg, Int.reduceAdd, Int.reduceSub, reduceCtorEq, Int.toNat_natCast, hlt, hxi, idx_of hxi, e1]
      repeat refine And.intro (by omega) ?_
      refine e2.calls rfl ?_
      simp only [go_sem, ↓reduceIte, Nat.reduceEqDiff, Nat.reduceLT, Nat.reduceLeDiff, Nat.reduceAdd, Nat.reduceMul, Nat.reduceSub, Int.reduceToNat, Int.reduceLT, Int.reduceLE, Int.reduceEq, Int.reduceNeg, Int.reduceAdd, Int.reduceSub, reduceCtorEq, Int.toNat_natCast, hlt, hxi, idx_of hxi, e1]
      repeat refine And.intro (by first | omega | (simp; omega) | (simp_all; done)) ?_
      rw [wrap_ok (by omega) (by omega)]
      first | rw [row_step (k := 2) hxi (by rfl)] | rw [row_step1 hxi (by rfl)]
      refine hnext (i + 1) _ (by omega) (by omega) ?_
      refine Weak.of (by simp) rfl ?_
      simp [Abs.get, C.refsLtT, C.refsLt, C.refsLt1]
    · have hlt : ((i : Int) < (xs.length : Int)) = False := by simp; omega
      refine run_sound Try.func99 mixed 6 _ _ (by kernel_rfl) ?_
      simp only [go_sem, ↓reduceIte, Nat.reduceEqDiff, Nat.reduceLT, Nat.reduceLeDiff, Nat.reduceAdd, Nat.reduceMul, Nat.reduceSub, Int.reduceToNat, Int.reduceLT, Int.reduceLE, Int.reduceEq, Int.reduceNeg, Int.reduceAdd, Int.reduceSub, reduceCtorEq, Int.toNat_natCast, hlt]
      obtain rfl : i = xs.length := by omega
      rw [row_all]
      refine AW.freeze 3 0 rfl rfl rfl ?_
      refine run_sound Try.func99 mixed 100 _ _ (by kernel_rfl) ?_
      simp only [go_sem, ↓reduceIte, Nat.reduceEqDiff, Nat.reduceLT, Nat.reduceLeDiff, Nat.reduceAdd, Nat.reduceMul, Nat.reduceSub, Int.reduceToNat, Int.reduceLT, Int.reduceLE, Int.reduceEq, Int.reduceNeg, Int.reduceAdd, Int.reduceSub, reduceCtorEq]

theorem to110 (a0 : Int) (a1 : List UInt8)  : Gives Try.prog 110 [.agg [.int .i64 a0, .str a1]] (.d (.agg [.int .i64 a0, .str a1])) := by
  refine ACalls.enter (fn := Try.f110) Try.func110 rfl (by show 1 ≤ _; decide) ?_
  refine run_sound Try.func110 mixed 100 _ _ (by kernel_rfl) ?_
  simp only [go_sem, ↓reduceIte, Nat.reduceEqDiff, Nat.reduceLT, Nat.reduceLeDiff, Nat.reduceAdd, Nat.reduceMul, Nat.reduceSub, Int.reduceToNat, Int.reduceLT, Int.reduceLE, Int.reduceEq, Int.reduceNeg, Int.reduceAdd, Int.reduceSub, reduceCtorEq]

theorem eq103 (xs : List (List D)) (hm : xs.length ≤ maxLen) (hx : ∀ x, x ∈ xs → x.length = 2 ∧ Gives Try.prog 113 [.agg x, .agg x] (.d (.bool true))) : Gives Try.prog 103 [.sl xs, .sl xs] (.d (.bool true)) := by
  have hm' : (xs.length : Int) ≤ 9223372036854775807 := by simp only [maxLen] at hm; omega
  refine ACalls.enter (fn := Try.f103) Try.func103 rfl (by show 2 ≤ _; decide) ?_
  refine run_sound Try.func103 mixed 100 _ _ (by kernel_rfl) ?_
  simp only [go_sem, ↓reduceIte, Nat.reduceEqDiff, Nat.reduceLT, Nat.reduceLeDiff, Nat.reduceAdd, Nat.reduceMul, Nat.reduceSub, Int.reduceToNat, Int.reduceLT, Int.reduceLE, Int.reduceEq, Int.reduceNeg, Int.reduceAdd, Int.reduceSub, reduceCtorEq, bne_self_eq_false]
  refine AW.loop_ind (fun i : Nat => ⟨[(5, .d (.int .i64 i)), (0, .d (.sl xs)), (1, .d (.sl xs)), (4, .d (.bool false))], []⟩) (fun i => i ≤ xs.length) (fun i => xs.length - i) 0 (by omega) ?_ ?_
  · refine Weak.of (by simp) rfl ?_
    simp [Abs.get, C.refsLtT, C.refsLt, C.refsLt1]
  · intro i hi hnext
    by_cases h : i < xs.length
    · obtain ⟨x, hxi⟩ : ∃ x, xs[i]? = some x := ⟨_, List.getElem?_eq_getElem h⟩
      obtain ⟨e1, e2⟩ := hx x (List.mem_of_getElem? hxi)
      have hlt : ((i : Int) < (xs.length : Int)) = True := by simp; omega
      have h00 : (0 ≤ (i : Int)) = True := by simp
      refine run_sound Try.func103 mixed 100 _ _ (by kernel_rfl) ?_
      simp only [go_sem, ↓reduceIte, Nat.reduceEqDiff, Nat.reduceLT, Nat.reduceLeDiff, Nat.reduceAdd, Nat.reduceMul, Nat.reduceSub, Int.reduceToNat, Int.reduceLT, Int.reduceLE, Int.reduceEq, Int.reduceNeg, Int.reduceAdd, Int.reduceSub, reduceCtorEq, Int.toNat_natCast, hlt, hxi, idx_of hxi, e1, h00, bne_self_eq_false]
      refine e2.callQ rfl ?_
      simp only [go_sem, ↓reduceIte, Nat.reduceEqDiff, Nat.reduceLT, Nat.reduceLeDiff, Nat.reduceAdd, Nat.reduceMul, Nat.reduceSub, Int.reduceToNat, Int.reduceLT, Int.reduceLE, Int.reduceEq, Int.reduceNeg, Int.reduceAdd, Int.reduceSub, reduceCtorEq]
      rw [wrap_ok (by omega) (by omega)]
      refine hnext (i + 1) _ (by omega) (by omega) ?_
      refine Weak.of (by simp) rfl ?_
      simp [Abs.get, C.refsLtT, C.refsLt, C.refsLt1]
    · have hlt : ((i : Int) < (xs.length : Int)) = False := by simp; omega
      refine run_sound Try.func103 mixed 100 _ _ (by kernel_rfl) ?_
      simp only [go_sem, ↓reduceIte, Nat.reduceEqDiff, Nat.reduceLT, Nat.reduceLeDiff, Nat.reduceAdd, Nat.reduceMul, Nat.reduceSub, Int.reduceToNat, Int.reduceLT, Int.reduceLE, Int.reduceEq, Int.reduceNeg, Int.reduceAdd, Int.reduceSub, reduceCtorEq, hlt]

theorem eq113 (a0 : Int) (a1 : List UInt8)  : Gives Try.prog 113 [.agg [.int .i64 a0, .str a1], .agg [.int .i64 a0, .str a1]] (.d (.bool true)) := by
  refine ACalls.enter (fn := Try.f113) Try.func113 rfl (by show 2 ≤ _; decide) ?_
  refine run_sound Try.func113 mixed 100 _ _ (by kernel_rfl) ?_
  simp only [go_sem, ↓reduceIte, Nat.reduceEqDiff, Nat.reduceLT, Nat.reduceLeDiff, Nat.reduceAdd, Nat.reduceMul, Nat.reduceSub, Int.reduceToNat, Int.reduceLT, Int.reduceLE, Int.reduceEq, Int.reduceNeg, Int.reduceAdd, Int.reduceSub, reduceCtorEq, bne_self_eq_false]

theorem mk153 (a0 : Int) (a1 : List UInt8) (q0 : (Lit.int .i64 a0).wf = true) (q1 : a1.length ≤ maxLen) : Sh Try.prog 153 [.int .i64 a0, .str a1] := by
  refine ⟨_, lv153, rfl, fun i l c hl hc => ?_⟩
  match i with
  | 0 => simp at hl hc; subst hl hc; exact .int _ _ q0
  | 1 => simp at hl hc; subst hl hc; exact .str _ q1
  | i + 2 => simp at hl

theorem len153 {x : List D} (h : Sh Try.prog 153 x) : x.length = 2 := by
  obtain ⟨_, _, rfl, _⟩ := inv153 h
  rfl
theorem szc153 : ∀ (m : Nat) (x : List D), wtL x < m → Sh Try.prog 153 x → ∀ n : Int, 0 ≤ n → n ≤ 1048576 → Gives Try.prog 107 [.agg x, .int .i64 n] (.d (.int .i64 (szr n (wtL x))))
  | 0, _, hm, _ => by omega
  | m + 1, x, hm, h => by
    obtain ⟨a0, a1, rfl, q0, q1⟩ := inv153 h
    have hw : wtL [.int .i64 a0, .str a1] = a1.length := by simp only [wtL, D.wt] <;> omega
    exact fun n g0 g1 => sz107 a0 a1 q1 n g0 g1
theorem toc153 : ∀ (m : Nat) (x : List D), wtL x < m → wtL x ≤ 1048576 → Sh Try.prog 153 x → Gives Try.prog 110 [.agg x] (.d (.agg x))
  | 0, _, hm, _, _ => by omega
  | m + 1, x, hm, hb, h => by
    obtain ⟨a0, a1, rfl, q0, q1⟩ := inv153 h
    have hw : wtL [.int .i64 a0, .str a1] = a1.length := by simp only [wtL, D.wt] <;> omega
    exact to110 a0 a1 
theorem eqc153 : ∀ (m : Nat) (x : List D), wtL x < m → Sh Try.prog 153 x → Gives Try.prog 113 [.agg x, .agg x] (.d (.bool true))
  | 0, _, hm, _ => by omega
  | m + 1, x, hm, h => by
    obtain ⟨a0, a1, rfl, q0, q1⟩ := inv153 h
    have hw : wtL [.int .i64 a0, .str a1] = a1.length := by simp only [wtL, D.wt] <;> omega
    exact eq113 a0 a1 

theorem sh_Mk (x : List D) (h : Sh Try.prog 153 x) : ∃ t, x = Mk.enc t := Mk.of_sh lv153 x h
theorem sl_64 {x : D} (h : Sh Try.prog 64 [x]) : ∃ l : List Mk, x = .sl (l.map Mk.enc) := shL (by kernel_rfl) sh_Mk h

theorem szs64 (xs : List (List D)) (hm : xs.length ≤ maxLen) (h : ∀ x, x ∈ xs → Sh Try.prog 153 x) (n : Int) (g0 : 0 ≤ n) (g1 : n ≤ 1048576) : Gives Try.prog 95 [.sl xs, .int .i64 n] (.d (.int .i64 (szr n (wtR xs)))) :=
  sz95 xs hm (fun x hx => ⟨len153 (h x hx), szc153 _ x (Nat.lt_succ_self _) (h x hx)⟩) n g0 g1
theorem tos64 (xs : List (List D)) (hb : wtR xs ≤ 1048576) (h : ∀ x, x ∈ xs → Sh Try.prog 153 x) : Gives Try.prog 99 [.sl xs] (.d (.sl xs)) :=
  to99 xs (by have := sumW_le xs 0; omega) (fun x hx => ⟨len153 (h x hx), toc153 _ x (Nat.lt_succ_self _) (by have := wtL_lt xs x hx; omega) (h x hx)⟩)
theorem eqs64 (xs : List (List D)) (hm : xs.length ≤ maxLen) (h : ∀ x, x ∈ xs → Sh Try.prog 153 x) : Gives Try.prog 103 [.sl xs, .sl xs] (.d (.bool true)) :=
  eq103 xs hm (fun x hx => ⟨len153 (h x hx), eqc153 _ x (Nat.lt_succ_self _) (h x hx)⟩)

theorem lv66 : leaves Try.prog 6 66 = some [.int .i64, .sl 150, .sl 61, .sl 160, .sl 153] := by kernel_rfl
theorem inv66 {x : List D} (h : Sh Try.prog 66 x) : ∃ a0 a1 a2 a3 a4, x = [.int .i64 a0, .sl a1, .sl a2, .sl a3, .sl a4] ∧ (Lit.int .i64 a0).wf = true ∧ (a1.length ≤ maxLen ∧ ∀ x, x ∈ a1 → Sh Try.prog 150 x) ∧ (a2.length ≤ maxLen ∧ ∀ x, x ∈ a2 → Sh Try.prog 61 x) ∧ (a3.length ≤ maxLen ∧ ∀ x, x ∈ a3 → Sh Try.prog 160 x) ∧ (a4.length ≤ maxLen ∧ ∀ x, x ∈ a4 → Sh Try.prog 153 x) := by
  obtain ⟨ls, h1, h2, h3⟩ := h
  rw [lv66] at h1
  cases h1
  match x, h2, h3 with
  | [c0, c1, c2, c3, c4], _, h3 =>
    have g0 := h3 0 _ _ rfl rfl
    have g1 := h3 1 _ _ rfl rfl
    have g2 := h3 2 _ _ rfl rfl
    have g3 := h3 3 _ _ rfl rfl
    have g4 := h3 4 _ _ rfl rfl
    obtain ⟨b0, rfl, q0⟩ := g0.int_inv
    obtain ⟨b1, rfl, q1⟩ := g1.elems
    obtain ⟨b2, rfl, q2⟩ := g2.elems
    obtain ⟨b3, rfl, q3⟩ := g3.elems
    obtain ⟨b4, rfl, q4⟩ := g4.elems
    exact ⟨_, _, _, _, _, rfl, q0, q1, q2, q3, q4⟩

theorem sz77 (a0 : Int) (a1 : List (List D)) (a2 : List (List D)) (a3 : List (List D)) (a4 : List (List D)) (h1 : ∀ n : Int, 0 ≤ n → n ≤ 1048576 → Gives Try.prog 92 [.sl a1, .int .i64 n] (.d (.int .i64 (szr n (wtR a1))))) (h2 : ∀ n : Int, 0 ≤ n → n ≤ 1048576 → Gives Try.prog 93 [.sl a2, .int .i64 n] (.d (.int .i64 (szr n (wtR a2))))) (h3 : ∀ n : Int, 0 ≤ n → n ≤ 1048576 → Gives Try.prog 94 [.sl a3, .int .i64 n] (.d (.int .i64 (szr n (wtR a3))))) (h4 : ∀ n : Int, 0 ≤ n → n ≤ 1048576 → Gives Try.prog 95 [.sl a4, .int .i64 n] (.d (.int .i64 (szr n (wtR a4)))))
    (n : Int) (g0 : 0 ≤ n) (g1 : n ≤ 1048576) : Gives Try.prog 77 [.agg [.int .i64 a0, .sl a1, .sl a2, .sl a3, .sl a4], .int .i64 n] (.d (.int .i64 (szr n (wtL [.int .i64 a0, .sl a1, .sl a2, .sl a3, .sl a4])))) := by
  have hw : wtL [.int .i64 a0, .sl a1, .sl a2, .sl a3, .sl a4] = wtR a1 + wtR a2 + wtR a3 + wtR a4 := by simp only [wtL, D.wt] <;> omega
  rw [hw]
  refine ACalls.enter (fn := Try.f77) Try.func77 rfl (by show 2 ≤ _; decide) ?_
  refine run_sound Try.func77 mixed 100 _ _ (by kernel_rfl) ?_
  simp only [go_sem, ↓reduceIte, Nat.reduceEqDiff, Nat.reduceLT, Nat.reduceLeDiff, Nat.reduceAdd, Nat.reduceMul, Nat.reduceSub, Int.reduceToNat, Int.reduceLT, Int.reduceLE, Int.reduceEq, Int.reduceNeg, Int.reduceAdd, Int.reduceSub, reduceCtorEq]
  refine (h1 _ (by omega) (by omega)).calls rfl ?_
  simp only [go_sem, ↓reduceIte, Nat.reduceEqDiff, Nat.reduceLT, Nat.reduceLeDiff, Nat.reduceAdd, Nat.reduceMul, Nat.reduceSub, Int.reduceToNat, Int.reduceLT, Int.reduceLE, Int.reduceEq, Int.reduceNeg, Int.reduceAdd, Int.reduceSub, reduceCtorEq]
  refine br_intro (fun h => ?_) (fun h => ?_)
  · simp only [decide_eq_true_eq] at h
    have hg := szr_lt h
    simp only [go_sem, ↓reduceIte, Nat.reduceEqDiff, Nat.reduceLT, Nat.reduceLeDiff, Nat.reduceAdd, Nat.reduceMul, Nat.reduceSub, Int.reduceToNat, Int.reduceLT, Int.reduceLE, Int.reduceEq, Int.reduceNeg, Int.reduceAdd, Int.reduceSub, reduceCtorEq]
    rw [szr_neg (by omega)]
  simp only [decide_eq_false_iff_not] at h
  have hg := szr_ge h
  rw [szr_pos hg]
  clear h
  simp only [go_sem, ↓reduceIte, Nat.reduceEqDiff, Nat.reduceLT, Nat.reduceLeDiff, Nat.reduceAdd, Nat.reduceMul, Nat.reduceSub, Int.reduceToNat, Int.reduceLT, Int.reduceLE, Int.reduceEq, Int.reduceNeg, Int.reduceAdd, Int.reduceSub, reduceCtorEq]
  refine (h2 _ (by omega) (by omega)).calls rfl ?_
  simp only [go_sem, ↓reduceIte, Nat.reduceEqDiff, Nat.reduceLT, Nat.reduceLeDiff, Nat.reduceAdd, Nat.reduceMul, Nat.reduceSub, Int.reduceToNat, Int.reduceLT, Int.reduceLE, Int.reduceEq, Int.reduceNeg, Int.reduceAdd, Int.reduceSub, reduceCtorEq]
  refine br_intro (fun h => ?_) (fun h => ?_)
  · simp only [decide_eq_true_eq] at h
    have hg := szr_lt h
    simp only [go_sem, ↓reduceIte, Nat.reduceEqDiff, Nat.reduceLT, Nat.reduceLeDiff, Nat.reduceAdd, Nat.reduceMul, Nat.reduceSub, Int.reduceToNat, Int.reduceLT, Int.reduceLE, Int.reduceEq, Int.reduceNeg, Int.reduceAdd, Int.reduceSub, reduceCtorEq]
    rw [szr_neg (by omega)]
  simp only [decide_eq_false_iff_not] at h
  have hg := szr_ge h
  rw [szr_pos hg]
  clear h
  simp only [go_sem, ↓reduceIte, Nat.reduceEqDiff, Nat.reduceLT, Nat.reduceLeDiff, Nat.reduceAdd, Nat.reduceMul, Nat.reduceSub, Int.reduceToNat, Int.reduceLT, Int.reduceLE, Int.reduceEq, Int.reduceNeg, Int.reduceAdd, Int.reduceSub, reduceCtorEq]
  refine (h3 _ (by omega) (by omega)).calls rfl ?_
  simp only [go_sem, ↓reduceIte, Nat.reduceEqDiff, Nat.reduceLT, Nat.reduceLeDiff, Nat.reduceAdd, Nat.reduceMul, Nat.reduceSub, Int.reduceToNat, Int.reduceLT, Int.reduceLE, Int.reduceEq, Int.reduceNeg, Int.reduceAdd, Int.reduceSub, reduceCtorEq]
  refine br_intro (fun h => ?_) (fun h => ?_)
  · simp only [decide_eq_true_eq] at h
    have hg := szr_lt h
    simp only [go_sem, ↓reduceIte, Nat.reduceEqDiff, Nat.reduceLT, Nat.reduceLeDiff, Nat.reduceAdd, Nat.reduceMul, Nat.reduceSub, Int.reduceToNat, Int.reduceLT, Int.reduceLE, Int.reduceEq, Int.reduceNeg, Int.reduceAdd, Int.reduceSub, reduceCtorEq]
    rw [szr_neg (by omega)]
  simp only [decide_eq_false_iff_not] at h
  have hg := szr_ge h
  rw [szr_pos hg]
  clear h
  simp only [go_sem, ↓reduceIte, Nat.reduceEqDiff, Nat.reduceLT, Nat.reduceLeDiff, Nat.reduceAdd, Nat.reduceMul, Nat.reduceSub, Int.reduceToNat, Int.reduceLT, Int.reduceLE, Int.reduceEq, Int.reduceNeg, Int.reduceAdd, Int.reduceSub, reduceCtorEq]
  refine (h4 _ (by omega) (by omega)).calls rfl ?_
  simp only [go_sem, ↓reduceIte, Nat.reduceEqDiff, Nat.reduceLT, Nat.reduceLeDiff, Nat.reduceAdd, Nat.reduceMul, Nat.reduceSub, Int.reduceToNat, Int.reduceLT, Int.reduceLE, Int.reduceEq, Int.reduceNeg, Int.reduceAdd, Int.reduceSub, reduceCtorEq]
  refine br_intro (fun h => ?_) (fun h => ?_)
  · simp only [decide_eq_true_eq] at h
    have hg := szr_lt h
    simp only [go_sem, ↓reduceIte, Nat.reduceEqDiff, Nat.reduceLT, Nat.reduceLeDiff, Nat.reduceAdd, Nat.reduceMul, Nat.reduceSub, Int.reduceToNat, Int.reduceLT, Int.reduceLE, Int.reduceEq, Int.reduceNeg, Int.reduceAdd, Int.reduceSub, reduceCtorEq]
    rw [szr_neg (by omega)]
  simp only [decide_eq_false_iff_not] at h
  have hg := szr_ge h
  rw [szr_pos hg]
  clear h
  simp only [go_sem, ↓reduceIte, Nat.reduceEqDiff, Nat.reduceLT, Nat.reduceLeDiff, Nat.reduceAdd, Nat.reduceMul, Nat.reduceSub, Int.reduceToNat, Int.reduceLT, Int.reduceLE, Int.reduceEq, Int.reduceNeg, Int.reduceAdd, Int.reduceSub, reduceCtorEq]
  all_goals rw [szr_pos (by omega)]
  all_goals (congr 2 <;> omega)

theorem to79 (a0 : Int) (a1 : List (List D)) (a2 : List (List D)) (a3 : List (List D)) (a4 : List (List D)) (h1 : Gives Try.prog 96 [.sl a1] (.d (.sl a1))) (h2 : Gives Try.prog 97 [.sl a2] (.d (.sl a2))) (h3 : Gives Try.prog 98 [.sl a3] (.d (.sl a3))) (h4 : Gives Try.prog 99 [.sl a4] (.d (.sl a4))) : Gives Try.prog 79 [.agg [.int .i64 a0, .sl a1, .sl a2, .sl a3, .sl a4]] (.d (.agg [.int .i64 a0, .sl a1, .sl a2, .sl a3, .sl a4])) := by
  refine ACalls.enter (fn := Try.f79) Try.func79 rfl (by show 1 ≤ _; decide) ?_
  refine run_sound Try.func79 mixed 100 _ _ (by kernel_rfl) ?_
  simp only [go_sem, ↓reduceIte, Nat.reduceEqDiff, Nat.reduceLT, Nat.reduceLeDiff, Nat.reduceAdd, Nat.reduceMul, Nat.reduceSub, Int.reduceToNat, Int.reduceLT, Int.reduceLE, Int.reduceEq, Int.reduceNeg, Int.reduceAdd, Int.reduceSub, reduceCtorEq]
  refine h1.calls rfl ?_
  simp only [go_sem, ↓reduceIte, Nat.reduceEqDiff, Nat.reduceLT, Nat.reduceLeDiff, Nat.reduceAdd, Nat.reduceMul, Nat.reduceSub, Int.reduceToNat, Int.reduceLT, Int.reduceLE, Int.reduceEq, Int.reduceNeg, Int.reduceAdd, Int.reduceSub, reduceCtorEq]
  refine h2.calls rfl ?_
  simp only [go_sem, ↓reduceIte, Nat.reduceEqDiff, Nat.reduceLT, Nat.reduceLeDiff, Nat.reduceAdd, Nat.reduceMul, Nat.reduceSub, Int.reduceToNat, Int.reduceLT, Int.reduceLE, Int.reduceEq, Int.reduceNeg, Int.reduceAdd, Int.reduceSub, reduceCtorEq]
  refine h3.calls rfl ?_
  simp only [go_sem, ↓reduceIte, Nat.reduceEqDiff, Nat.reduceLT, Nat.reduceLeDiff, Nat.reduceAdd, Nat.reduceMul, Nat.reduceSub, Int.reduceToNat, Int.reduceLT, Int.reduceLE, Int.reduceEq, Int.reduceNeg, Int.reduceAdd, Int.reduceSub, reduceCtorEq]
  refine h4.calls rfl ?_
  simp only [go_sem, ↓reduceIte, Nat.reduceEqDiff, Nat.reduceLT, Nat.reduceLeDiff, Nat.reduceAdd, Nat.reduceMul, Nat.reduceSub, Int.reduceToNat, Int.reduceLT, Int.reduceLE, Int.reduceEq, Int.reduceNeg, Int.reduceAdd, Int.reduceSub, reduceCtorEq]

theorem eq81 (a0 : Int) (a1 : List (List D)) (a2 : List (List D)) (a3 : List (List D)) (a4 : List (List D)) (h1 : Gives Try.prog 100 [.sl a1, .sl a1] (.d (.bool true))) (h2 : Gives Try.prog 101 [.sl a2, .sl a2] (.d (.bool true))) (h3 : Gives Try.prog 102 [.sl a3, .sl a3] (.d (.bool true))) (h4 : Gives Try.prog 103 [.sl a4, .sl a4] (.d (.bool true))) : Gives Try.prog 81 [.agg [.int .i64 a0, .sl a1, .sl a2, .sl a3, .sl a4], .agg [.int .i64 a0, .sl a1, .sl a2, .sl a3, .sl a4]] (.d (.bool true)) := by
  refine ACalls.enter (fn := Try.f81) Try.func81 rfl (by show 2 ≤ _; decide) ?_
  refine run_sound Try.func81 mixed 100 _ _ (by kernel_rfl) ?_
  simp only [go_sem, ↓reduceIte, Nat.reduceEqDiff, Nat.reduceLT, Nat.reduceLeDiff, Nat.reduceAdd, Nat.reduceMul, Nat.reduceSub, Int.reduceToNat, Int.reduceLT, Int.reduceLE, Int.reduceEq, Int.reduceNeg, Int.reduceAdd, Int.reduceSub, reduceCtorEq, bne_self_eq_false]
  refine h1.calls rfl ?_
  simp only [go_sem, ↓reduceIte, Nat.reduceEqDiff, Nat.reduceLT, Nat.reduceLeDiff, Nat.reduceAdd, Nat.reduceMul, Nat.reduceSub, Int.reduceToNat, Int.reduceLT, Int.reduceLE, Int.reduceEq, Int.reduceNeg, Int.reduceAdd, Int.reduceSub, reduceCtorEq, bne_self_eq_false]
  refine h2.calls rfl ?_
  simp only [go_sem, ↓reduceIte, Nat.reduceEqDiff, Nat.reduceLT, Nat.reduceLeDiff, Nat.reduceAdd, Nat.reduceMul, Nat.reduceSub, Int.reduceToNat, Int.reduceLT, Int.reduceLE, Int.reduceEq, Int.reduceNeg, Int.reduceAdd, Int.reduceSub, reduceCtorEq, bne_self_eq_false]
  refine h3.calls rfl ?_
  simp only [go_sem, ↓reduceIte, Nat.reduceEqDiff, Nat.reduceLT, Nat.reduceLeDiff, Nat.reduceAdd, Nat.reduceMul, Nat.reduceSub, Int.reduceToNat, Int.reduceLT, Int.reduceLE, Int.reduceEq, Int.reduceNeg, Int.reduceAdd, Int.reduceSub, reduceCtorEq, bne_self_eq_false]
  refine h4.calls rfl ?_
  simp only [go_sem, ↓reduceIte, Nat.reduceEqDiff, Nat.reduceLT, Nat.reduceLeDiff, Nat.reduceAdd, Nat.reduceMul, Nat.reduceSub, Int.reduceToNat, Int.reduceLT, Int.reduceLE, Int.reduceEq, Int.reduceNeg, Int.reduceAdd, Int.reduceSub, reduceCtorEq, bne_self_eq_false]

theorem mk66 (a0 : Int) (a1 : List (List D)) (a2 : List (List D)) (a3 : List (List D)) (a4 : List (List D)) (q0 : (Lit.int .i64 a0).wf = true) (q1 : a1.length ≤ maxLen ∧ ∀ x, x ∈ a1 → Sh Try.prog 150 x) (q2 : a2.length ≤ maxLen ∧ ∀ x, x ∈ a2 → Sh Try.prog 61 x) (q3 : a3.length ≤ maxLen ∧ ∀ x, x ∈ a3 → Sh Try.prog 160 x) (q4 : a4.length ≤ maxLen ∧ ∀ x, x ∈ a4 → Sh Try.prog 153 x) : Sh Try.prog 66 [.int .i64 a0, .sl a1, .sl a2, .sl a3, .sl a4] := by
  refine ⟨_, lv66, rfl, fun i l c hl hc => ?_⟩
  match i with
  | 0 => simp at hl hc; subst hl hc; exact .int _ _ q0
  | 1 => simp at hl hc; subst hl hc; exact ShC.sl_of lv150 q1.1 q1.2
  | 2 => simp at hl hc; subst hl hc; exact ShC.sl_of lv61 q2.1 q2.2
  | 3 => simp at hl hc; subst hl hc; exact ShC.sl_of lv160 q3.1 q3.2
  | 4 => simp at hl hc; subst hl hc; exact ShC.sl_of lv153 q4.1 q4.2
  | i + 5 => simp at hl

theorem len66 {x : List D} (h : Sh Try.prog 66 x) : x.length = 5 := by
  obtain ⟨_, _, _, _, _, rfl, _⟩ := inv66 h
  rfl
theorem szc66 : ∀ (m : Nat) (x : List D), wtL x < m → Sh Try.prog 66 x → ∀ n : Int, 0 ≤ n → n ≤ 1048576 → Gives Try.prog 77 [.agg x, .int .i64 n] (.d (.int .i64 (szr n (wtL x))))
  | 0, _, hm, _ => by omega
  | m + 1, x, hm, h => by
    obtain ⟨a0, a1, a2, a3, a4, rfl, q0, q1, q2, q3, q4⟩ := inv66 h
    have hw : wtL [.int .i64 a0, .sl a1, .sl a2, .sl a3, .sl a4] = wtR a1 + wtR a2 + wtR a3 + wtR a4 := by simp only [wtL, D.wt] <;> omega
    exact fun n g0 g1 => sz77 a0 a1 a2 a3 a4 (fun n g0 g1 => szs61 a1 q1.1 q1.2 n g0 g1) (fun n g0 g1 => szs62 a2 q2.1 q2.2 n g0 g1) (fun n g0 g1 => szs63 a3 q3.1 q3.2 n g0 g1) (fun n g0 g1 => szs64 a4 q4.1 q4.2 n g0 g1) n g0 g1
theorem toc66 : ∀ (m : Nat) (x : List D), wtL x < m → wtL x ≤ 1048576 → Sh Try.prog 66 x → Gives Try.prog 79 [.agg x] (.d (.agg x))
  | 0, _, hm, _, _ => by omega
  | m + 1, x, hm, hb, h => by
    obtain ⟨a0, a1, a2, a3, a4, rfl, q0, q1, q2, q3, q4⟩ := inv66 h
    have hw : wtL [.int .i64 a0, .sl a1, .sl a2, .sl a3, .sl a4] = wtR a1 + wtR a2 + wtR a3 + wtR a4 := by simp only [wtL, D.wt] <;> omega
    exact to79 a0 a1 a2 a3 a4 (tos61 a1 (by omega) q1.2) (tos62 a2 (by omega) q2.2) (tos63 a3 (by omega) q3.2) (tos64 a4 (by omega) q4.2)
theorem eqc66 : ∀ (m : Nat) (x : List D), wtL x < m → Sh Try.prog 66 x → Gives Try.prog 81 [.agg x, .agg x] (.d (.bool true))
  | 0, _, hm, _ => by omega
  | m + 1, x, hm, h => by
    obtain ⟨a0, a1, a2, a3, a4, rfl, q0, q1, q2, q3, q4⟩ := inv66 h
    have hw : wtL [.int .i64 a0, .sl a1, .sl a2, .sl a3, .sl a4] = wtR a1 + wtR a2 + wtR a3 + wtR a4 := by simp only [wtL, D.wt] <;> omega
    exact eq81 a0 a1 a2 a3 a4 (eqs61 a1 q1.1 q1.2) (eqs62 a2 q2.1 q2.2) (eqs63 a3 q3.1 q3.2) (eqs64 a4 q4.1 q4.2)

theorem sh_Sta (x : List D) (h : Sh Try.prog 66 x) : ∃ t, x = Sta.enc t := Sta.of_sh lv66 sh_Bd (L_of (by kernel_rfl) sh_Bd) sh_Vk sh_Mk x h

theorem sz78 (xs : List (List D)) (hm : xs.length ≤ maxLen) (hx : ∀ x, x ∈ xs → wtL x = 0)
    (n : Int) (h0 : 0 ≤ n) (h1 : n ≤ 1048576) : Gives Try.prog 78 [.sl xs, .int .i64 n] (.d (.int .i64 (szr n (wtR xs)))) := by
  have hm' : (xs.length : Int) ≤ 9223372036854775807 := by simp only [maxLen] at hm; omega
  have hs : wtR xs = xs.length := wtR_flat xs hx
  refine ACalls.enter (fn := Try.f78) Try.func78 rfl (by show 2 ≤ _; decide) ?_
  refine run_sound Try.func78 mixed 100 _ _ (by kernel_rfl) ?_
  simp only [go_sem, ↓reduceIte, Nat.reduceEqDiff, Nat.reduceLT, Nat.reduceLeDiff, Nat.reduceAdd, Nat.reduceMul, Nat.reduceSub, Int.reduceToNat, Int.reduceLT, Int.reduceLE, Int.reduceEq, Int.reduceNeg, Int.reduceAdd, Int.reduceSub, reduceCtorEq]
  rw [wrap_ok (by omega) (by omega)]
  refine br_intro (fun h => ?_) (fun h => ?_)
  · simp only [decide_eq_true_eq] at h
    simp only [go_sem, ↓reduceIte, Nat.reduceEqDiff, Nat.reduceLT, Nat.reduceLeDiff, Nat.reduceAdd, Nat.reduceMul, Nat.reduceSub, Int.reduceToNat, Int.reduceLT, Int.reduceLE, Int.reduceEq, Int.reduceNeg, Int.reduceAdd, Int.reduceSub, reduceCtorEq]
    rw [szr_neg (by omega)]
  · simp only [decide_eq_false_iff_not] at h
    simp only [go_sem, ↓reduceIte, Nat.reduceEqDiff, Nat.reduceLT, Nat.reduceLeDiff, Nat.reduceAdd, Nat.reduceMul, Nat.reduceSub, Int.reduceToNat, Int.reduceLT, Int.reduceLE, Int.reduceEq, Int.reduceNeg, Int.reduceAdd, Int.reduceSub, reduceCtorEq]
    rw [szr_pos (by omega), hs]

theorem to80 (xs : List (List D)) (hl : xs.length ≤ 1048576) (hx : ∀ x, x ∈ xs → ∃ y : Int, x = [.int .i64 y]) : Gives Try.prog 80 [.sl xs] (.d (.sl xs)) := by
  refine ACalls.enter (fn := Try.f80) Try.func80 rfl (by show 1 ≤ _; decide) ?_
  refine run_sound Try.func80 mixed 100 _ _ (by kernel_rfl) ?_
  simp only [go_sem, ↓reduceIte, Nat.reduceEqDiff, Nat.reduceLT, Nat.reduceLeDiff, Nat.reduceAdd, Nat.reduceMul, Nat.reduceSub, Int.reduceToNat, Int.reduceLT, Int.reduceLE, Int.reduceEq, Int.reduceNeg, Int.reduceAdd, Int.reduceSub, reduceCtorEq, Int.toNat_natCast]
  repeat refine And.intro (by first | omega | (simp only [maxLen]; omega)) ?_
  refine AW.loop_ind (fun i : Nat => ⟨[(4, .d (.int .i64 i)), (0, .d (.sl xs)), (3, .rsl 0 xs.length), (2, .nil0)], [.row 1 3 (xs.take i ++ List.replicate (xs.length - i) [.int .i64 0])]⟩) (fun i => i ≤ xs.length) (fun i => xs.length - i) 0 (by omega) ?_ ?_
  · refine Weak.of (by simp) rfl ?_
    simp [Abs.get, C.refsLtT, C.refsLt, C.refsLt1]
  · intro i hi hnext
    by_cases h : i < xs.length
    · obtain ⟨x, hxi⟩ : ∃ x, xs[i]? = some x := ⟨_, List.getElem?_eq_getElem h⟩
      obtain ⟨y, e1⟩ := hx x (List.mem_of_getElem? hxi)
      subst e1
      have hlt : ((i : Int) < (xs.length : Int)) = True := by simp; omega
      refine run_sound Try.func80 mixed 100 _ _ (by kernel_rfl) ?_
      simp only [go_sem, ↓reduceIte, Nat.reduceEqDiff, Nat.reduceLT, Nat.reduceLeDiff, Nat.reduceAdd, Nat.reduceMul, Nat.reduceSub, Int.reduceToNat, Int.reduceLT, Int.reduceLE, Int.reduceEq, Int.reduceNeg, Int.reduceAdd, Int.reduceSub, reduceCtorEq, Int.toNat_natCast, hlt, hxi, idx_of hxi]
      repeat refine And.intro (by first | omega | (simp; omega) | (simp_all; done)) ?_
      rw [wrap_ok (by omega) (by omega)]
      first | rw [row_step (k := 1) hxi (by rfl)] | rw [row_step1 hxi (by rfl)]
      refine hnext (i + 1) _ (by omega) (by omega) ?_
      refine Weak.of (by simp) rfl ?_
      simp [Abs.get, C.refsLtT, C.refsLt, C.refsLt1]
    · have hlt : ((i : Int) < (xs.length : Int)) = False := by simp; omega
      refine run_sound Try.func80 mixed 6 _ _ (by kernel_rfl) ?_
      simp only [go_sem, ↓reduceIte, Nat.reduceEqDiff, Nat.reduceLT, Nat.reduceLeDiff, Nat.reduceAdd, Nat.reduceMul, Nat.reduceSub, Int.reduceToNat, Int.reduceLT, Int.reduceLE, Int.reduceEq, Int.reduceNeg, Int.reduceAdd, Int.reduceSub, reduceCtorEq, Int.toNat_natCast, hlt]
      obtain rfl : i = xs.length := by omega
      rw [row_all]
      refine AW.freeze 3 0 rfl rfl rfl ?_
      refine run_sound Try.func80 mixed 100 _ _ (by kernel_rfl) ?_
      simp only [go_sem, ↓reduceIte, Nat.reduceEqDiff, Nat.reduceLT, Nat.reduceLeDiff, Nat.reduceAdd, Nat.reduceMul, Nat.reduceSub, Int.reduceToNat, Int.reduceLT, Int.reduceLE, Int.reduceEq, Int.reduceNeg, Int.reduceAdd, Int.reduceSub, reduceCtorEq]

theorem eq82 (xs : List (List D)) (hm : xs.length ≤ maxLen) (hx : ∀ x, x ∈ xs → ∃ y : Int, x = [.int .i64 y]) : Gives Try.prog 82 [.sl xs, .sl xs] (.d (.bool true)) := by
  have hm' : (xs.length : Int) ≤ 9223372036854775807 := by simp only [maxLen] at hm; omega
  refine ACalls.enter (fn := Try.f82) Try.func82 rfl (by show 2 ≤ _; decide) ?_
  refine run_sound Try.func82 mixed 100 _ _ (by kernel_rfl) ?_
  simp only [go_sem, ↓reduceIte, Nat.reduceEqDiff, Nat.reduceLT, Nat.reduceLeDiff, Nat.reduceAdd, Nat.reduceMul, Nat.reduceSub, Int.reduceToNat, Int.reduceLT, Int.reduceLE, Int.reduceEq, Int.reduceNeg, Int.reduceAdd, Int.reduceSub, reduceCtorEq, bne_self_eq_false]
  refine AW.loop_ind (fun i : Nat => ⟨[(5, .d (.int .i64 i)), (0, .d (.sl xs)), (1, .d (.sl xs)), (4, .d (.bool false))], []⟩) (fun i => i ≤ xs.length) (fun i => xs.length - i) 0 (by omega) ?_ ?_
  · refine Weak.of (by simp) rfl ?_
    simp [Abs.get, C.refsLtT, C.refsLt, C.refsLt1]
  · intro i hi hnext
    by_cases h : i < xs.length
    · obtain ⟨x, hxi⟩ : ∃ x, xs[i]? = some x := ⟨_, List.getElem?_eq_getElem h⟩
      obtain ⟨y, e1⟩ := hx x (List.mem_of_getElem? hxi)
      subst e1
      have hlt : ((i : Int) < (xs.length : Int)) = True := by simp; omega
      have h00 : (0 ≤ (i : Int)) = True := by simp
      refine run_sound Try.func82 mixed 100 _ _ (by kernel_rfl) ?_
      simp only [go_sem, ↓reduceIte, Nat.reduceEqDiff, Nat.reduceLT, Nat.reduceLeDiff, Nat.reduceAdd, Nat.reduceMul, Nat.reduceSub, Int.reduceToNat, Int.reduceLT, Int.reduceLE, Int.reduceEq, Int.reduceNeg, Int.reduceAdd, Int.reduceSub, reduceCtorEq, Int.toNat_natCast, hlt, hxi, idx_of hxi, h00, bne_self_eq_false]
      rw [wrap_ok (by omega) (by omega)]
      refine hnext (i + 1) _ (by omega) (by omega) ?_
      refine Weak.of (by simp) rfl ?_
      simp [Abs.get, C.refsLtT, C.refsLt, C.refsLt1]
    · have hlt : ((i : Int) < (xs.length : Int)) = False := by simp; omega
      refine run_sound Try.func82 mixed 100 _ _ (by kernel_rfl) ?_
      simp only [go_sem, ↓reduceIte, Nat.reduceEqDiff, Nat.reduceLT, Nat.reduceLeDiff, Nat.reduceAdd, Nat.reduceMul, Nat.reduceSub, Int.reduceToNat, Int.reduceLT, Int.reduceLE, Int.reduceEq, Int.reduceNeg, Int.reduceAdd, Int.reduceSub, reduceCtorEq, hlt]

theorem lv3 : leaves Try.prog 6 3 = some [.int .i64] := by kernel_rfl

theorem szs67 (xs : List (List D)) (hm : xs.length ≤ maxLen) (h : ∀ x, x ∈ xs → Sh Try.prog 3 x) (n : Int) (g0 : 0 ≤ n) (g1 : n ≤ 1048576) : Gives Try.prog 78 [.sl xs, .int .i64 n] (.d (.int .i64 (szr n (wtR xs)))) :=
  sz78 xs hm (fun x hx => by obtain ⟨n, rfl⟩ := I_of lv3 _ (h x hx); rfl) n g0 g1
theorem tos67 (xs : List (List D)) (hb : wtR xs ≤ 1048576) (h : ∀ x, x ∈ xs → Sh Try.prog 3 x) : Gives Try.prog 80 [.sl xs] (.d (.sl xs)) :=
  to80 xs (by have := sumW_le xs 0; omega) (fun x hx => I_of lv3 _ (h x hx))
theorem eqs67 (xs : List (List D)) (hm : xs.length ≤ maxLen) (h : ∀ x, x ∈ xs → Sh Try.prog 3 x) : Gives Try.prog 82 [.sl xs, .sl xs] (.d (.bool true)) :=
  eq82 xs hm (fun x hx => I_of lv3 _ (h x hx))

theorem lv69 : leaves Try.prog 6 69 = some [.int .i64, .sl 150, .sl 61, .sl 160, .sl 153, .sl 3] := by kernel_rfl
theorem inv69 {x : List D} (h : Sh Try.prog 69 x) : ∃ a0 a1 a2 a3 a4 a5, x = [.int .i64 a0, .sl a1, .sl a2, .sl a3, .sl a4, .sl a5] ∧ (Lit.int .i64 a0).wf = true ∧ (a1.length ≤ maxLen ∧ ∀ x, x ∈ a1 → Sh Try.prog 150 x) ∧ (a2.length ≤ maxLen ∧ ∀ x, x ∈ a2 → Sh Try.prog 61 x) ∧ (a3.length ≤ maxLen ∧ ∀ x, x ∈ a3 → Sh Try.prog 160 x) ∧ (a4.length ≤ maxLen ∧ ∀ x, x ∈ a4 → Sh Try.prog 153 x) ∧ (a5.length ≤ maxLen ∧ ∀ x, x ∈ a5 → Sh Try.prog 3 x) := by
  obtain ⟨ls, h1, h2, h3⟩ := h
  rw [lv69] at h1
  cases h1
  match x, h2, h3 with
  | [c0, c1, c2, c3, c4, c5], _, h3 =>
    have g0 := h3 0 _ _ rfl rfl
    have g1 := h3 1 _ _ rfl rfl
    have g2 := h3 2 _ _ rfl rfl
    have g3 := h3 3 _ _ rfl rfl
    have g4 := h3 4 _ _ rfl rfl
    have g5 := h3 5 _ _ rfl rfl
    obtain ⟨b0, rfl, q0⟩ := g0.int_inv
    obtain ⟨b1, rfl, q1⟩ := g1.elems
    obtain ⟨b2, rfl, q2⟩ := g2.elems
    obtain ⟨b3, rfl, q3⟩ := g3.elems
    obtain ⟨b4, rfl, q4⟩ := g4.elems
    obtain ⟨b5, rfl, q5⟩ := g5.elems
    exact ⟨_, _, _, _, _, _, rfl, q0, q1, q2, q3, q4, q5⟩

theorem sz60 (a0 : Int) (a1 : List (List D)) (a2 : List (List D)) (a3 : List (List D)) (a4 : List (List D)) (a5 : List (List D)) (h0 : ∀ n : Int, 0 ≤ n → n ≤ 1048576 → Gives Try.prog 77 [.agg [.int .i64 a0, .sl a1, .sl a2, .sl a3, .sl a4], .int .i64 n] (.d (.int .i64 (szr n (wtL [.int .i64 a0, .sl a1, .sl a2, .sl a3, .sl a4]))))) (h1 : ∀ n : Int, 0 ≤ n → n ≤ 1048576 → Gives Try.prog 78 [.sl a5, .int .i64 n] (.d (.int .i64 (szr n (wtR a5)))))
    (n : Int) (g0 : 0 ≤ n) (g1 : n ≤ 1048576) : Gives Try.prog 60 [.agg [.int .i64 a0, .sl a1, .sl a2, .sl a3, .sl a4, .sl a5], .int .i64 n] (.d (.int .i64 (szr n (wtL [.int .i64 a0, .sl a1, .sl a2, .sl a3, .sl a4, .sl a5])))) := by
  have hw : wtL [.int .i64 a0, .sl a1, .sl a2, .sl a3, .sl a4, .sl a5] = wtL [.int .i64 a0, .sl a1, .sl a2, .sl a3, .sl a4] + wtR a5 := by simp only [wtL, D.wt] <;> omega
  rw [hw]
  refine ACalls.enter (fn := Try.f60) Try.func60 rfl (by show 2 ≤ _; decide) ?_
  refine run_sound Try.func60 mixed 100 _ _ (by kernel_rfl) ?_
  simp only [go_sem, ↓reduceIte, Nat.reduceEqDiff, Nat.reduceLT, Nat.reduceLeDiff, Nat.reduceAdd, Nat.reduceMul, Nat.reduceSub, Int.reduceToNat, Int.reduceLT, Int.reduceLE, Int.reduceEq, Int.reduceNeg, Int.reduceAdd, Int.reduceSub, reduceCtorEq]
  refine (h0 _ (by omega) (by omega)).calls rfl ?_
  simp only [go_sem, ↓reduceIte, Nat.reduceEqDiff, Nat.reduceLT, Nat.reduceLeDiff, Nat.reduceAdd, Nat.reduceMul, Nat.reduceSub, Int.reduceToNat, Int.reduceLT, Int.reduceLE, Int.reduceEq, Int.reduceNeg, Int.reduceAdd, Int.reduceSub, reduceCtorEq]
  refine br_intro (fun h => ?_) (fun h => ?_)
  · simp only [decide_eq_true_eq] at h
    have hg := szr_lt h
    simp only [go_sem, ↓reduceIte, Nat.reduceEqDiff, Nat.reduceLT, Nat.reduceLeDiff, Nat.reduceAdd, Nat.reduceMul, Nat.reduceSub, Int.reduceToNat, Int.reduceLT, Int.reduceLE, Int.reduceEq, Int.reduceNeg, Int.reduceAdd, Int.reduceSub, reduceCtorEq]
    rw [szr_neg (by omega)]
  simp only [decide_eq_false_iff_not] at h
  have hg := szr_ge h
  rw [szr_pos hg]
  clear h
  simp only [go_sem, ↓reduceIte, Nat.reduceEqDiff, Nat.reduceLT, Nat.reduceLeDiff, Nat.reduceAdd, Nat.reduceMul, Nat.reduceSub, Int.reduceToNat, Int.reduceLT, Int.reduceLE, Int.reduceEq, Int.reduceNeg, Int.reduceAdd, Int.reduceSub, reduceCtorEq]
  refine (h1 _ (by omega) (by omega)).calls rfl ?_
  simp only [go_sem, ↓reduceIte, Nat.reduceEqDiff, Nat.reduceLT, Nat.reduceLeDiff, Nat.reduceAdd, Nat.reduceMul, Nat.reduceSub, Int.reduceToNat, Int.reduceLT, Int.reduceLE, Int.reduceEq, Int.reduceNeg, Int.reduceAdd, Int.reduceSub, reduceCtorEq]
  refine br_intro (fun h => ?_) (fun h => ?_)
  · simp only [decide_eq_true_eq] at h
    have hg := szr_lt h
    simp only [go_sem, ↓reduceIte, Nat.reduceEqDiff, Nat.reduceLT, Nat.reduceLeDiff, Nat.reduceAdd, Nat.reduceMul, Nat.reduceSub, Int.reduceToNat, Int.reduceLT, Int.reduceLE, Int.reduceEq, Int.reduceNeg, Int.reduceAdd, Int.reduceSub, reduceCtorEq]
    rw [szr_neg (by omega)]
  simp only [decide_eq_false_iff_not] at h
  have hg := szr_ge h
  rw [szr_pos hg]
  clear h
  simp only [go_sem, ↓reduceIte, Nat.reduceEqDiff, Nat.reduceLT, Nat.reduceLeDiff, Nat.reduceAdd, Nat.reduceMul, Nat.reduceSub, Int.reduceToNat, Int.reduceLT, Int.reduceLE, Int.reduceEq, Int.reduceNeg, Int.reduceAdd, Int.reduceSub, reduceCtorEq]
  all_goals rw [szr_pos (by omega)]
  all_goals (congr 2 <;> omega)

theorem to62 (a0 : Int) (a1 : List (List D)) (a2 : List (List D)) (a3 : List (List D)) (a4 : List (List D)) (a5 : List (List D)) (h0 : Gives Try.prog 79 [.agg [.int .i64 a0, .sl a1, .sl a2, .sl a3, .sl a4]] (.d (.agg [.int .i64 a0, .sl a1, .sl a2, .sl a3, .sl a4]))) (h1 : Gives Try.prog 80 [.sl a5] (.d (.sl a5))) : Gives Try.prog 62 [.agg [.int .i64 a0, .sl a1, .sl a2, .sl a3, .sl a4, .sl a5]] (.d (.agg [.int .i64 a0, .sl a1, .sl a2, .sl a3, .sl a4, .sl a5])) := by
  refine ACalls.enter (fn := Try.f62) Try.func62 rfl (by show 1 ≤ _; decide) ?_
  refine run_sound Try.func62 mixed 100 _ _ (by kernel_rfl) ?_
  simp only [go_sem, ↓reduceIte, Nat.reduceEqDiff, Nat.reduceLT, Nat.reduceLeDiff, Nat.reduceAdd, Nat.reduceMul, Nat.reduceSub, Int.reduceToNat, Int.reduceLT, Int.reduceLE, Int.reduceEq, Int.reduceNeg, Int.reduceAdd, Int.reduceSub, reduceCtorEq]
  refine h0.calls rfl ?_
  simp only [go_sem, ↓reduceIte, Nat.reduceEqDiff, Nat.reduceLT, Nat.reduceLeDiff, Nat.reduceAdd, Nat.reduceMul, Nat.reduceSub, Int.reduceToNat, Int.reduceLT, Int.reduceLE, Int.reduceEq, Int.reduceNeg, Int.reduceAdd, Int.reduceSub, reduceCtorEq]
  refine h1.calls rfl ?_
  simp only [go_sem, ↓reduceIte, Nat.reduceEqDiff, Nat.reduceLT, Nat.reduceLeDiff, Nat.reduceAdd, Nat.reduceMul, Nat.reduceSub, Int.reduceToNat, Int.reduceLT, Int.reduceLE, Int.reduceEq, Int.reduceNeg, Int.reduceAdd, Int.reduceSub, reduceCtorEq]

theorem eq64 (a0 : Int) (a1 : List (List D)) (a2 : List (List D)) (a3 : List (List D)) (a4 : List (List D)) (a5 : List (List D)) (h0 : Gives Try.prog 81 [.agg [.int .i64 a0, .sl a1, .sl a2, .sl a3, .sl a4], .agg [.int .i64 a0, .sl a1, .sl a2, .sl a3, .sl a4]] (.d (.bool true))) (h1 : Gives Try.prog 82 [.sl a5, .sl a5] (.d (.bool true))) : Gives Try.prog 64 [.agg [.int .i64 a0, .sl a1, .sl a2, .sl a3, .sl a4, .sl a5], .agg [.int .i64 a0, .sl a1, .sl a2, .sl a3, .sl a4, .sl a5]] (.d (.bool true)) := by
  refine ACalls.enter (fn := Try.f64) Try.func64 rfl (by show 2 ≤ _; decide) ?_
  refine run_sound Try.func64 mixed 100 _ _ (by kernel_rfl) ?_
  simp only [go_sem, ↓reduceIte, Nat.reduceEqDiff, Nat.reduceLT, Nat.reduceLeDiff, Nat.reduceAdd, Nat.reduceMul, Nat.reduceSub, Int.reduceToNat, Int.reduceLT, Int.reduceLE, Int.reduceEq, Int.reduceNeg, Int.reduceAdd, Int.reduceSub, reduceCtorEq, bne_self_eq_false]
  refine h0.calls rfl ?_
  simp only [go_sem, ↓reduceIte, Nat.reduceEqDiff, Nat.reduceLT, Nat.reduceLeDiff, Nat.reduceAdd, Nat.reduceMul, Nat.reduceSub, Int.reduceToNat, Int.reduceLT, Int.reduceLE, Int.reduceEq, Int.reduceNeg, Int.reduceAdd, Int.reduceSub, reduceCtorEq, bne_self_eq_false]
  refine h1.calls rfl ?_
  simp only [go_sem, ↓reduceIte, Nat.reduceEqDiff, Nat.reduceLT, Nat.reduceLeDiff, Nat.reduceAdd, Nat.reduceMul, Nat.reduceSub, Int.reduceToNat, Int.reduceLT, Int.reduceLE, Int.reduceEq, Int.reduceNeg, Int.reduceAdd, Int.reduceSub, reduceCtorEq, bne_self_eq_false]

theorem mk69 (a0 : Int) (a1 : List (List D)) (a2 : List (List D)) (a3 : List (List D)) (a4 : List (List D)) (a5 : List (List D)) (q0 : (Lit.int .i64 a0).wf = true) (q1 : a1.length ≤ maxLen ∧ ∀ x, x ∈ a1 → Sh Try.prog 150 x) (q2 : a2.length ≤ maxLen ∧ ∀ x, x ∈ a2 → Sh Try.prog 61 x) (q3 : a3.length ≤ maxLen ∧ ∀ x, x ∈ a3 → Sh Try.prog 160 x) (q4 : a4.length ≤ maxLen ∧ ∀ x, x ∈ a4 → Sh Try.prog 153 x) (q5 : a5.length ≤ maxLen ∧ ∀ x, x ∈ a5 → Sh Try.prog 3 x) : Sh Try.prog 69 [.int .i64 a0, .sl a1, .sl a2, .sl a3, .sl a4, .sl a5] := by
  refine ⟨_, lv69, rfl, fun i l c hl hc => ?_⟩
  match i with
  | 0 => simp at hl hc; subst hl hc; exact .int _ _ q0
  | 1 => simp at hl hc; subst hl hc; exact ShC.sl_of lv150 q1.1 q1.2
  | 2 => simp at hl hc; subst hl hc; exact ShC.sl_of lv61 q2.1 q2.2
  | 3 => simp at hl hc; subst hl hc; exact ShC.sl_of lv160 q3.1 q3.2
  | 4 => simp at hl hc; subst hl hc; exact ShC.sl_of lv153 q4.1 q4.2
  | 5 => simp at hl hc; subst hl hc; exact ShC.sl_of lv3 q5.1 q5.2
  | i + 6 => simp at hl

theorem len69 {x : List D} (h : Sh Try.prog 69 x) : x.length = 6 := by
  obtain ⟨_, _, _, _, _, _, rfl, _⟩ := inv69 h
  rfl
theorem szc69 : ∀ (m : Nat) (x : List D), wtL x < m → Sh Try.prog 69 x → ∀ n : Int, 0 ≤ n → n ≤ 1048576 → Gives Try.prog 60 [.agg x, .int .i64 n] (.d (.int .i64 (szr n (wtL x))))
  | 0, _, hm, _ => by omega
  | m + 1, x, hm, h => by
    obtain ⟨a0, a1, a2, a3, a4, a5, rfl, q0, q1, q2, q3, q4, q5⟩ := inv69 h
    have hw : wtL [.int .i64 a0, .sl a1, .sl a2, .sl a3, .sl a4, .sl a5] = wtL [.int .i64 a0, .sl a1, .sl a2, .sl a3, .sl a4] + wtR a5 := by simp only [wtL, D.wt] <;> omega
    exact fun n g0 g1 => sz60 a0 a1 a2 a3 a4 a5 (fun n g0 g1 => szc66 _ [.int .i64 a0, .sl a1, .sl a2, .sl a3, .sl a4] (Nat.lt_succ_self _) (mk66 a0 a1 a2 a3 a4 q0 q1 q2 q3 q4) n g0 g1) (fun n g0 g1 => szs67 a5 q5.1 q5.2 n g0 g1) n g0 g1
theorem toc69 : ∀ (m : Nat) (x : List D), wtL x < m → wtL x ≤ 1048576 → Sh Try.prog 69 x → Gives Try.prog 62 [.agg x] (.d (.agg x))
  | 0, _, hm, _, _ => by omega
  | m + 1, x, hm, hb, h => by
    obtain ⟨a0, a1, a2, a3, a4, a5, rfl, q0, q1, q2, q3, q4, q5⟩ := inv69 h
    have hw : wtL [.int .i64 a0, .sl a1, .sl a2, .sl a3, .sl a4, .sl a5] = wtL [.int .i64 a0, .sl a1, .sl a2, .sl a3, .sl a4] + wtR a5 := by simp only [wtL, D.wt] <;> omega
    exact to62 a0 a1 a2 a3 a4 a5 (toc66 _ [.int .i64 a0, .sl a1, .sl a2, .sl a3, .sl a4] (Nat.lt_succ_self _) (by omega) (mk66 a0 a1 a2 a3 a4 q0 q1 q2 q3 q4)) (tos67 a5 (by omega) q5.2)
theorem eqc69 : ∀ (m : Nat) (x : List D), wtL x < m → Sh Try.prog 69 x → Gives Try.prog 64 [.agg x, .agg x] (.d (.bool true))
  | 0, _, hm, _ => by omega
  | m + 1, x, hm, h => by
    obtain ⟨a0, a1, a2, a3, a4, a5, rfl, q0, q1, q2, q3, q4, q5⟩ := inv69 h
    have hw : wtL [.int .i64 a0, .sl a1, .sl a2, .sl a3, .sl a4, .sl a5] = wtL [.int .i64 a0, .sl a1, .sl a2, .sl a3, .sl a4] + wtR a5 := by simp only [wtL, D.wt] <;> omega
    exact eq64 a0 a1 a2 a3 a4 a5 (eqc66 _ [.int .i64 a0, .sl a1, .sl a2, .sl a3, .sl a4] (Nat.lt_succ_self _) (mk66 a0 a1 a2 a3 a4 q0 q1 q2 q3 q4)) (eqs67 a5 q5.1 q5.2)

theorem sh_Bra (x : List D) (h : Sh Try.prog 69 x) : ∃ t, x = Bra.enc t := Bra.of_sh lv69 sh_Bd (L_of (by kernel_rfl) sh_Bd) sh_Vk sh_Mk (I_of (by kernel_rfl)) x h

theorem lv72 : leaves Try.prog 6 72 = some [.int .i64, .int .i64, .sl 150, .sl 61, .sl 160, .sl 153, .sl 3, .int .i64, .str, .sl 117, .sl 48, .sl 72] := by kernel_rfl
theorem inv72 {x : List D} (h : Sh Try.prog 72 x) : ∃ a0 a1 a2 a3 a4 a5 a6 a7 a8 a9 a10 a11, x = [.int .i64 a0, .int .i64 a1, .sl a2, .sl a3, .sl a4, .sl a5, .sl a6, .int .i64 a7, .str a8, .sl a9, .sl a10, .sl a11] ∧ (Lit.int .i64 a0).wf = true ∧ (Lit.int .i64 a1).wf = true ∧ (a2.length ≤ maxLen ∧ ∀ x, x ∈ a2 → Sh Try.prog 150 x) ∧ (a3.length ≤ maxLen ∧ ∀ x, x ∈ a3 → Sh Try.prog 61 x) ∧ (a4.length ≤ maxLen ∧ ∀ x, x ∈ a4 → Sh Try.prog 160 x) ∧ (a5.length ≤ maxLen ∧ ∀ x, x ∈ a5 → Sh Try.prog 153 x) ∧ (a6.length ≤ maxLen ∧ ∀ x, x ∈ a6 → Sh Try.prog 3 x) ∧ (Lit.int .i64 a7).wf = true ∧ a8.length ≤ maxLen ∧ (a9.length ≤ maxLen ∧ ∀ x, x ∈ a9 → Sh Try.prog 117 x) ∧ (a10.length ≤ maxLen ∧ ∀ x, x ∈ a10 → Sh Try.prog 48 x) ∧ (a11.length ≤ maxLen ∧ ∀ x, x ∈ a11 → Sh Try.prog 72 x) := by
  obtain ⟨ls, h1, h2, h3⟩ := h
  rw [lv72] at h1
  cases h1
  match x, h2, h3 with
  | [c0, c1, c2, c3, c4, c5, c6, c7, c8, c9, c10, c11], _, h3 =>
    have g0 := h3 0 _ _ rfl rfl
    have g1 := h3 1 _ _ rfl rfl
    have g2 := h3 2 _ _ rfl rfl
    have g3 := h3 3 _ _ rfl rfl
    have g4 := h3 4 _ _ rfl rfl
    have g5 := h3 5 _ _ rfl rfl
    have g6 := h3 6 _ _ rfl rfl
    have g7 := h3 7 _ _ rfl rfl
    have g8 := h3 8 _ _ rfl rfl
    have g9 := h3 9 _ _ rfl rfl
    have g10 := h3 10 _ _ rfl rfl
    have g11 := h3 11 _ _ rfl rfl
    obtain ⟨b0, rfl, q0⟩ := g0.int_inv
    obtain ⟨b1, rfl, q1⟩ := g1.int_inv
    obtain ⟨b2, rfl, q2⟩ := g2.elems
    obtain ⟨b3, rfl, q3⟩ := g3.elems
    obtain ⟨b4, rfl, q4⟩ := g4.elems
    obtain ⟨b5, rfl, q5⟩ := g5.elems
    obtain ⟨b6, rfl, q6⟩ := g6.elems
    obtain ⟨b7, rfl, q7⟩ := g7.int_inv
    obtain ⟨b8, rfl, q8⟩ := g8.str_inv
    obtain ⟨b9, rfl, q9⟩ := g9.elems
    obtain ⟨b10, rfl, q10⟩ := g10.elems
    obtain ⟨b11, rfl, q11⟩ := g11.elems
    exact ⟨_, _, _, _, _, _, _, _, _, _, _, _, rfl, q0, q1, q2, q3, q4, q5, q6, q7, q8, q9, q10, q11⟩

theorem sz61 (xs : List (List D)) (hm : xs.length ≤ maxLen) (hx : ∀ x, x ∈ xs → x.length = 12 ∧ ∀ n : Int, 0 ≤ n → n ≤ 1048576 → Gives Try.prog 32 [.agg x, .int .i64 n] (.d (.int .i64 (szr n (wtL x)))))
    (n : Int) (h0 : 0 ≤ n) (h1 : n ≤ 1048576) : Gives Try.prog 61 [.sl xs, .int .i64 n] (.d (.int .i64 (szr n (wtR xs)))) := by
  have hm' : (xs.length : Int) ≤ 9223372036854775807 := by simp only [maxLen] at hm; omega
  have hs := sumW_all xs
  have hs0 := sumW_le xs 0
  simp only [sumW] at hs0
  refine ACalls.enter (fn := Try.f61) Try.func61 rfl (by show 2 ≤ _; decide) ?_
  refine run_sound Try.func61 mixed 100 _ _ (by kernel_rfl) ?_
  simp only [go_sem, ↓reduceIte, Nat.reduceEqDiff, Nat.reduceLT, Nat.reduceLeDiff, Nat.reduceAdd, Nat.reduceMul, Nat.reduceSub, Int.reduceToNat, Int.reduceLT, Int.reduceLE, Int.reduceEq, Int.reduceNeg, Int.reduceAdd, Int.reduceSub, reduceCtorEq]
  rw [wrap_ok (by omega) (by omega)]
  refine br_intro (fun h => ?_) (fun h => ?_)
  · simp only [decide_eq_true_eq] at h
    simp only [go_sem, ↓reduceIte, Nat.reduceEqDiff, Nat.reduceLT, Nat.reduceLeDiff, Nat.reduceAdd, Nat.reduceMul, Nat.reduceSub, Int.reduceToNat, Int.reduceLT, Int.reduceLE, Int.reduceEq, Int.reduceNeg, Int.reduceAdd, Int.reduceSub, reduceCtorEq]
    rw [szr_neg (by omega)]
  simp only [decide_eq_false_iff_not, Int.not_lt] at h
  simp only [go_sem, ↓reduceIte, Nat.reduceEqDiff, Nat.reduceLT, Nat.reduceLeDiff, Nat.reduceAdd, Nat.reduceMul, Nat.reduceSub, Int.reduceToNat, Int.reduceLT, Int.reduceLE, Int.reduceEq, Int.reduceNeg, Int.reduceAdd, Int.reduceSub, reduceCtorEq]
  refine AW.loop_ind (fun i : Nat => ⟨[(5, .d (.int .i64 i)), (0, .d (.sl xs)), (1, .d (.int .i64 (n - xs.length - sumW xs i))), (4, .d (.int .i64 0))], []⟩) (fun i => i ≤ xs.length ∧ (sumW xs i : Int) ≤ n - xs.length) (fun i => xs.length - i) 0 ⟨by omega, by simp only [sumW]; omega⟩ ?_ ?_
  · refine Weak.of (by simp) rfl ?_
    simp [Abs.get, sumW, C.refsLtT, C.refsLt, C.refsLt1]
  · intro i hi hnext
    obtain ⟨hi1, hi2⟩ := hi
    refine run_sound Try.func61 mixed 100 _ _ (by kernel_rfl) ?_
    simp only [go_sem, ↓reduceIte, Nat.reduceEqDiff, Nat.reduceLT, Nat.reduceLeDiff, Nat.reduceAdd, Nat.reduceMul, Nat.reduceSub, Int.reduceToNat, Int.reduceLT, Int.reduceLE, Int.reduceEq, Int.reduceNeg, Int.reduceAdd, Int.reduceSub, reduceCtorEq]
    refine br_intro (fun h => ?_) (fun h => ?_)
    · simp only [decide_eq_true_eq] at h
      have hi : i < xs.length := by omega
      obtain ⟨x, hxi⟩ : ∃ x, xs[i]? = some x := ⟨_, List.getElem?_eq_getElem hi⟩
      have hsum := sumW_at hxi
      have hle := sumW_le xs (i + 1)
      obtain ⟨e1, e2⟩ := hx x (List.mem_of_getElem? hxi)
      simp only [go_sem, ↓reduceIte, Nat.reduceEqDiff, Nat.reduceLT, Nat.reduceLeDiff, Nat.reduceAdd, Nat.reduceMul, Nat.reduceSub, Int.reduceToNat, Int.reduceLT, Int.reduceLE, Int.reduceEq, Int.reduceNeg, Int.reduceAdd, Int.reduceSub, reduceCtorEq, Int.toNat_natCast, hxi, idx_of hxi, e1]
      repeat refine And.intro (by omega) ?_
      refine (e2 _ (by omega) (by omega)).calls rfl ?_
      simp only [go_sem, ↓reduceIte, Nat.reduceEqDiff, Nat.reduceLT, Nat.reduceLeDiff, Nat.reduceAdd, Nat.reduceMul, Nat.reduceSub, Int.reduceToNat, Int.reduceLT, Int.reduceLE, Int.reduceEq, Int.reduceNeg, Int.reduceAdd, Int.reduceSub, reduceCtorEq]
      refine br_intro (fun h => ?_) (fun h => ?_)
      · simp only [decide_eq_true_eq] at h
        have hg := szr_lt h
        simp only [go_sem, ↓reduceIte, Nat.reduceEqDiff, Nat.reduceLT, Nat.reduceLeDiff, Nat.reduceAdd, Nat.reduceMul, Nat.reduceSub, Int.reduceToNat, Int.reduceLT, Int.reduceLE, Int.reduceEq, Int.reduceNeg, Int.reduceAdd, Int.reduceSub, reduceCtorEq]
        rw [szr_neg (by omega)]
      · simp only [decide_eq_false_iff_not] at h
        have hg := szr_ge h
        rw [szr_pos hg]
        simp only [go_sem, ↓reduceIte, Nat.reduceEqDiff, Nat.reduceLT, Nat.reduceLeDiff, Nat.reduceAdd, Nat.reduceMul, Nat.reduceSub, Int.reduceToNat, Int.reduceLT, Int.reduceLE, Int.reduceEq, Int.reduceNeg, Int.reduceAdd, Int.reduceSub, reduceCtorEq]
        rw [wrap_ok (by omega) (by omega)]
        refine hnext (i + 1) _ ⟨by omega, by omega⟩ (by omega) ?_
        refine Weak.of (by simp) rfl ?_
        simp [Abs.get, C.refsLtT, C.refsLt, C.refsLt1]
        omega
    · simp only [decide_eq_false_iff_not] at h
      have : i = xs.length := by omega
      subst this
      simp only [go_sem, ↓reduceIte, Nat.reduceEqDiff, Nat.reduceLT, Nat.reduceLeDiff, Nat.reduceAdd, Nat.reduceMul, Nat.reduceSub, Int.reduceToNat, Int.reduceLT, Int.reduceLE, Int.reduceEq, Int.reduceNeg, Int.reduceAdd, Int.reduceSub, reduceCtorEq]
      rw [szr_pos (by omega)]
      all_goals (congr 2 <;> omega)

theorem sz32 (a0 : Int) (a1 : Int) (a2 : List (List D)) (a3 : List (List D)) (a4 : List (List D)) (a5 : List (List D)) (a6 : List (List D)) (a7 : Int) (a8 : List UInt8) (a9 : List (List D)) (a10 : List (List D)) (a11 : List (List D)) (h1 : ∀ n : Int, 0 ≤ n → n ≤ 1048576 → Gives Try.prog 60 [.agg [.int .i64 a1, .sl a2, .sl a3, .sl a4, .sl a5, .sl a6], .int .i64 n] (.d (.int .i64 (szr n (wtL [.int .i64 a1, .sl a2, .sl a3, .sl a4, .sl a5, .sl a6]))))) (h2 : ∀ n : Int, 0 ≤ n → n ≤ 1048576 → Gives Try.prog 23 [.agg [.int .i64 a7, .str a8, .sl a9, .sl a10], .int .i64 n] (.d (.int .i64 (szr n (wtL [.int .i64 a7, .str a8, .sl a9, .sl a10]))))) (h3 : ∀ n : Int, 0 ≤ n → n ≤ 1048576 → Gives Try.prog 61 [.sl a11, .int .i64 n] (.d (.int .i64 (szr n (wtR a11)))))
    (n : Int) (g0 : 0 ≤ n) (g1 : n ≤ 1048576) : Gives Try.prog 32 [.agg [.int .i64 a0, .int .i64 a1, .sl a2, .sl a3, .sl a4, .sl a5, .sl a6, .int .i64 a7, .str a8, .sl a9, .sl a10, .sl a11], .int .i64 n] (.d (.int .i64 (szr n (wtL [.int .i64 a0, .int .i64 a1, .sl a2, .sl a3, .sl a4, .sl a5, .sl a6, .int .i64 a7, .str a8, .sl a9, .sl a10, .sl a11])))) := by
  have hw : wtL [.int .i64 a0, .int .i64 a1, .sl a2, .sl a3, .sl a4, .sl a5, .sl a6, .int .i64 a7, .str a8, .sl a9, .sl a10, .sl a11] = wtL [.int .i64 a1, .sl a2, .sl a3, .sl a4, .sl a5, .sl a6] + wtL [.int .i64 a7, .str a8, .sl a9, .sl a10] + wtR a11 := by simp only [wtL, D.wt] <;> omega
  rw [hw]
  refine ACalls.enter (fn := Try.f32) Try.func32 rfl (by show 2 ≤ _; decide) ?_
  refine run_sound Try.func32 mixed 100 _ _ (by kernel_rfl) ?_
  simp only [go_sem, ↓reduceIte, Nat.reduceEqDiff, Nat.reduceLT, Nat.reduceLeDiff, Nat.reduceAdd, Nat.reduceMul, Nat.reduceSub, Int.reduceToNat, Int.reduceLT, Int.reduceLE, Int.reduceEq, Int.reduceNeg, Int.reduceAdd, Int.reduceSub, reduceCtorEq]
  refine (h1 _ (by omega) (by omega)).calls rfl ?_
  simp only [go_sem, ↓reduceIte, Nat.reduceEqDiff, Nat.reduceLT, Nat.reduceLeDiff, Nat.reduceAdd, Nat.reduceMul, Nat.reduceSub, Int.reduceToNat, Int.reduceLT, Int.reduceLE, Int.reduceEq, Int.reduceNeg, Int.reduceAdd, Int.reduceSub, reduceCtorEq]
  refine br_intro (fun h => ?_) (fun h => ?_)
  · simp only [decide_eq_true_eq] at h
    have hg := szr_lt h
    simp only [go_sem, ↓reduceIte, Nat.reduceEqDiff, Nat.reduceLT, Nat.reduceLeDiff, Nat.reduceAdd, Nat.reduceMul, Nat.reduceSub, Int.reduceToNat, Int.reduceLT, Int.reduceLE, Int.reduceEq, Int.reduceNeg, Int.reduceAdd, Int.reduceSub, reduceCtorEq]
    rw [szr_neg (by omega)]
  simp only [decide_eq_false_iff_not] at h
  have hg := szr_ge h
  rw [szr_pos hg]
  clear h
  simp only [go_sem, ↓reduceIte, Nat.reduceEqDiff, Nat.reduceLT, Nat.reduceLeDiff, Nat.reduceAdd, Nat.reduceMul, Nat.reduceSub, Int.reduceToNat, Int.reduceLT, Int.reduceLE, Int.reduceEq, Int.reduceNeg, Int.reduceAdd, Int.reduceSub, reduceCtorEq]
  refine (h2 _ (by omega) (by omega)).calls rfl ?_
  simp only [go_sem, ↓reduceIte, Nat.reduceEqDiff, Nat.reduceLT, Nat.reduceLeDiff, Nat.reduceAdd, Nat.reduceMul, Nat.reduceSub, Int.reduceToNat, Int.reduceLT, Int.reduceLE, Int.reduceEq, Int.reduceNeg, Int.reduceAdd, Int.reduceSub, reduceCtorEq]
  refine br_intro (fun h => ?_) (fun h => ?_)
  · simp only [decide_eq_true_eq] at h
    have hg := szr_lt h
    simp only [go_sem, ↓reduceIte, Nat.reduceEqDiff, Nat.reduceLT, Nat.reduceLeDiff, Nat.reduceAdd, Nat.reduceMul, Nat.reduceSub, Int.reduceToNat, Int.reduceLT, Int.reduceLE, Int.reduceEq, Int.reduceNeg, Int.reduceAdd, Int.reduceSub, reduceCtorEq]
    rw [szr_neg (by omega)]
  simp only [decide_eq_false_iff_not] at h
  have hg := szr_ge h
  rw [szr_pos hg]
  clear h
  simp only [go_sem, ↓reduceIte, Nat.reduceEqDiff, Nat.reduceLT, Nat.reduceLeDiff, Nat.reduceAdd, Nat.reduceMul, Nat.reduceSub, Int.reduceToNat, Int.reduceLT, Int.reduceLE, Int.reduceEq, Int.reduceNeg, Int.reduceAdd, Int.reduceSub, reduceCtorEq]
  refine (h3 _ (by omega) (by omega)).calls rfl ?_
  simp only [go_sem, ↓reduceIte, Nat.reduceEqDiff, Nat.reduceLT, Nat.reduceLeDiff, Nat.reduceAdd, Nat.reduceMul, Nat.reduceSub, Int.reduceToNat, Int.reduceLT, Int.reduceLE, Int.reduceEq, Int.reduceNeg, Int.reduceAdd, Int.reduceSub, reduceCtorEq]
  refine br_intro (fun h => ?_) (fun h => ?_)
  · simp only [decide_eq_true_eq] at h
    have hg := szr_lt h
    simp only [go_sem, ↓reduceIte, Nat.reduceEqDiff, Nat.reduceLT, Nat.reduceLeDiff, Nat.reduceAdd, Nat.reduceMul, Nat.reduceSub, Int.reduceToNat, Int.reduceLT, Int.reduceLE, Int.reduceEq, Int.reduceNeg, Int.reduceAdd, Int.reduceSub, reduceCtorEq]
    rw [szr_neg (by omega)]
  simp only [decide_eq_false_iff_not] at h
  have hg := szr_ge h
  rw [szr_pos hg]
  clear h
  simp only [go_sem, ↓reduceIte, Nat.reduceEqDiff, Nat.reduceLT, Nat.reduceLeDiff, Nat.reduceAdd, Nat.reduceMul, Nat.reduceSub, Int.reduceToNat, Int.reduceLT, Int.reduceLE, Int.reduceEq, Int.reduceNeg, Int.reduceAdd, Int.reduceSub, reduceCtorEq]
  all_goals rw [szr_pos (by omega)]
  all_goals (congr 2 <;> omega)

theorem to63 (xs : List (List D)) (hl : xs.length ≤ 1048576) (hx : ∀ x, x ∈ xs → x.length = 12 ∧ Gives Try.prog 34 [.agg x] (.d (.agg x))) : Gives Try.prog 63 [.sl xs] (.d (.sl xs)) := by
  refine ACalls.enter (fn := Try.f63) Try.func63 rfl (by show 1 ≤ _; decide) ?_
  refine run_sound Try.func63 mixed 100 _ _ (by kernel_rfl) ?_
  simp only [go_sem, ↓reduceIte, Nat.reduceEqDiff, Nat.reduceLT, Nat.reduceLeDiff, Nat.reduceAdd, Nat.reduceMul, Nat.reduceSub, Int.reduceToNat, Int.reduceLT, Int.reduceLE, Int.reduceEq, Int.reduceNeg, Int.reduceAdd, Int.reduceSub, reduceCtorEq, Int.toNat_natCast]
  repeat refine And.intro (by first | omega | (simp only [maxLen]; omega)) ?_
  refine AW.loop_ind (fun i : Nat => ⟨[(4, .d (.int .i64 i)), (0, .d (.sl xs)), (3, .rsl 0 xs.length), (2, .nil0)], [.row 12 85 (xs.take i ++ List.replicate (xs.length - i) [.int .i64 0, .int .i64 0, .sl [], .sl [], .sl [], .sl [], .sl [], .int .i64 0, .str [], .sl [], .sl [], .sl []])]⟩) (fun i => i ≤ xs.length) (fun i => xs.length - i) 0 (by omega) ?_ ?_
  · refine Weak.of (by simp) rfl ?_
    simp [Abs.get, C.refsLtT, C.refsLt, C.refsLt1]
  · intro i hi hnext
    by_cases h : i < xs.length
    · obtain ⟨x, hxi⟩ : ∃ x, xs[i]? = some x := ⟨_, List.getElem?_eq_getElem h⟩
      obtain ⟨e1, e2⟩ := hx x (List.mem_of_getElem? hxi)
      have hlt : ((i : Int) < (xs.length : Int)) = True := by simp; omega
      refine run_sound Try.func63 mixed 100 _ _ (by kernel_rfl) ?_
      simp only [go_sem, ↓reduceIte, Nat.reduceEqDiff, Nat.reduceLT, Nat.reduceLeDiff, Nat.reduceAdd, Nat.reduceMul, Nat.reduceSub, Int.reduceToNat, Int.reduceLT, Int.reduceLE, Int.reduceEq, Int.reduceNeg, Int.reduceAdd, Int.reduceSub, reduceCtorEq, Int.toNat_natCast, hlt, hxi, idx_of hxi, e1]
      repeat refine And.intro (by omega) ?_
      refine e2.calls rfl ?_
      simp only [go_sem, ↓reduceIte, Nat.reduceEqDiff, Nat.reduceLT, Nat.reduceLeDiff, Nat.reduceAdd, Nat.reduceMul, Nat.reduceSub, Int.reduceToNat, Int.reduceLT, Int.reduceLE, Int.reduceEq, Int.reduceNeg, Int.reduceAdd, Int.reduceSub, reduceCtorEq, Int.toNat_natCast, hlt, hxi, idx_of hxi, e1]
      repeat refine And.intro (by first | omega | (simp; omega) | (simp_all; done)) ?_
      rw [wrap_ok (by omega) (by omega)]
      first | rw [row_step (k := 12) hxi (by rfl)] | rw [row_step1 hxi (by rfl)]
      refine hnext (i + 1) _ (by omega) (by omega) ?_
      refine Weak.of (by simp) rfl ?_
      simp [Abs.get, C.refsLtT, C.refsLt, C.refsLt1]
    · have hlt : ((i : Int) < (xs.length : Int)) = False := by simp; omega
      refine run_sound Try.func63 mixed 6 _ _ (by kernel_rfl) ?_
      simp only [go_sem, ↓reduceIte, Nat.reduceEqDiff, Nat.reduceLT, Nat.reduceLeDiff, Nat.reduceAdd, Nat.reduceMul, Nat.reduceSub, Int.reduceToNat, Int.reduceLT, Int.reduceLE, Int.reduceEq, Int.reduceNeg, Int.reduceAdd, Int.reduceSub, reduceCtorEq, Int.toNat_natCast, hlt]
      obtain rfl : i = xs.length := by omega
      rw [row_all]
      refine AW.freeze 3 0 rfl rfl rfl ?_
      refine run_sound Try.func63 mixed 100 _ _ (by kernel_rfl) ?_
      simp only [go_sem, ↓reduceIte, Nat.reduceEqDiff, Nat.reduceLT, Nat.reduceLeDiff, Nat.reduceAdd, Nat.reduceMul, Nat.reduceSub, Int.reduceToNat, Int.reduceLT, Int.reduceLE, Int.reduceEq, Int.reduceNeg, Int.reduceAdd, Int.reduceSub, reduceCtorEq]

theorem to34 (a0 : Int) (a1 : Int) (a2 : List (List D)) (a3 : List (List D)) (a4 : List (List D)) (a5 : List (List D)) (a6 : List (List D)) (a7 : Int) (a8 : List UInt8) (a9 : List (List D)) (a10 : List (List D)) (a11 : List (List D)) (h1 : Gives Try.prog 62 [.agg [.int .i64 a1, .sl a2, .sl a3, .sl a4, .sl a5, .sl a6]] (.d (.agg [.int .i64 a1, .sl a2, .sl a3, .sl a4, .sl a5, .sl a6]))) (h2 : Gives Try.prog 25 [.agg [.int .i64 a7, .str a8, .sl a9, .sl a10]] (.d (.agg [.int .i64 a7, .str a8, .sl a9, .sl a10]))) (h3 : Gives Try.prog 63 [.sl a11] (.d (.sl a11))) : Gives Try.prog 34 [.agg [.int .i64 a0, .int .i64 a1, .sl a2, .sl a3, .sl a4, .sl a5, .sl a6, .int .i64 a7, .str a8, .sl a9, .sl a10, .sl a11]] (.d (.agg [.int .i64 a0, .int .i64 a1, .sl a2, .sl a3, .sl a4, .sl a5, .sl a6, .int .i64 a7, .str a8, .sl a9, .sl a10, .sl a11])) := by
  refine ACalls.enter (fn := Try.f34) Try.func34 rfl (by show 1 ≤ _; decide) ?_
  refine run_sound Try.func34 mixed 100 _ _ (by kernel_rfl) ?_
  simp only [go_sem, ↓reduceIte, Nat.reduceEqDiff, Nat.reduceLT, Nat.reduceLeDiff, Nat.reduceAdd, Nat.reduceMul, Nat.reduceSub, Int.reduceToNat, Int.reduceLT, Int.reduceLE, Int.reduceEq, Int.reduceNeg, Int.reduceAdd, Int.reduceSub, reduceCtorEq]
  refine h1.calls rfl ?_
  simp only [go_sem, ↓reduceIte, Nat.reduceEqDiff, Nat.reduceLT, Nat.reduceLeDiff, Nat.reduceAdd, Nat.reduceMul, Nat.reduceSub, Int.reduceToNat, Int.reduceLT, Int.reduceLE, Int.reduceEq, Int.reduceNeg, Int.reduceAdd, Int.reduceSub, reduceCtorEq]
  refine h2.calls rfl ?_
  simp only [go_sem, ↓reduceIte, Nat.reduceEqDiff, Nat.reduceLT, Nat.reduceLeDiff, Nat.reduceAdd, Nat.reduceMul, Nat.reduceSub, Int.reduceToNat, Int.reduceLT, Int.reduceLE, Int.reduceEq, Int.reduceNeg, Int.reduceAdd, Int.reduceSub, reduceCtorEq]
  refine h3.calls rfl ?_
  simp only [go_sem, ↓reduceIte, Nat.reduceEqDiff, Nat.reduceLT, Nat.reduceLeDiff, Nat.reduceAdd, Nat.reduceMul, Nat.reduceSub, Int.reduceToNat, Int.reduceLT, Int.reduceLE, Int.reduceEq, Int.reduceNeg, Int.reduceAdd, Int.reduceSub, reduceCtorEq]

theorem eq65 (xs : List (List D)) (hm : xs.length ≤ maxLen) (hx : ∀ x, x ∈ xs → x.length = 12 ∧ Gives Try.prog 36 [.agg x, .agg x] (.d (.bool true))) : Gives Try.prog 65 [.sl xs, .sl xs] (.d (.bool true)) := by
  have hm' : (xs.length : Int) ≤ 9223372036854775807 := by simp only [maxLen] at hm; omega
  refine ACalls.enter (fn := Try.f65) Try.func65 rfl (by show 2 ≤ _; decide) ?_
  refine run_sound Try.func65 mixed 100 _ _ (by kernel_rfl) ?_
  simp only [go_sem, ↓reduceIte, Nat.reduceEqDiff, Nat.reduceLT, Nat.reduceLeDiff, Nat.reduceAdd, Nat.reduceMul, Nat.reduceSub, Int.reduceToNat, Int.reduceLT, Int.reduceLE, Int.reduceEq, Int.reduceNeg, Int.reduceAdd, Int.reduceSub, reduceCtorEq, bne_self_eq_false]
  refine AW.loop_ind (fun i : Nat => ⟨[(5, .d (.int .i64 i)), (0, .d (.sl xs)), (1, .d (.sl xs)), (4, .d (.bool false))], []⟩) (fun i => i ≤ xs.length) (fun i => xs.length - i) 0 (by omega) ?_ ?_
  · refine Weak.of (by simp) rfl ?_
    simp [Abs.get, C.refsLtT, C.refsLt, C.refsLt1]
  · intro i hi hnext
    by_cases h : i < xs.length
    · obtain ⟨x, hxi⟩ : ∃ x, xs[i]? = some x := ⟨_, List.getElem?_eq_getElem h⟩
      obtain ⟨e1, e2⟩ := hx x (List.mem_of_getElem? hxi)
      have hlt : ((i : Int) < (xs.length : Int)) = True := by simp; omega
      have h00 : (0 ≤ (i : Int)) = True := by simp
      refine run_sound Try.func65 mixed 100 _ _ (by kernel_rfl) ?_
      simp only [go_sem, ↓reduceIte, Nat.reduceEqDiff, Nat.reduceLT, Nat.reduceLeDiff, Nat.reduceAdd, Nat.reduceMul, Nat.reduceSub, Int.reduceToNat, Int.reduceLT, Int.reduceLE, Int.reduceEq, Int.reduceNeg, Int.reduceAdd, Int.reduceSub, reduceCtorEq, Int.toNat_natCast, hlt, hxi, idx_of hxi, e1, h00, bne_self_eq_false]
      refine e2.callQ rfl ?_
      simp only [go_sem, ↓reduceIte, Nat.reduceEqDiff, Nat.reduceLT, Nat.reduceLeDiff, Nat.reduceAdd, Nat.reduceMul, Nat.reduceSub, Int.reduceToNat, Int.reduceLT, Int.reduceLE, Int.reduceEq, Int.reduceNeg, Int.reduceAdd, Int.reduceSub, reduceCtorEq]
      rw [wrap_ok (by omega) (by omega)]
      refine hnext (i + 1) _ (by omega) (by omega) ?_
      refine Weak.of (by simp) rfl ?_
      simp [Abs.get, C.refsLtT, C.refsLt, C.refsLt1]
    · have hlt : ((i : Int) < (xs.length : Int)) = False := by simp; omega
      refine run_sound Try.func65 mixed 100 _ _ (by kernel_rfl) ?_
      simp only [go_sem, ↓reduceIte, Nat.reduceEqDiff, Nat.reduceLT, Nat.reduceLeDiff, Nat.reduceAdd, Nat.reduceMul, Nat.reduceSub, Int.reduceToNat, Int.reduceLT, Int.reduceLE, Int.reduceEq, Int.reduceNeg, Int.reduceAdd, Int.reduceSub, reduceCtorEq, hlt]

theorem eq36 (a0 : Int) (a1 : Int) (a2 : List (List D)) (a3 : List (List D)) (a4 : List (List D)) (a5 : List (List D)) (a6 : List (List D)) (a7 : Int) (a8 : List UInt8) (a9 : List (List D)) (a10 : List (List D)) (a11 : List (List D)) (h1 : Gives Try.prog 64 [.agg [.int .i64 a1, .sl a2, .sl a3, .sl a4, .sl a5, .sl a6], .agg [.int .i64 a1, .sl a2, .sl a3, .sl a4, .sl a5, .sl a6]] (.d (.bool true))) (h2 : Gives Try.prog 28 [.agg [.int .i64 a7, .str a8, .sl a9, .sl a10], .agg [.int .i64 a7, .str a8, .sl a9, .sl a10]] (.d (.bool true))) (h3 : Gives Try.prog 65 [.sl a11, .sl a11] (.d (.bool true))) : Gives Try.prog 36 [.agg [.int .i64 a0, .int .i64 a1, .sl a2, .sl a3, .sl a4, .sl a5, .sl a6, .int .i64 a7, .str a8, .sl a9, .sl a10, .sl a11], .agg [.int .i64 a0, .int .i64 a1, .sl a2, .sl a3, .sl a4, .sl a5, .sl a6, .int .i64 a7, .str a8, .sl a9, .sl a10, .sl a11]] (.d (.bool true)) := by
  refine ACalls.enter (fn := Try.f36) Try.func36 rfl (by show 2 ≤ _; decide) ?_
  refine run_sound Try.func36 mixed 100 _ _ (by kernel_rfl) ?_
  simp only [go_sem, ↓reduceIte, Nat.reduceEqDiff, Nat.reduceLT, Nat.reduceLeDiff, Nat.reduceAdd, Nat.reduceMul, Nat.reduceSub, Int.reduceToNat, Int.reduceLT, Int.reduceLE, Int.reduceEq, Int.reduceNeg, Int.reduceAdd, Int.reduceSub, reduceCtorEq, bne_self_eq_false]
  refine h1.calls rfl ?_
  simp only [go_sem, ↓reduceIte, Nat.reduceEqDiff, Nat.reduceLT, Nat.reduceLeDiff, Nat.reduceAdd, Nat.reduceMul, Nat.reduceSub, Int.reduceToNat, Int.reduceLT, Int.reduceLE, Int.reduceEq, Int.reduceNeg, Int.reduceAdd, Int.reduceSub, reduceCtorEq, bne_self_eq_false]
  refine h2.calls rfl ?_
  simp only [go_sem, ↓reduceIte, Nat.reduceEqDiff, Nat.reduceLT, Nat.reduceLeDiff, Nat.reduceAdd, Nat.reduceMul, Nat.reduceSub, Int.reduceToNat, Int.reduceLT, Int.reduceLE, Int.reduceEq, Int.reduceNeg, Int.reduceAdd, Int.reduceSub, reduceCtorEq, bne_self_eq_false]
  refine h3.calls rfl ?_
  simp only [go_sem, ↓reduceIte, Nat.reduceEqDiff, Nat.reduceLT, Nat.reduceLeDiff, Nat.reduceAdd, Nat.reduceMul, Nat.reduceSub, Int.reduceToNat, Int.reduceLT, Int.reduceLE, Int.reduceEq, Int.reduceNeg, Int.reduceAdd, Int.reduceSub, reduceCtorEq, bne_self_eq_false]

theorem mk72 (a0 : Int) (a1 : Int) (a2 : List (List D)) (a3 : List (List D)) (a4 : List (List D)) (a5 : List (List D)) (a6 : List (List D)) (a7 : Int) (a8 : List UInt8) (a9 : List (List D)) (a10 : List (List D)) (a11 : List (List D)) (q0 : (Lit.int .i64 a0).wf = true) (q1 : (Lit.int .i64 a1).wf = true) (q2 : a2.length ≤ maxLen ∧ ∀ x, x ∈ a2 → Sh Try.prog 150 x) (q3 : a3.length ≤ maxLen ∧ ∀ x, x ∈ a3 → Sh Try.prog 61 x) (q4 : a4.length ≤ maxLen ∧ ∀ x, x ∈ a4 → Sh Try.prog 160 x) (q5 : a5.length ≤ maxLen ∧ ∀ x, x ∈ a5 → Sh Try.prog 153 x) (q6 : a6.length ≤ maxLen ∧ ∀ x, x ∈ a6 → Sh Try.prog 3 x) (q7 : (Lit.int .i64 a7).wf = true) (q8 : a8.length ≤ maxLen) (q9 : a9.length ≤ maxLen ∧ ∀ x, x ∈ a9 → Sh Try.prog 117 x) (q10 : a10.length ≤ maxLen ∧ ∀ x, x ∈ a10 → Sh Try.prog 48 x) (q11 : a11.length ≤ maxLen ∧ ∀ x, x ∈ a11 → Sh Try.prog 72 x) : Sh Try.prog 72 [.int .i64 a0, .int .i64 a1, .sl a2, .sl a3, .sl a4, .sl a5, .sl a6, .int .i64 a7, .str a8, .sl a9, .sl a10, .sl a11] := by
  refine ⟨_, lv72, rfl, fun i l c hl hc => ?_⟩
  match i with
  | 0 => simp at hl hc; subst hl hc; exact .int _ _ q0
  | 1 => simp at hl hc; subst hl hc; exact .int _ _ q1
  | 2 => simp at hl hc; subst hl hc; exact ShC.sl_of lv150 q2.1 q2.2
  | 3 => simp at hl hc; subst hl hc; exact ShC.sl_of lv61 q3.1 q3.2
  | 4 => simp at hl hc; subst hl hc; exact ShC.sl_of lv160 q4.1 q4.2
  | 5 => simp at hl hc; subst hl hc; exact ShC.sl_of lv153 q5.1 q5.2
  | 6 => simp at hl hc; subst hl hc; exact ShC.sl_of lv3 q6.1 q6.2
  | 7 => simp at hl hc; subst hl hc; exact .int _ _ q7
  | 8 => simp at hl hc; subst hl hc; exact .str _ q8
  | 9 => simp at hl hc; subst hl hc; exact ShC.sl_of lv117 q9.1 q9.2
  | 10 => simp at hl hc; subst hl hc; exact ShC.sl_of lv48 q10.1 q10.2
  | 11 => simp at hl hc; subst hl hc; exact ShC.sl_of lv72 q11.1 q11.2
  | i + 12 => simp at hl

theorem len72 {x : List D} (h : Sh Try.prog 72 x) : x.length = 12 := by
  obtain ⟨_, _, _, _, _, _, _, _, _, _, _, _, rfl, _⟩ := inv72 h
  rfl
theorem szc72 : ∀ (m : Nat) (x : List D), wtL x < m → Sh Try.prog 72 x → ∀ n : Int, 0 ≤ n → n ≤ 1048576 → Gives Try.prog 32 [.agg x, .int .i64 n] (.d (.int .i64 (szr n (wtL x))))
  | 0, _, hm, _ => by omega
  | m + 1, x, hm, h => by
    obtain ⟨a0, a1, a2, a3, a4, a5, a6, a7, a8, a9, a10, a11, rfl, q0, q1, q2, q3, q4, q5, q6, q7, q8, q9, q10, q11⟩ := inv72 h
    have hw : wtL [.int .i64 a0, .int .i64 a1, .sl a2, .sl a3, .sl a4, .sl a5, .sl a6, .int .i64 a7, .str a8, .sl a9, .sl a10, .sl a11] = wtL [.int .i64 a1, .sl a2, .sl a3, .sl a4, .sl a5, .sl a6] + wtL [.int .i64 a7, .str a8, .sl a9, .sl a10] + wtR a11 := by simp only [wtL, D.wt] <;> omega
    exact fun n g0 g1 => sz32 a0 a1 a2 a3 a4 a5 a6 a7 a8 a9 a10 a11 (fun n g0 g1 => szc69 _ [.int .i64 a1, .sl a2, .sl a3, .sl a4, .sl a5, .sl a6] (Nat.lt_succ_self _) (mk69 a1 a2 a3 a4 a5 a6 q1 q2 q3 q4 q5 q6) n g0 g1) (fun n g0 g1 => szc48 _ [.int .i64 a7, .str a8, .sl a9, .sl a10] (Nat.lt_succ_self _) (mk48 a7 a8 a9 a10 q7 q8 q9 q10) n g0 g1) (fun n g0 g1 => sz61 a11 q11.1 (fun x hx => ⟨len72 (q11.2 x hx), szc72 m x (by have := wtL_lt a11 x hx; omega) (q11.2 x hx)⟩) n g0 g1) n g0 g1
theorem toc72 : ∀ (m : Nat) (x : List D), wtL x < m → wtL x ≤ 1048576 → Sh Try.prog 72 x → Gives Try.prog 34 [.agg x] (.d (.agg x))
  | 0, _, hm, _, _ => by omega
  | m + 1, x, hm, hb, h => by
    obtain ⟨a0, a1, a2, a3, a4, a5, a6, a7, a8, a9, a10, a11, rfl, q0, q1, q2, q3, q4, q5, q6, q7, q8, q9, q10, q11⟩ := inv72 h
    have hw : wtL [.int .i64 a0, .int .i64 a1, .sl a2, .sl a3, .sl a4, .sl a5, .sl a6, .int .i64 a7, .str a8, .sl a9, .sl a10, .sl a11] = wtL [.int .i64 a1, .sl a2, .sl a3, .sl a4, .sl a5, .sl a6] + wtL [.int .i64 a7, .str a8, .sl a9, .sl a10] + wtR a11 := by simp only [wtL, D.wt] <;> omega
    exact to34 a0 a1 a2 a3 a4 a5 a6 a7 a8 a9 a10 a11 (toc69 _ [.int .i64 a1, .sl a2, .sl a3, .sl a4, .sl a5, .sl a6] (Nat.lt_succ_self _) (by omega) (mk69 a1 a2 a3 a4 a5 a6 q1 q2 q3 q4 q5 q6)) (toc48 _ [.int .i64 a7, .str a8, .sl a9, .sl a10] (Nat.lt_succ_self _) (by omega) (mk48 a7 a8 a9 a10 q7 q8 q9 q10)) (to63 a11 (by have := sumW_le a11 0; omega) (fun x hx => ⟨len72 (q11.2 x hx), toc72 m x (by have := wtL_lt a11 x hx; omega) (by have := wtL_lt a11 x hx; omega) (q11.2 x hx)⟩))
theorem eqc72 : ∀ (m : Nat) (x : List D), wtL x < m → Sh Try.prog 72 x → Gives Try.prog 36 [.agg x, .agg x] (.d (.bool true))
  | 0, _, hm, _ => by omega
  | m + 1, x, hm, h => by
    obtain ⟨a0, a1, a2, a3, a4, a5, a6, a7, a8, a9, a10, a11, rfl, q0, q1, q2, q3, q4, q5, q6, q7, q8, q9, q10, q11⟩ := inv72 h
    have hw : wtL [.int .i64 a0, .int .i64 a1, .sl a2, .sl a3, .sl a4, .sl a5, .sl a6, .int .i64 a7, .str a8, .sl a9, .sl a10, .sl a11] = wtL [.int .i64 a1, .sl a2, .sl a3, .sl a4, .sl a5, .sl a6] + wtL [.int .i64 a7, .str a8, .sl a9, .sl a10] + wtR a11 := by simp only [wtL, D.wt] <;> omega
    exact eq36 a0 a1 a2 a3 a4 a5 a6 a7 a8 a9 a10 a11 (eqc69 _ [.int .i64 a1, .sl a2, .sl a3, .sl a4, .sl a5, .sl a6] (Nat.lt_succ_self _) (mk69 a1 a2 a3 a4 a5 a6 q1 q2 q3 q4 q5 q6)) (eqc48 _ [.int .i64 a7, .str a8, .sl a9, .sl a10] (Nat.lt_succ_self _) (mk48 a7 a8 a9 a10 q7 q8 q9 q10)) (eq65 a11 q11.1 (fun x hx => ⟨len72 (q11.2 x hx), eqc72 m x (by have := wtL_lt a11 x hx; omega) (q11.2 x hx)⟩))

theorem sh_Stm (x : List D) (h : Sh Try.prog 72 x) : ∃ t, x = Stm.enc t := Stm.of_sh lv72 sh_Bd (L_of (by kernel_rfl) sh_Bd) sh_Vk sh_Mk (I_of (by kernel_rfl)) sh_Tm sh_Gl x h
theorem sl_70 {x : D} (h : Sh Try.prog 70 [x]) : ∃ l : List Stm, x = .sl (l.map Stm.enc) := shL (by kernel_rfl) sh_Stm h

theorem szs70 (xs : List (List D)) (hm : xs.length ≤ maxLen) (h : ∀ x, x ∈ xs → Sh Try.prog 72 x) (n : Int) (g0 : 0 ≤ n) (g1 : n ≤ 1048576) : Gives Try.prog 61 [.sl xs, .int .i64 n] (.d (.int .i64 (szr n (wtR xs)))) :=
  sz61 xs hm (fun x hx => ⟨len72 (h x hx), szc72 _ x (Nat.lt_succ_self _) (h x hx)⟩) n g0 g1
theorem tos70 (xs : List (List D)) (hb : wtR xs ≤ 1048576) (h : ∀ x, x ∈ xs → Sh Try.prog 72 x) : Gives Try.prog 63 [.sl xs] (.d (.sl xs)) :=
  to63 xs (by have := sumW_le xs 0; omega) (fun x hx => ⟨len72 (h x hx), toc72 _ x (Nat.lt_succ_self _) (by have := wtL_lt xs x hx; omega) (h x hx)⟩)
theorem eqs70 (xs : List (List D)) (hm : xs.length ≤ maxLen) (h : ∀ x, x ∈ xs → Sh Try.prog 72 x) : Gives Try.prog 65 [.sl xs, .sl xs] (.d (.bool true)) :=
  eq65 xs hm (fun x hx => ⟨len72 (h x hx), eqc72 _ x (Nat.lt_succ_self _) (h x hx)⟩)

end Go.Proofs.Ytiihkdmmanaooaa