/- The laws' size, copy and comparison functions, walked on plain data. -/
import Derived.Test.YtkmbaakiliafeaaFx
namespace Go.Proofs.Ytkmbaakiliafeaa
open Go.Abs
set_option maxRecDepth 100000
set_option maxHeartbeats 4000000
set_option linter.unusedSimpArgs false
set_option linter.unusedVariables false

theorem lv96 : leaves Try.prog 6 96 = some [.int .i64, .int .i64, .str, .sl 96] := by kernel_rfl
theorem inv96 {x : List D} (h : Sh Try.prog 96 x) : ∃ a0 a1 a2 a3, x = [.int .i64 a0, .int .i64 a1, .str a2, .sl a3] ∧ (Lit.int .i64 a0).wf = true ∧ (Lit.int .i64 a1).wf = true ∧ a2.length ≤ maxLen ∧ (a3.length ≤ maxLen ∧ ∀ x, x ∈ a3 → Sh Try.prog 96 x) := by
  obtain ⟨ls, h1, h2, h3⟩ := h
  rw [lv96] at h1
  cases h1
  match x, h2, h3 with
  | [c0, c1, c2, c3], _, h3 =>
    have g0 := h3 0 _ _ rfl rfl
    have g1 := h3 1 _ _ rfl rfl
    have g2 := h3 2 _ _ rfl rfl
    have g3 := h3 3 _ _ rfl rfl
    obtain ⟨b0, rfl, q0⟩ := g0.int_inv
    obtain ⟨b1, rfl, q1⟩ := g1.int_inv
    obtain ⟨b2, rfl, q2⟩ := g2.str_inv
    obtain ⟨b3, rfl, q3⟩ := g3.elems
    exact ⟨_, _, _, _, rfl, q0, q1, q2, q3⟩

theorem sz36 (xs : List (List D)) (hm : xs.length ≤ maxLen) (hx : ∀ x, x ∈ xs → x.length = 4 ∧ ∀ n : Int, 0 ≤ n → n ≤ 1048576 → Gives Try.prog 72 [.agg x, .int .i64 n] (.d (.int .i64 (szr n (wtL x)))))
    (n : Int) (h0 : 0 ≤ n) (h1 : n ≤ 1048576) : Gives Try.prog 36 [.sl xs, .int .i64 n] (.d (.int .i64 (szr n (wtR xs)))) := by
  have hm' : (xs.length : Int) ≤ 9223372036854775807 := by simp only [maxLen] at hm; omega
  have hs := sumW_all xs
  have hs0 := sumW_le xs 0
  simp only [sumW] at hs0
  refine ACalls.enter (fn := Try.f36) Try.func36 rfl (by show 2 ≤ _; decide) ?_
  refine run_sound Try.func36 mixed 100 _ _ (by kernel_rfl) ?_
  simp only [go_sem, ↓reduceIte, Nat.reduceEqDiff, Nat.reduceLT, Nat.reduceLeDiff, Nat.reduceAdd, Nat.reduceMul, Nat.reduceSub, Int.reduceToNat, Int.reduceLT, Int.reduceLE, Int.reduceEq, Int.reduceNeg, Int.reduceAdd, Int.reduceSub, reduceCtorEq]
  rw [wrap_ok (by omega) (by omega)]
  refine br_intro (fun h => ?_) (fun h => ?_)
  · simp only [decide_eq_true_eq] at h
    simp only [go_sem, ↓reduceIte, Nat.reduceEqDiff, Nat.reduceLT, Nat.reduceLeDiff, Nat.reduceAdd, Nat.reduceMul, Nat.reduceSub, Int.reduceToNat, Int.reduceLT, Int.reduceLE, Int.reduceEq, Int.reduceNeg, Int.reduceAdd, Int.reduceSub, reduceCtorEq]
    rw [szr_neg (by omega)]
  simp only [decide_eq_false_iff_not, Int.not_lt] at h
  simp only [go_sem, ↓reduceIte, Nat.reduceEqDiff, Nat.reduceLT, Nat.reduceLeDiff, Nat.reduceAdd, Nat.reduceMul, Nat.reduceSub, Int.reduceToNat, Int.reduceLT, Int.reduceLE, Int.reduceEq, Int.reduceNeg, Int.reduceAdd, Int.reduceSub, reduceCtorEq]
  refine AW.loop_ind (fun i : Nat => ⟨[(5, .d (.int .i64 i)), (0, .d (.sl xs)), (1, .d (.int .i64 (n - xs.length - sumW xs i))), (4, .d (.int .i64 0))], []⟩) (fun i => i ≤ xs.length ∧ (sumW xs i : Int) ≤ n - xs.length) (fun i => xs.length - i) 0 ⟨by omega, by simp only [sumW]; omega⟩ ?_ ?_
  · refine Weak.of (by simp) rfl ?_
    simp [Abs.get, sumW, C.refsLtT, C.refsLt, C.refsLt1]
  · intro i hi hnext
    obtain ⟨hi1, hi2⟩ := hi
    refine run_sound Try.func36 mixed 100 _ _ (by kernel_rfl) ?_
    simp only [go_sem, ↓reduceIte, Nat.reduceEqDiff, Nat.reduceLT, Nat.reduceLeDiff, Nat.reduceAdd, Nat.reduceMul, Nat.reduceSub, Int.reduceToNat, Int.reduceLT, Int.reduceLE, Int.reduceEq, Int.reduceNeg, Int.reduceAdd, Int.reduceSub, reduceCtorEq]
    refine br_intro (fun h => ?_) (fun h => ?_)
    · simp only [decide_eq_true_eq] at h
      have hi : i < xs.length := by omega
      obtain ⟨x, hxi⟩ : ∃ x, xs[i]? = some x := ⟨_, List.getElem?_eq_getElem hi⟩
      have hsum := sumW_at hxi
      have hle := sumW_le xs (i + 1)
      obtain ⟨e1, e2⟩ := hx x (List.mem_of_getElem? hxi)
      simp only [go_sem, ↓reduceIte, Nat.reduceEqDiff, Nat.reduceLT, Nat.reduceLeDiff, Nat.reduceAdd, Nat.reduceMul, Nat.reduceSub, Int.reduceToNat, Int.reduceLT, Int.reduceLE, Int.reduceEq, Int.reduceNeg, Int.reduceAdd, Int.reduceSub, reduceCtorEq, Int.toNat_natCast, hxi, idx_of hxi, e1]
      repeat refine And.intro (by omega) ?_
      refine (e2 _ (by omega) (by omega)).calls rfl ?_
      simp only [go_sem, ↓reduceIte, Nat.reduceEqDiff, Nat.reduceLT, Nat.reduceLeDiff, Nat.reduceAdd, Nat.reduceMul, Nat.reduceSub, Int.reduceToNat, Int.reduceLT, Int.reduceLE, Int.reduceEq, Int.reduceNeg, Int.reduceAdd, Int.reduceSub, reduceCtorEq]
      refine br_intro (fun h => ?_) (fun h => ?_)
      · simp only [decide_eq_true_eq] at h
        have hg := szr_lt h
        simp only [go_sem, ↓reduceIte, Nat.reduceEqDiff, Nat.reduceLT, Nat.reduceLeDiff, Nat.reduceAdd, Nat.reduceMul, Nat.reduceSub, Int.reduceToNat, Int.reduceLT, Int.reduceLE, Int.reduceEq, Int.reduceNeg, Int.reduceAdd, Int.reduceSub, reduceCtorEq]
        rw [szr_neg (by omega)]
      · simp only [decide_eq_false_iff_not] at h
        have hg := szr_ge h
        rw [szr_pos hg]
        simp only [go_sem, ↓reduceIte, Nat.reduceEqDiff, Nat.reduceLT, Nat.reduceLeDiff, Nat.reduceAdd, Nat.reduceMul, Nat.reduceSub, Int.reduceToNat, Int.reduceLT, Int.reduceLE, Int.reduceEq, Int.reduceNeg, Int.reduceAdd, Int.reduceSub, reduceCtorEq]
        rw [wrap_ok (by omega) (by omega)]
        refine hnext (i + 1) _ ⟨by omega, by omega⟩ (by omega) ?_
        refine Weak.of (by simp) rfl ?_
        simp [Abs.get, C.refsLtT, C.refsLt, C.refsLt1]
        omega
    · simp only [decide_eq_false_iff_not] at h
      have : i = xs.length := by omega
      subst this
      simp only [go_sem, ↓reduceIte, Nat.reduceEqDiff, Nat.reduceLT, Nat.reduceLeDiff, Nat.reduceAdd, Nat.reduceMul, Nat.reduceSub, Int.reduceToNat, Int.reduceLT, Int.reduceLE, Int.reduceEq, Int.reduceNeg, Int.reduceAdd, Int.reduceSub, reduceCtorEq]
      rw [szr_pos (by omega)]
      all_goals (congr 2 <;> omega)

theorem sz72 (a0 : Int) (a1 : Int) (a2 : List UInt8) (a3 : List (List D)) (h2 : a2.length ≤ maxLen) (h3 : ∀ n : Int, 0 ≤ n → n ≤ 1048576 → Gives Try.prog 36 [.sl a3, .int .i64 n] (.d (.int .i64 (szr n (wtR a3)))))
    (n : Int) (g0 : 0 ≤ n) (g1 : n ≤ 1048576) : Gives Try.prog 72 [.agg [.int .i64 a0, .int .i64 a1, .str a2, .sl a3], .int .i64 n] (.d (.int .i64 (szr n (wtL [.int .i64 a0, .int .i64 a1, .str a2, .sl a3])))) := by
  have hw : wtL [.int .i64 a0, .int .i64 a1, .str a2, .sl a3] = a2.length + wtR a3 := by simp only [wtL, D.wt] <;> omega
  simp only [maxLen] at h2
  rw [hw]
  refine ACalls.enter (fn := Try.f72) Try.func72 rfl (by show 2 ≤ _; decide) ?_
  refine run_sound Try.func72 mixed 100 _ _ (by kernel_rfl) ?_
  simp only [go_sem, ↓reduceIte, Nat.reduceEqDiff, Nat.reduceLT, Nat.reduceLeDiff, Nat.reduceAdd, Nat.reduceMul, Nat.reduceSub, Int.reduceToNat, Int.reduceLT, Int.reduceLE, Int.reduceEq, Int.reduceNeg, Int.reduceAdd, Int.reduceSub, reduceCtorEq]
  rw [wrap_ok (by omega) (by omega)]
  refine br_intro (fun h => ?_) (fun h => ?_)
  · simp only [decide_eq_true_eq] at h
    simp only [go_sem, ↓reduceIte, Nat.reduceEqDiff, Nat.reduceLT, Nat.reduceLeDiff, Nat.reduceAdd, Nat.reduceMul, Nat.reduceSub, Int.reduceToNat, Int.reduceLT, Int.reduceLE, Int.reduceEq, Int.reduceNeg, Int.reduceAdd, Int.reduceSub, reduceCtorEq]
    rw [szr_neg (by omega)]
  simp only [decide_eq_false_iff_not, Int.not_lt] at h
  simp only [go_sem, ↓reduceIte, Nat.reduceEqDiff, Nat.reduceLT, Nat.reduceLeDiff, Nat.reduceAdd, Nat.reduceMul, Nat.reduceSub, Int.reduceToNat, Int.reduceLT, Int.reduceLE, Int.reduceEq, Int.reduceNeg, Int.reduceAdd, Int.reduceSub, reduceCtorEq]
  refine (h3 _ (by omega) (by omega)).calls rfl ?_
  simp only [go_sem, ↓reduceIte, Nat.reduceEqDiff, Nat.reduceLT, Nat.reduceLeDiff, Nat.reduceAdd, Nat.reduceMul, Nat.reduceSub, Int.reduceToNat, Int.reduceLT, Int.reduceLE, Int.reduceEq, Int.reduceNeg, Int.reduceAdd, Int.reduceSub, reduceCtorEq]
  refine br_intro (fun h => ?_) (fun h => ?_)
  · simp only [decide_eq_true_eq] at h
    have hg := szr_lt h
    simp only [go_sem, ↓reduceIte, Nat.reduceEqDiff, Nat.reduceLT, Nat.reduceLeDiff, Nat.reduceAdd, Nat.reduceMul, Nat.reduceSub, Int.reduceToNat, Int.reduceLT, Int.reduceLE, Int.reduceEq, Int.reduceNeg, Int.reduceAdd, Int.reduceSub, reduceCtorEq]
    rw [szr_neg (by omega)]
  simp only [decide_eq_false_iff_not] at h
  have hg := szr_ge h
  rw [szr_pos hg]
  clear h
  simp only [go_sem, ↓reduceIte, Nat.reduceEqDiff, Nat.reduceLT, Nat.reduceLeDiff, Nat.reduceAdd, Nat.reduceMul, Nat.reduceSub, Int.reduceToNat, Int.reduceLT, Int.reduceLE, Int.reduceEq, Int.reduceNeg, Int.reduceAdd, Int.reduceSub, reduceCtorEq]
  all_goals rw [szr_pos (by omega)]
  all_goals (congr 2 <;> omega)

theorem to41 (xs : List (List D)) (hl : xs.length ≤ 1048576) (hx : ∀ x, x ∈ xs → x.length = 4 ∧ Gives Try.prog 78 [.agg x] (.d (.agg x))) : Gives Try.prog 41 [.sl xs] (.d (.sl xs)) := by
  refine ACalls.enter (fn := Try.f41) Try.func41 rfl (by show 1 ≤ _; decide) ?_
  refine run_sound Try.func41 mixed 100 _ _ (by kernel_rfl) ?_
  simp only [go_sem, ↓reduceIte, Nat.reduceEqDiff, Nat.reduceLT, Nat.reduceLeDiff, Nat.reduceAdd, Nat.reduceMul, Nat.reduceSub, Int.reduceToNat, Int.reduceLT, Int.reduceLE, Int.reduceEq, Int.reduceNeg, Int.reduceAdd, Int.reduceSub, reduceCtorEq, Int.toNat_natCast]
  repeat refine And.intro (by first | omega | (simp only [maxLen]; omega)) ?_
  refine AW.loop_ind (fun i : Nat => ⟨[(4, .d (.int .i64 i)), (0, .d (.sl xs)), (3, .rsl 0 xs.length), (2, .nil0)], [.row 4 70 (xs.take i ++ List.replicate (xs.length - i) [.int .i64 0, .int .i64 0, .str [], .sl []])]⟩) (fun i => i ≤ xs.length) (fun i => xs.length - i) 0 (by omega) ?_ ?_
  · refine Weak.of (by simp) rfl ?_
    simp [Abs.get, C.refsLtT, C.refsLt, C.refsLt1]
  · intro i hi hnext
    by_cases h : i < xs.length
    · obtain ⟨x, hxi⟩ : ∃ x, xs[i]? = some x := ⟨_, List.getElem?_eq_getElem h⟩
      obtain ⟨e1, e2⟩ := hx x (List.mem_of_getElem? hxi)
      have hlt : ((i : Int) < (xs.length : Int)) = True := by simp; omega
      refine run_sound Try.func41 mixed 100 _ _ (by kernel_rfl) ?_
      simp only [go_sem, ↓reduceIte, Nat.reduceEqDiff, Nat.reduceLT, Nat.reduceLeDiff, Nat.reduceAdd, Nat.reduceMul, Nat.reduceSub, Int.reduceToNat, Int.reduceLT, Int.reduceLE, Int.reduceEq, Int.reduceNeg, Int.reduceAdd, Int.reduceSub, reduceCtorEq, Int.toNat_natCast, hlt, hxi, idx_of hxi, e1]
      repeat refine And.intro (by omega) ?_
      refine e2.calls rfl ?_
      simp only [go_sem, ↓reduceIte, Nat.reduceEqDiff, Nat.reduceLT, Nat.reduceLeDiff, Nat.reduceAdd, Nat.reduceMul, Nat.reduceSub, Int.reduceToNat, Int.reduceLT, Int.reduceLE, Int.reduceEq, Int.reduceNeg, Int.reduceAdd, Int.reduceSub, reduceCtorEq, Int.toNat_natCast, hlt, hxi, idx_of hxi, e1]
      repeat refine And.intro (by first | omega | (simp; omega) | (simp_all; done)) ?_
      rw [wrap_ok (by omega) (by omega)]
      first | rw [row_step (k := 4) hxi (by rfl)] | rw [row_step1 hxi (by rfl)]
      refine hnext (i + 1) _ (by omega) (by omega) ?_
      refine Weak.of (by simp) rfl ?_
      simp [Abs.get, C.refsLtT, C.refsLt, C.refsLt1]
    · have hlt : ((i : Int) < (xs.length : Int)) = False := by simp; omega
      refine run_sound Try.func41 mixed 6 _ _ (by kernel_rfl) ?_
      simp only [go_sem, ↓reduceIte, Nat.reduceEqDiff, Nat.reduceLT, Nat.reduceLeDiff, Nat.reduceAdd, Nat.reduceMul, Nat.reduceSub, Int.reduceToNat, Int.reduceLT, Int.reduceLE, Int.reduceEq, Int.reduceNeg, Int.reduceAdd, Int.reduceSub, reduceCtorEq, Int.toNat_natCast, hlt]
      obtain rfl : i = xs.length := by omega
      rw [row_all]
      refine AW.freeze 3 0 rfl rfl rfl ?_
      refine run_sound Try.func41 mixed 100 _ _ (by kernel_rfl) ?_
      simp only [go_sem, ↓reduceIte, Nat.reduceEqDiff, Nat.reduceLT, Nat.reduceLeDiff, Nat.reduceAdd, Nat.reduceMul, Nat.reduceSub, Int.reduceToNat, Int.reduceLT, Int.reduceLE, Int.reduceEq, Int.reduceNeg, Int.reduceAdd, Int.reduceSub, reduceCtorEq]

theorem to78 (a0 : Int) (a1 : Int) (a2 : List UInt8) (a3 : List (List D)) (h3 : Gives Try.prog 41 [.sl a3] (.d (.sl a3))) : Gives Try.prog 78 [.agg [.int .i64 a0, .int .i64 a1, .str a2, .sl a3]] (.d (.agg [.int .i64 a0, .int .i64 a1, .str a2, .sl a3])) := by
  refine ACalls.enter (fn := Try.f78) Try.func78 rfl (by show 1 ≤ _; decide) ?_
  refine run_sound Try.func78 mixed 100 _ _ (by kernel_rfl) ?_
  simp only [go_sem, ↓reduceIte, Nat.reduceEqDiff, Nat.reduceLT, Nat.reduceLeDiff, Nat.reduceAdd, Nat.reduceMul, Nat.reduceSub, Int.reduceToNat, Int.reduceLT, Int.reduceLE, Int.reduceEq, Int.reduceNeg, Int.reduceAdd, Int.reduceSub, reduceCtorEq]
  refine h3.calls rfl ?_
  simp only [go_sem, ↓reduceIte, Nat.reduceEqDiff, Nat.reduceLT, Nat.reduceLeDiff, Nat.reduceAdd, Nat.reduceMul, Nat.reduceSub, Int.reduceToNat, Int.reduceLT, Int.reduceLE, Int.reduceEq, Int.reduceNeg, Int.reduceAdd, Int.reduceSub, reduceCtorEq]

theorem eq47 (xs : List (List D)) (hm : xs.length ≤ maxLen) (hx : ∀ x, x ∈ xs → x.length = 4 ∧ Gives Try.prog 85 [.agg x, .agg x] (.d (.bool true))) : Gives Try.prog 47 [.sl xs, .sl xs] (.d (.bool true)) := by
  have hm' : (xs.length : Int) ≤ 9223372036854775807 := by simp only [maxLen] at hm; omega
  refine ACalls.enter (fn := Try.f47) Try.func47 rfl (by show 2 ≤ _; decide) ?_
  refine run_sound Try.func47 mixed 100 _ _ (by kernel_rfl) ?_
  simp only [go_sem, ↓reduceIte, Nat.reduceEqDiff, Nat.reduceLT, Nat.reduceLeDiff, Nat.reduceAdd, Nat.reduceMul, Nat.reduceSub, Int.reduceToNat, Int.reduceLT, Int.reduceLE, Int.reduceEq, Int.reduceNeg, Int.reduceAdd, Int.reduceSub, reduceCtorEq, bne_self_eq_false]
  refine AW.loop_ind (fun i : Nat => ⟨[(5, .d (.int .i64 i)), (0, .d (.sl xs)), (1, .d (.sl xs)), (4, .d (.bool false))], []⟩) (fun i => i ≤ xs.length) (fun i => xs.length - i) 0 (by omega) ?_ ?_
  · refine Weak.of (by simp) rfl ?_
    simp [Abs.get, C.refsLtT, C.refsLt, C.refsLt1]
  · intro i hi hnext
    by_cases h : i < xs.length
    · obtain ⟨x, hxi⟩ : ∃ x, xs[i]? = some x := ⟨_, List.getElem?_eq_getElem h⟩
      obtain ⟨e1, e2⟩ := hx x (List.mem_of_getElem? hxi)
      have hlt : ((i : Int) < (xs.length : Int)) = True := by simp; omega
      have h00 : (0 ≤ (i : Int)) = True := by simp
      refine run_sound Try.func47 mixed 100 _ _ (by kernel_rfl) ?_
      simp only [go_sem, ↓reduceIte, Nat.reduceEqDiff, Nat.reduceLT, Nat.reduceLeDiff, Nat.reduceAdd, Nat.reduceMul, Nat.reduceSub, Int.reduceToNat, Int.reduceLT, Int.reduceLE, Int.reduceEq, Int.reduceNeg, Int.reduceAdd, Int.reduceSub, reduceCtorEq, Int.toNat_natCast, hlt, hxi, idx_of hxi, e1, h00, bne_self_eq_false]
      refine e2.callQ rfl ?_
      simp only [go_sem, ↓reduceIte, Nat.reduceEqDiff, Nat.reduceLT, Nat.reduceLeDiff, Nat.reduceAdd, Nat.reduceMul, Nat.reduceSub, Int.reduceToNat, Int.reduceLT, Int.reduceLE, Int.reduceEq, Int.reduceNeg, Int.reduceAdd, Int.reduceSub, reduceCtorEq]
      rw [wrap_ok (by omega) (by omega)]
      refine hnext (i + 1) _ (by omega) (by omega) ?_
      refine Weak.of (by simp) rfl ?_
      simp [Abs.get, C.refsLtT, C.refsLt, C.refsLt1]
    · have hlt : ((i : Int) < (xs.length : Int)) = False := by simp; omega
      refine run_sound Try.func47 mixed 100 _ _ (by kernel_rfl) ?_
      simp only [go_sem, ↓reduceIte, Nat.reduceEqDiff, Nat.reduceLT, Nat.reduceLeDiff, Nat.reduceAdd, Nat.reduceMul, Nat.reduceSub, Int.reduceToNat, Int.reduceLT, Int.reduceLE, Int.reduceEq, Int.reduceNeg, Int.reduceAdd, Int.reduceSub, reduceCtorEq, hlt]

theorem eq85 (a0 : Int) (a1 : Int) (a2 : List UInt8) (a3 : List (List D)) (h3 : Gives Try.prog 47 [.sl a3, .sl a3] (.d (.bool true))) : Gives Try.prog 85 [.agg [.int .i64 a0, .int .i64 a1, .str a2, .sl a3], .agg [.int .i64 a0, .int .i64 a1, .str a2, .sl a3]] (.d (.bool true)) := by
  refine ACalls.enter (fn := Try.f85) Try.func85 rfl (by show 2 ≤ _; decide) ?_
  refine run_sound Try.func85 mixed 100 _ _ (by kernel_rfl) ?_
  simp only [go_sem, ↓reduceIte, Nat.reduceEqDiff, Nat.reduceLT, Nat.reduceLeDiff, Nat.reduceAdd, Nat.reduceMul, Nat.reduceSub, Int.reduceToNat, Int.reduceLT, Int.reduceLE, Int.reduceEq, Int.reduceNeg, Int.reduceAdd, Int.reduceSub, reduceCtorEq, bne_self_eq_false]
  refine h3.calls rfl ?_
  simp only [go_sem, ↓reduceIte, Nat.reduceEqDiff, Nat.reduceLT, Nat.reduceLeDiff, Nat.reduceAdd, Nat.reduceMul, Nat.reduceSub, Int.reduceToNat, Int.reduceLT, Int.reduceLE, Int.reduceEq, Int.reduceNeg, Int.reduceAdd, Int.reduceSub, reduceCtorEq, bne_self_eq_false]

theorem mk96 (a0 : Int) (a1 : Int) (a2 : List UInt8) (a3 : List (List D)) (q0 : (Lit.int .i64 a0).wf = true) (q1 : (Lit.int .i64 a1).wf = true) (q2 : a2.length ≤ maxLen) (q3 : a3.length ≤ maxLen ∧ ∀ x, x ∈ a3 → Sh Try.prog 96 x) : Sh Try.prog 96 [.int .i64 a0, .int .i64 a1, .str a2, .sl a3] := by
  refine ⟨_, lv96, rfl, fun i l c hl hc => ?_⟩
  match i with
  | 0 => simp at hl hc; subst hl hc; exact .int _ _ q0
  | 1 => simp at hl hc; subst hl hc; exact .int _ _ q1
  | 2 => simp at hl hc; subst hl hc; exact .str _ q2
  | 3 => simp at hl hc; subst hl hc; exact ShC.sl_of lv96 q3.1 q3.2
  | i + 4 => simp at hl

theorem len96 {x : List D} (h : Sh Try.prog 96 x) : x.length = 4 := by
  obtain ⟨_, _, _, _, rfl, _⟩ := inv96 h
  rfl
theorem szc96 : ∀ (m : Nat) (x : List D), wtL x < m → Sh Try.prog 96 x → ∀ n : Int, 0 ≤ n → n ≤ 1048576 → Gives Try.prog 72 [.agg x, .int .i64 n] (.d (.int .i64 (szr n (wtL x))))
  | 0, _, hm, _ => by omega
  | m + 1, x, hm, h => by
    obtain ⟨a0, a1, a2, a3, rfl, q0, q1, q2, q3⟩ := inv96 h
    have hw : wtL [.int .i64 a0, .int .i64 a1, .str a2, .sl a3] = a2.length + wtR a3 := by simp only [wtL, D.wt] <;> omega
    exact fun n g0 g1 => sz72 a0 a1 a2 a3 q2 (fun n g0 g1 => sz36 a3 q3.1 (fun x hx => ⟨len96 (q3.2 x hx), szc96 m x (by have := wtL_lt a3 x hx; omega) (q3.2 x hx)⟩) n g0 g1) n g0 g1
theorem toc96 : ∀ (m : Nat) (x : List D), wtL x < m → wtL x ≤ 1048576 → Sh Try.prog 96 x → Gives Try.prog 78 [.agg x] (.d (.agg x))
  | 0, _, hm, _, _ => by omega
  | m + 1, x, hm, hb, h => by
    obtain ⟨a0, a1, a2, a3, rfl, q0, q1, q2, q3⟩ := inv96 h
    have hw : wtL [.int .i64 a0, .int .i64 a1, .str a2, .sl a3] = a2.length + wtR a3 := by simp only [wtL, D.wt] <;> omega
    exact to78 a0 a1 a2 a3 (to41 a3 (by have := sumW_le a3 0; omega) (fun x hx => ⟨len96 (q3.2 x hx), toc96 m x (by have := wtL_lt a3 x hx; omega) (by have := wtL_lt a3 x hx; omega) (q3.2 x hx)⟩))
theorem eqc96 : ∀ (m : Nat) (x : List D), wtL x < m → Sh Try.prog 96 x → Gives Try.prog 85 [.agg x, .agg x] (.d (.bool true))
  | 0, _, hm, _ => by omega
  | m + 1, x, hm, h => by
    obtain ⟨a0, a1, a2, a3, rfl, q0, q1, q2, q3⟩ := inv96 h
    have hw : wtL [.int .i64 a0, .int .i64 a1, .str a2, .sl a3] = a2.length + wtR a3 := by simp only [wtL, D.wt] <;> omega
    exact eq85 a0 a1 a2 a3 (eq47 a3 q3.1 (fun x hx => ⟨len96 (q3.2 x hx), eqc96 m x (by have := wtL_lt a3 x hx; omega) (q3.2 x hx)⟩))

theorem sh_Tm (x : List D) (h : Sh Try.prog 96 x) : ∃ t, x = Tm.enc t := Tm.of_sh lv96 x h
theorem sl_22 {x : D} (h : Sh Try.prog 22 [x]) : ∃ l : List Tm, x = .sl (l.map Tm.enc) := shL (by kernel_rfl) sh_Tm h

theorem szs22 (xs : List (List D)) (hm : xs.length ≤ maxLen) (h : ∀ x, x ∈ xs → Sh Try.prog 96 x) (n : Int) (g0 : 0 ≤ n) (g1 : n ≤ 1048576) : Gives Try.prog 36 [.sl xs, .int .i64 n] (.d (.int .i64 (szr n (wtR xs)))) :=
  sz36 xs hm (fun x hx => ⟨len96 (h x hx), szc96 _ x (Nat.lt_succ_self _) (h x hx)⟩) n g0 g1
theorem tos22 (xs : List (List D)) (hb : wtR xs ≤ 1048576) (h : ∀ x, x ∈ xs → Sh Try.prog 96 x) : Gives Try.prog 41 [.sl xs] (.d (.sl xs)) :=
  to41 xs (by have := sumW_le xs 0; omega) (fun x hx => ⟨len96 (h x hx), toc96 _ x (Nat.lt_succ_self _) (by have := wtL_lt xs x hx; omega) (h x hx)⟩)
theorem eqs22 (xs : List (List D)) (hm : xs.length ≤ maxLen) (h : ∀ x, x ∈ xs → Sh Try.prog 96 x) : Gives Try.prog 47 [.sl xs, .sl xs] (.d (.bool true)) :=
  eq47 xs hm (fun x hx => ⟨len96 (h x hx), eqc96 _ x (Nat.lt_succ_self _) (h x hx)⟩)

theorem lv25 : leaves Try.prog 6 25 = some [.int .i64, .str, .sl 96, .sl 25] := by kernel_rfl
theorem inv25 {x : List D} (h : Sh Try.prog 25 x) : ∃ a0 a1 a2 a3, x = [.int .i64 a0, .str a1, .sl a2, .sl a3] ∧ (Lit.int .i64 a0).wf = true ∧ a1.length ≤ maxLen ∧ (a2.length ≤ maxLen ∧ ∀ x, x ∈ a2 → Sh Try.prog 96 x) ∧ (a3.length ≤ maxLen ∧ ∀ x, x ∈ a3 → Sh Try.prog 25 x) := by
  obtain ⟨ls, h1, h2, h3⟩ := h
  rw [lv25] at h1
  cases h1
  match x, h2, h3 with
  | [c0, c1, c2, c3], _, h3 =>
    have g0 := h3 0 _ _ rfl rfl
    have g1 := h3 1 _ _ rfl rfl
    have g2 := h3 2 _ _ rfl rfl
    have g3 := h3 3 _ _ rfl rfl
    obtain ⟨b0, rfl, q0⟩ := g0.int_inv
    obtain ⟨b1, rfl, q1⟩ := g1.str_inv
    obtain ⟨b2, rfl, q2⟩ := g2.elems
    obtain ⟨b3, rfl, q3⟩ := g3.elems
    exact ⟨_, _, _, _, rfl, q0, q1, q2, q3⟩

theorem sz37 (xs : List (List D)) (hm : xs.length ≤ maxLen) (hx : ∀ x, x ∈ xs → x.length = 4 ∧ ∀ n : Int, 0 ≤ n → n ≤ 1048576 → Gives Try.prog 11 [.agg x, .int .i64 n] (.d (.int .i64 (szr n (wtL x)))))
    (n : Int) (h0 : 0 ≤ n) (h1 : n ≤ 1048576) : Gives Try.prog 37 [.sl xs, .int .i64 n] (.d (.int .i64 (szr n (wtR xs)))) := by
  have hm' : (xs.length : Int) ≤ 9223372036854775807 := by simp only [maxLen] at hm; omega
  have hs := sumW_all xs
  have hs0 := sumW_le xs 0
  simp only [sumW] at hs0
  refine ACalls.enter (fn := Try.f37) Try.func37 rfl (by show 2 ≤ _; decide) ?_
  refine run_sound Try.func37 mixed 100 _ _ (by kernel_rfl) ?_
  simp only [go_sem, ↓reduceIte, Nat.reduceEqDiff, Nat.reduceLT, Nat.reduceLeDiff, Nat.reduceAdd, Nat.reduceMul, Nat.reduceSub, Int.reduceToNat, Int.reduceLT, Int.reduceLE, Int.reduceEq, Int.reduceNeg, Int.reduceAdd, Int.reduceSub, reduceCtorEq]
  rw [wrap_ok (by omega) (by omega)]
  refine br_intro (fun h => ?_) (fun h => ?_)
  · simp only [decide_eq_true_eq] at h
    simp only [go_sem, ↓reduceIte, Nat.reduceEqDiff, Nat.reduceLT, Nat.reduceLeDiff, Nat.reduceAdd, Nat.reduceMul, Nat.reduceSub, Int.reduceToNat, Int.reduceLT, Int.reduceLE, Int.reduceEq, Int.reduceNeg, Int.reduceAdd, Int.reduceSub, reduceCtorEq]
    rw [szr_neg (by omega)]
  simp only [decide_eq_false_iff_not, Int.not_lt] at h
  simp only [go_sem, ↓reduceIte, Nat.reduceEqDiff, Nat.reduceLT, Nat.reduceLeDiff, Nat.reduceAdd, Nat.reduceMul, Nat.reduceSub, Int.reduceToNat, Int.reduceLT, Int.reduceLE, Int.reduceEq, Int.reduceNeg, Int.reduceAdd, Int.reduceSub, reduceCtorEq]
  refine AW.loop_ind (fun i : Nat => ⟨[(5, .d (.int .i64 i)), (0, .d (.sl xs)), (1, .d (.int .i64 (n - xs.length - sumW xs i))), (4, .d (.int .i64 0))], []⟩) (fun i => i ≤ xs.length ∧ (sumW xs i : Int) ≤ n - xs.length) (fun i => xs.length - i) 0 ⟨by omega, by simp only [sumW]; omega⟩ ?_ ?_
  · refine Weak.of (by simp) rfl ?_
    simp [Abs.get, sumW, C.refsLtT, C.refsLt, C.refsLt1]
  · intro i hi hnext
    obtain ⟨hi1, hi2⟩ := hi
    refine run_sound Try.func37 mixed 100 _ _ (by kernel_rfl) ?_
    simp only [go_sem, ↓reduceIte, Nat.reduceEqDiff, Nat.reduceLT, Nat.reduceLeDiff, Nat.reduceAdd, Nat.reduceMul, Nat.reduceSub, Int.reduceToNat, Int.reduceLT, Int.reduceLE, Int.reduceEq, Int.reduceNeg, Int.reduceAdd, Int.reduceSub, reduceCtorEq]
    refine br_intro (fun h => ?_) (fun h => ?_)
    · simp only [decide_eq_true_eq] at h
      have hi : i < xs.length := by omega
      obtain ⟨x, hxi⟩ : ∃ x, xs[i]? = some x := ⟨_, List.getElem?_eq_getElem hi⟩
      have hsum := sumW_at hxi
      have hle := sumW_le xs (i + 1)
      obtain ⟨e1, e2⟩ := hx x (List.mem_of_getElem? hxi)
      simp only [go_sem, ↓reduceIte, Nat.reduceEqDiff, Nat.reduceLT, Nat.reduceLeDiff, Nat.reduceAdd, Nat.reduceMul, Nat.reduceSub, Int.reduceToNat, Int.reduceLT, Int.reduceLE, Int.reduceEq, Int.reduceNeg, Int.reduceAdd, Int.reduceSub, reduceCtorEq, Int.toNat_natCast, hxi, idx_of hxi, e1]
      repeat refine And.intro (by omega) ?_
      refine (e2 _ (by omega) (by omega)).calls rfl ?_
      simp only [go_sem, ↓reduceIte, Nat.reduceEqDiff, Nat.reduceLT, Nat.reduceLeDiff, Nat.reduceAdd, Nat.reduceMul, Nat.reduceSub, Int.reduceToNat, Int.reduceLT, Int.reduceLE, Int.reduceEq, Int.reduceNeg, Int.reduceAdd, Int.reduceSub, reduceCtorEq]
      refine br_intro (fun h => ?_) (fun h => ?_)
      · simp only [decide_eq_true_eq] at h
        have hg := szr_lt h
        simp only [go_sem, ↓reduceIte, Nat.reduceEqDiff, Nat.reduceLT, Nat.reduceLeDiff, Nat.reduceAdd, Nat.reduceMul, Nat.reduceSub, Int.reduceToNat, Int.reduceLT, Int.reduceLE, Int.reduceEq, Int.reduceNeg, Int.reduceAdd, Int.reduceSub, reduceCtorEq]
        rw [szr_neg (by omega)]
      · simp only [decide_eq_false_iff_not] at h
        have hg := szr_ge h
        rw [szr_pos hg]
        simp only [go_sem, ↓reduceIte, Nat.reduceEqDiff, Nat.reduceLT, Nat.reduceLeDiff, Nat.reduceAdd, Nat.reduceMul, Nat.reduceSub, Int.reduceToNat, Int.reduceLT, Int.reduceLE, Int.reduceEq, Int.reduceNeg, Int.reduceAdd, Int.reduceSub, reduceCtorEq]
        rw [wrap_ok (by omega) (by omega)]
        refine hnext (i + 1) _ ⟨by omega, by omega⟩ (by omega) ?_
        refine Weak.of (by simp) rfl ?_
        simp [Abs.get, C.refsLtT, C.refsLt, C.refsLt1]
        omega
    · simp only [decide_eq_false_iff_not] at h
      have : i = xs.length := by omega
      subst this
      simp only [go_sem, ↓reduceIte, Nat.reduceEqDiff, Nat.reduceLT, Nat.reduceLeDiff, Nat.reduceAdd, Nat.reduceMul, Nat.reduceSub, Int.reduceToNat, Int.reduceLT, Int.reduceLE, Int.reduceEq, Int.reduceNeg, Int.reduceAdd, Int.reduceSub, reduceCtorEq]
      rw [szr_pos (by omega)]
      all_goals (congr 2 <;> omega)

theorem sz11 (a0 : Int) (a1 : List UInt8) (a2 : List (List D)) (a3 : List (List D)) (h1 : a1.length ≤ maxLen) (h2 : ∀ n : Int, 0 ≤ n → n ≤ 1048576 → Gives Try.prog 36 [.sl a2, .int .i64 n] (.d (.int .i64 (szr n (wtR a2))))) (h3 : ∀ n : Int, 0 ≤ n → n ≤ 1048576 → Gives Try.prog 37 [.sl a3, .int .i64 n] (.d (.int .i64 (szr n (wtR a3)))))
    (n : Int) (g0 : 0 ≤ n) (g1 : n ≤ 1048576) : Gives Try.prog 11 [.agg [.int .i64 a0, .str a1, .sl a2, .sl a3], .int .i64 n] (.d (.int .i64 (szr n (wtL [.int .i64 a0, .str a1, .sl a2, .sl a3])))) := by
  have hw : wtL [.int .i64 a0, .str a1, .sl a2, .sl a3] = a1.length + wtR a2 + wtR a3 := by simp only [wtL, D.wt] <;> omega
  simp only [maxLen] at h1
  rw [hw]
  refine ACalls.enter (fn := Try.f11) Try.func11 rfl (by show 2 ≤ _; decide) ?_
  refine run_sound Try.func11 mixed 100 _ _ (by kernel_rfl) ?_
  simp only [go_sem, ↓reduceIte, Nat.reduceEqDiff, Nat.reduceLT, Nat.reduceLeDiff, Nat.reduceAdd, Nat.reduceMul, Nat.reduceSub, Int.reduceToNat, Int.reduceLT, Int.reduceLE, Int.reduceEq, Int.reduceNeg, Int.reduceAdd, Int.reduceSub, reduceCtorEq]
  rw [wrap_ok (by omega) (by omega)]
  refine br_intro (fun h => ?_) (fun h => ?_)
  · simp only [decide_eq_true_eq] at h
    simp only [go_sem, ↓reduceIte, Nat.reduceEqDiff, Nat.reduceLT, Nat.reduceLeDiff, Nat.reduceAdd, Nat.reduceMul, Nat.reduceSub, Int.reduceToNat, Int.reduceLT, Int.reduceLE, Int.reduceEq, Int.reduceNeg, Int.reduceAdd, Int.reduceSub, reduceCtorEq]
    rw [szr_neg (by omega)]
  simp only [decide_eq_false_iff_not, Int.not_lt] at h
  simp only [go_sem, ↓reduceIte, Nat.reduceEqDiff, Nat.reduceLT, Nat.reduceLeDiff, Nat.reduceAdd, Nat.reduceMul, Nat.reduceSub, Int.reduceToNat, Int.reduceLT, Int.reduceLE, Int.reduceEq, Int.reduceNeg, Int.reduceAdd, Int.reduceSub, reduceCtorEq]
  refine (h2 _ (by omega) (by omega)).calls rfl ?_
  simp only [go_sem, ↓reduceIte, Nat.reduceEqDiff, Nat.reduceLT, Nat.reduceLeDiff, Nat.reduceAdd, Nat.reduceMul, Nat.reduceSub, Int.reduceToNat, Int.reduceLT, Int.reduceLE, Int.reduceEq, Int.reduceNeg, Int.reduceAdd, Int.reduceSub, reduceCtorEq]
  refine br_intro (fun h => ?_) (fun h => ?_)
  · simp only [decide_eq_true_eq] at h
    have hg := szr_lt h
    simp only [go_sem, ↓reduceIte, Nat.reduceEqDiff, Nat.reduceLT, Nat.reduceLeDiff, Nat.reduceAdd, Nat.reduceMul, Nat.reduceSub, Int.reduceToNat, Int.reduceLT, Int.reduceLE, Int.reduceEq, Int.reduceNeg, Int.reduceAdd, Int.reduceSub, reduceCtorEq]
    rw [szr_neg (by omega)]
  simp only [decide_eq_false_iff_not] at h
  have hg := szr_ge h
  rw [szr_pos hg]
  clear h
  simp only [go_sem, ↓reduceIte, Nat.reduceEqDiff, Nat.reduceLT, Nat.reduceLeDiff, Nat.reduceAdd, Nat.reduceMul, Nat.reduceSub, Int.reduceToNat, Int.reduceLT, Int.reduceLE, Int.reduceEq, Int.reduceNeg, Int.reduceAdd, Int.reduceSub, reduceCtorEq]
  refine (h3 _ (by omega) (by omega)).calls rfl ?_
  simp only [go_sem, ↓reduceIte, Nat.reduceEqDiff, Nat.reduceLT, Nat.reduceLeDiff, Nat.reduceAdd, Nat.reduceMul, Nat.reduceSub, Int.reduceToNat, Int.reduceLT, Int.reduceLE, Int.reduceEq, Int.reduceNeg, Int.reduceAdd, Int.reduceSub, reduceCtorEq]
  refine br_intro (fun h => ?_) (fun h => ?_)
  · simp only [decide_eq_true_eq] at h
    have hg := szr_lt h
    simp only [go_sem, ↓reduceIte, Nat.reduceEqDiff, Nat.reduceLT, Nat.reduceLeDiff, Nat.reduceAdd, Nat.reduceMul, Nat.reduceSub, Int.reduceToNat, Int.reduceLT, Int.reduceLE, Int.reduceEq, Int.reduceNeg, Int.reduceAdd, Int.reduceSub, reduceCtorEq]
    rw [szr_neg (by omega)]
  simp only [decide_eq_false_iff_not] at h
  have hg := szr_ge h
  rw [szr_pos hg]
  clear h
  simp only [go_sem, ↓reduceIte, Nat.reduceEqDiff, Nat.reduceLT, Nat.reduceLeDiff, Nat.reduceAdd, Nat.reduceMul, Nat.reduceSub, Int.reduceToNat, Int.reduceLT, Int.reduceLE, Int.reduceEq, Int.reduceNeg, Int.reduceAdd, Int.reduceSub, reduceCtorEq]
  all_goals rw [szr_pos (by omega)]
  all_goals (congr 2 <;> omega)

theorem to42 (xs : List (List D)) (hl : xs.length ≤ 1048576) (hx : ∀ x, x ∈ xs → x.length = 4 ∧ Gives Try.prog 13 [.agg x] (.d (.agg x))) : Gives Try.prog 42 [.sl xs] (.d (.sl xs)) := by
  refine ACalls.enter (fn := Try.f42) Try.func42 rfl (by show 1 ≤ _; decide) ?_
  refine run_sound Try.func42 mixed 100 _ _ (by kernel_rfl) ?_
  simp only [go_sem, ↓reduceIte, Nat.reduceEqDiff, Nat.reduceLT, Nat.reduceLeDiff, Nat.reduceAdd, Nat.reduceMul, Nat.reduceSub, Int.reduceToNat, Int.reduceLT, Int.reduceLE, Int.reduceEq, Int.reduceNeg, Int.reduceAdd, Int.reduceSub, reduceCtorEq, Int.toNat_natCast]
  repeat refine And.intro (by first | omega | (simp only [maxLen]; omega)) ?_
  refine AW.loop_ind (fun i : Nat => ⟨[(4, .d (.int .i64 i)), (0, .d (.sl xs)), (3, .rsl 0 xs.length), (2, .nil0)], [.row 4 31 (xs.take i ++ List.replicate (xs.length - i) [.int .i64 0, .str [], .sl [], .sl []])]⟩) (fun i => i ≤ xs.length) (fun i => xs.length - i) 0 (by omega) ?_ ?_
  · refine Weak.of (by simp) rfl ?_
    simp [Abs.get, C.refsLtT, C.refsLt, C.refsLt1]
  · intro i hi hnext
    by_cases h : i < xs.length
    · obtain ⟨x, hxi⟩ : ∃ x, xs[i]? = some x := ⟨_, List.getElem?_eq_getElem h⟩
      obtain ⟨e1, e2⟩ := hx x (List.mem_of_getElem? hxi)
      have hlt : ((i : Int) < (xs.length : Int)) = True := by simp; omega
      refine run_sound Try.func42 mixed 100 _ _ (by kernel_rfl) ?_
      simp only [go_sem, ↓reduceIte, Nat.reduceEqDiff, Nat.reduceLT, Nat.reduceLeDiff, Nat.reduceAdd, Nat.reduceMul, Nat.reduceSub, Int.reduceToNat, Int.reduceLT, Int.reduceLE, Int.reduceEq, Int.reduceNeg, Int.reduceAdd, Int.reduceSub, reduceCtorEq, Int.toNat_natCast, hlt, hxi, idx_of hxi, e1]
      repeat refine And.intro (by omega) ?_
      refine e2.calls rfl ?_
      simp only [go_sem, ↓reduceIte, Nat.reduceEqDiff, Nat.reduceLT, Nat.reduceLeDiff, Nat.reduceAdd, Nat.reduceMul, Nat.reduceSub, Int.reduceToNat, Int.reduceLT, Int.reduceLE, Int.reduceEq, Int.reduceNeg, Int.reduceAdd, Int.reduceSub, reduceCtorEq, Int.toNat_natCast, hlt, hxi, idx_of hxi, e1]
      repeat refine And.intro (by first | omega | (simp; omega) | (simp_all; done)) ?_
      rw [wrap_ok (by omega) (by omega)]
      first | rw [row_step (k := 4) hxi (by rfl)] | rw [row_step1 hxi (by rfl)]
      refine hnext (i + 1) _ (by omega) (by omega) ?_
      refine Weak.of (by simp) rfl ?_
      simp [Abs.get, C.refsLtT, C.refsLt, C.refsLt1]
    · have hlt : ((i : Int) < (xs.length : Int)) = False := by simp; omega
      refine run_sound Try.func42 mixed 6 _ _ (by kernel_rfl) ?_
      simp only [go_sem, ↓reduceIte, Nat.reduceEqDiff, Nat.reduceLT, Nat.reduceLeDiff, Nat.reduceAdd, Nat.reduceMul, Nat.reduceSub, Int.reduceToNat, Int.reduceLT, Int.reduceLE, Int.reduceEq, Int.reduceNeg, Int.reduceAdd, Int.reduceSub, reduceCtorEq, Int.toNat_natCast, hlt]
      obtain rfl : i = xs.length := by omega
      rw [row_all]
      refine AW.freeze 3 0 rfl rfl rfl ?_
      refine run_sound Try.func42 mixed 100 _ _ (by kernel_rfl) ?_
      simp only [go_sem, ↓reduceIte, Nat.reduceEqDiff, Nat.reduceLT, Nat.reduceLeDiff, Nat.reduceAdd, Nat.reduceMul, Nat.reduceSub, Int.reduceToNat, Int.reduceLT, Int.reduceLE, Int.reduceEq, Int.reduceNeg, Int.reduceAdd, Int.reduceSub, reduceCtorEq]

theorem to13 (a0 : Int) (a1 : List UInt8) (a2 : List (List D)) (a3 : List (List D)) (h2 : Gives Try.prog 41 [.sl a2] (.d (.sl a2))) (h3 : Gives Try.prog 42 [.sl a3] (.d (.sl a3))) : Gives Try.prog 13 [.agg [.int .i64 a0, .str a1, .sl a2, .sl a3]] (.d (.agg [.int .i64 a0, .str a1, .sl a2, .sl a3])) := by
  refine ACalls.enter (fn := Try.f13) Try.func13 rfl (by show 1 ≤ _; decide) ?_
  refine run_sound Try.func13 mixed 100 _ _ (by kernel_rfl) ?_
  simp only [go_sem, ↓reduceIte, Nat.reduceEqDiff, Nat.reduceLT, Nat.reduceLeDiff, Nat.reduceAdd, Nat.reduceMul, Nat.reduceSub, Int.reduceToNat, Int.reduceLT, Int.reduceLE, Int.reduceEq, Int.reduceNeg, Int.reduceAdd, Int.reduceSub, reduceCtorEq]
  refine h2.calls rfl ?_
  simp only [go_sem, ↓reduceIte, Nat.reduceEqDiff, Nat.reduceLT, Nat.reduceLeDiff, Nat.reduceAdd, Nat.reduceMul, Nat.reduceSub, Int.reduceToNat, Int.reduceLT, Int.reduceLE, Int.reduceEq, Int.reduceNeg, Int.reduceAdd, Int.reduceSub, reduceCtorEq]
  refine h3.calls rfl ?_
  simp only [go_sem, ↓reduceIte, Nat.reduceEqDiff, Nat.reduceLT, Nat.reduceLeDiff, Nat.reduceAdd, Nat.reduceMul, Nat.reduceSub, Int.reduceToNat, Int.reduceLT, Int.reduceLE, Int.reduceEq, Int.reduceNeg, Int.reduceAdd, Int.reduceSub, reduceCtorEq]

theorem eq48 (xs : List (List D)) (hm : xs.length ≤ maxLen) (hx : ∀ x, x ∈ xs → x.length = 4 ∧ Gives Try.prog 15 [.agg x, .agg x] (.d (.bool true))) : Gives Try.prog 48 [.sl xs, .sl xs] (.d (.bool true)) := by
  have hm' : (xs.length : Int) ≤ 9223372036854775807 := by simp only [maxLen] at hm; omega
  refine ACalls.enter (fn := Try.f48) Try.func48 rfl (by show 2 ≤ _; decide) ?_
  refine run_sound Try.func48 mixed 100 _ _ (by kernel_rfl) ?_
  simp only [go_sem, ↓reduceIte, Nat.reduceEqDiff, Nat.reduceLT, Nat.reduceLeDiff, Nat.reduceAdd, Nat.reduceMul, Nat.reduceSub, Int.reduceToNat, Int.reduceLT, Int.reduceLE, Int.reduceEq, Int.reduceNeg, Int.reduceAdd, Int.reduceSub, reduceCtorEq, bne_self_eq_false]
  refine AW.loop_ind (fun i : Nat => ⟨[(5, .d (.int .i64 i)), (0, .d (.sl xs)), (1, .d (.sl xs)), (4, .d (.bool false))], []⟩) (fun i => i ≤ xs.length) (fun i => xs.length - i) 0 (by omega) ?_ ?_
  · refine Weak.of (by simp) rfl ?_
    simp [Abs.get, C.refsLtT, C.refsLt, C.refsLt1]
  · intro i hi hnext
    by_cases h : i < xs.length
    · obtain ⟨x, hxi⟩ : ∃ x, xs[i]? = some x := ⟨_, List.getElem?_eq_getElem h⟩
      obtain ⟨e1, e2⟩ := hx x (List.mem_of_getElem? hxi)
      have hlt : ((i : Int) < (xs.length : Int)) = True := by simp; omega
      have h00 : (0 ≤ (i : Int)) = True := by simp
      refine run_sound Try.func48 mixed 100 _ _ (by kernel_rfl) ?_
      simp only [go_sem, ↓reduceIte, Nat.reduceEqDiff, Nat.reduceLT, Nat.reduceLeDiff, Nat.reduceAdd, Nat.reduceMul, Nat.reduceSub, Int.reduceToNat, Int.reduceLT, Int.reduceLE, Int.reduceEq, Int.reduceNeg, Int.reduceAdd, Int.reduceSub, reduceCtorEq, Int.toNat_natCast, hlt, hxi, idx_of hxi, e1, h00, bne_self_eq_false]
      refine e2.callQ rfl ?_
      simp only [go_sem, ↓reduceIte, Nat.reduceEqDiff, Nat.reduceLT, Nat.reduceLeDiff, Nat.reduceAdd, Nat.reduceMul, Nat.reduceSub, Int.reduceToNat, Int.reduceLT, Int.reduceLE, Int.reduceEq, Int.reduceNeg, Int.reduceAdd, Int.reduceSub, reduceCtorEq]
      rw [wrap_ok (by omega) (by omega)]
      refine hnext (i + 1) _ (by omega) (by omega) ?_
      refine Weak.of (by simp) rfl ?_
      simp [Abs.get, C.refsLtT, C.refsLt, C.refsLt1]
    · have hlt : ((i : Int) < (xs.length : Int)) = False := by simp; omega
      refine run_sound Try.func48 mixed 100 _ _ (by kernel_rfl) ?_
      simp only [go_sem, ↓reduceIte, Nat.reduceEqDiff, Nat.reduceLT, Nat.reduceLeDiff, Nat.reduceAdd, Nat.reduceMul, Nat.reduceSub, Int.reduceToNat, Int.reduceLT, Int.reduceLE, Int.reduceEq, Int.reduceNeg, Int.reduceAdd, Int.reduceSub, reduceCtorEq, hlt]

theorem eq15 (a0 : Int) (a1 : List UInt8) (a2 : List (List D)) (a3 : List (List D)) (h2 : Gives Try.prog 47 [.sl a2, .sl a2] (.d (.bool true))) (h3 : Gives Try.prog 48 [.sl a3, .sl a3] (.d (.bool true))) : Gives Try.prog 15 [.agg [.int .i64 a0, .str a1, .sl a2, .sl a3], .agg [.int .i64 a0, .str a1, .sl a2, .sl a3]] (.d (.bool true)) := by
  refine ACalls.enter (fn := Try.f15) Try.func15 rfl (by show 2 ≤ _; decide) ?_
  refine run_sound Try.func15 mixed 100 _ _ (by kernel_rfl) ?_
  simp only [go_sem, ↓reduceIte, Nat.reduceEqDiff, Nat.reduceLT, Nat.reduceLeDiff, Nat.reduceAdd, Nat.reduceMul, Nat.reduceSub, Int.reduceToNat, Int.reduceLT, Int.reduceLE, Int.reduceEq, Int.reduceNeg, Int.reduceAdd, Int.reduceSub, reduceCtorEq, bne_self_eq_false]
  refine h2.calls rfl ?_
  simp only [go_sem, ↓reduceIte, Nat.reduceEqDiff, Nat.reduceLT, Nat.reduceLeDiff, Nat.reduceAdd, Nat.reduceMul, Nat.reduceSub, Int.reduceToNat, Int.reduceLT, Int.reduceLE, Int.reduceEq, Int.reduceNeg, Int.reduceAdd, Int.reduceSub, reduceCtorEq, bne_self_eq_false]
  refine h3.calls rfl ?_
  simp only [go_sem, ↓reduceIte, Nat.reduceEqDiff, Nat.reduceLT, Nat.reduceLeDiff, Nat.reduceAdd, Nat.reduceMul, Nat.reduceSub, Int.reduceToNat, Int.reduceLT, Int.reduceLE, Int.reduceEq, Int.reduceNeg, Int.reduceAdd, Int.reduceSub, reduceCtorEq, bne_self_eq_false]

theorem mk25 (a0 : Int) (a1 : List UInt8) (a2 : List (List D)) (a3 : List (List D)) (q0 : (Lit.int .i64 a0).wf = true) (q1 : a1.length ≤ maxLen) (q2 : a2.length ≤ maxLen ∧ ∀ x, x ∈ a2 → Sh Try.prog 96 x) (q3 : a3.length ≤ maxLen ∧ ∀ x, x ∈ a3 → Sh Try.prog 25 x) : Sh Try.prog 25 [.int .i64 a0, .str a1, .sl a2, .sl a3] := by
  refine ⟨_, lv25, rfl, fun i l c hl hc => ?_⟩
  match i with
  | 0 => simp at hl hc; subst hl hc; exact .int _ _ q0
  | 1 => simp at hl hc; subst hl hc; exact .str _ q1
  | 2 => simp at hl hc; subst hl hc; exact ShC.sl_of lv96 q2.1 q2.2
  | 3 => simp at hl hc; subst hl hc; exact ShC.sl_of lv25 q3.1 q3.2
  | i + 4 => simp at hl

theorem len25 {x : List D} (h : Sh Try.prog 25 x) : x.length = 4 := by
  obtain ⟨_, _, _, _, rfl, _⟩ := inv25 h
  rfl
theorem szc25 : ∀ (m : Nat) (x : List D), wtL x < m → Sh Try.prog 25 x → ∀ n : Int, 0 ≤ n → n ≤ 1048576 → Gives Try.prog 11 [.agg x, .int .i64 n] (.d (.int .i64 (szr n (wtL x))))
  | 0, _, hm, _ => by omega
  | m + 1, x, hm, h => by
    obtain ⟨a0, a1, a2, a3, rfl, q0, q1, q2, q3⟩ := inv25 h
    have hw : wtL [.int .i64 a0, .str a1, .sl a2, .sl a3] = a1.length + wtR a2 + wtR a3 := by simp only [wtL, D.wt] <;> omega
    exact fun n g0 g1 => sz11 a0 a1 a2 a3 q1 (fun n g0 g1 => szs22 a2 q2.1 q2.2 n g0 g1) (fun n g0 g1 => sz37 a3 q3.1 (fun x hx => ⟨len25 (q3.2 x hx), szc25 m x (by have := wtL_lt a3 x hx; omega) (q3.2 x hx)⟩) n g0 g1) n g0 g1
theorem toc25 : ∀ (m : Nat) (x : List D), wtL x < m → wtL x ≤ 1048576 → Sh Try.prog 25 x → Gives Try.prog 13 [.agg x] (.d (.agg x))
  | 0, _, hm, _, _ => by omega
  | m + 1, x, hm, hb, h => by
    obtain ⟨a0, a1, a2, a3, rfl, q0, q1, q2, q3⟩ := inv25 h
    have hw : wtL [.int .i64 a0, .str a1, .sl a2, .sl a3] = a1.length + wtR a2 + wtR a3 := by simp only [wtL, D.wt] <;> omega
    exact to13 a0 a1 a2 a3 (tos22 a2 (by omega) q2.2) (to42 a3 (by have := sumW_le a3 0; omega) (fun x hx => ⟨len25 (q3.2 x hx), toc25 m x (by have := wtL_lt a3 x hx; omega) (by have := wtL_lt a3 x hx; omega) (q3.2 x hx)⟩))
theorem eqc25 : ∀ (m : Nat) (x : List D), wtL x < m → Sh Try.prog 25 x → Gives Try.prog 15 [.agg x, .agg x] (.d (.bool true))
  | 0, _, hm, _ => by omega
  | m + 1, x, hm, h => by
    obtain ⟨a0, a1, a2, a3, rfl, q0, q1, q2, q3⟩ := inv25 h
    have hw : wtL [.int .i64 a0, .str a1, .sl a2, .sl a3] = a1.length + wtR a2 + wtR a3 := by simp only [wtL, D.wt] <;> omega
    exact eq15 a0 a1 a2 a3 (eqs22 a2 q2.1 q2.2) (eq48 a3 q3.1 (fun x hx => ⟨len25 (q3.2 x hx), eqc25 m x (by have := wtL_lt a3 x hx; omega) (q3.2 x hx)⟩))

theorem sh_Gl (x : List D) (h : Sh Try.prog 25 x) : ∃ t, x = Gl.enc t := Gl.of_sh lv25 sh_Tm x h
theorem sl_23 {x : D} (h : Sh Try.prog 23 [x]) : ∃ l : List Gl, x = .sl (l.map Gl.enc) := shL (by kernel_rfl) sh_Gl h

theorem szs23 (xs : List (List D)) (hm : xs.length ≤ maxLen) (h : ∀ x, x ∈ xs → Sh Try.prog 25 x) (n : Int) (g0 : 0 ≤ n) (g1 : n ≤ 1048576) : Gives Try.prog 37 [.sl xs, .int .i64 n] (.d (.int .i64 (szr n (wtR xs)))) :=
  sz37 xs hm (fun x hx => ⟨len25 (h x hx), szc25 _ x (Nat.lt_succ_self _) (h x hx)⟩) n g0 g1
theorem tos23 (xs : List (List D)) (hb : wtR xs ≤ 1048576) (h : ∀ x, x ∈ xs → Sh Try.prog 25 x) : Gives Try.prog 42 [.sl xs] (.d (.sl xs)) :=
  to42 xs (by have := sumW_le xs 0; omega) (fun x hx => ⟨len25 (h x hx), toc25 _ x (Nat.lt_succ_self _) (by have := wtL_lt xs x hx; omega) (h x hx)⟩)
theorem eqs23 (xs : List (List D)) (hm : xs.length ≤ maxLen) (h : ∀ x, x ∈ xs → Sh Try.prog 25 x) : Gives Try.prog 48 [.sl xs, .sl xs] (.d (.bool true)) :=
  eq48 xs hm (fun x hx => ⟨len25 (h x hx), eqc25 _ x (Nat.lt_succ_self _) (h x hx)⟩)

theorem lv107 : leaves Try.prog 6 107 = some [.str, .int .i64, .int .i64, .int .i64, .str, .sl 96, .sl 25] := by kernel_rfl
theorem inv107 {x : List D} (h : Sh Try.prog 107 x) : ∃ a0 a1 a2 a3 a4 a5 a6, x = [.str a0, .int .i64 a1, .int .i64 a2, .int .i64 a3, .str a4, .sl a5, .sl a6] ∧ a0.length ≤ maxLen ∧ (Lit.int .i64 a1).wf = true ∧ (Lit.int .i64 a2).wf = true ∧ (Lit.int .i64 a3).wf = true ∧ a4.length ≤ maxLen ∧ (a5.length ≤ maxLen ∧ ∀ x, x ∈ a5 → Sh Try.prog 96 x) ∧ (a6.length ≤ maxLen ∧ ∀ x, x ∈ a6 → Sh Try.prog 25 x) := by
  obtain ⟨ls, h1, h2, h3⟩ := h
  rw [lv107] at h1
  cases h1
  match x, h2, h3 with
  | [c0, c1, c2, c3, c4, c5, c6], _, h3 =>
    have g0 := h3 0 _ _ rfl rfl
    have g1 := h3 1 _ _ rfl rfl
    have g2 := h3 2 _ _ rfl rfl
    have g3 := h3 3 _ _ rfl rfl
    have g4 := h3 4 _ _ rfl rfl
    have g5 := h3 5 _ _ rfl rfl
    have g6 := h3 6 _ _ rfl rfl
    obtain ⟨b0, rfl, q0⟩ := g0.str_inv
    obtain ⟨b1, rfl, q1⟩ := g1.int_inv
    obtain ⟨b2, rfl, q2⟩ := g2.int_inv
    obtain ⟨b3, rfl, q3⟩ := g3.int_inv
    obtain ⟨b4, rfl, q4⟩ := g4.str_inv
    obtain ⟨b5, rfl, q5⟩ := g5.elems
    obtain ⟨b6, rfl, q6⟩ := g6.elems
    exact ⟨_, _, _, _, _, _, _, rfl, q0, q1, q2, q3, q4, q5, q6⟩

theorem sz49 (xs : List (List D)) (hm : xs.length ≤ maxLen) (hx : ∀ x, x ∈ xs → x.length = 7 ∧ ∀ n : Int, 0 ≤ n → n ≤ 1048576 → Gives Try.prog 86 [.agg x, .int .i64 n] (.d (.int .i64 (szr n (wtL x)))))
    (n : Int) (h0 : 0 ≤ n) (h1 : n ≤ 1048576) : Gives Try.prog 49 [.sl xs, .int .i64 n] (.d (.int .i64 (szr n (wtR xs)))) := by
  have hm' : (xs.length : Int) ≤ 9223372036854775807 := by simp only [maxLen] at hm; omega
  have hs := sumW_all xs
  have hs0 := sumW_le xs 0
  simp only [sumW] at hs0
  refine ACalls.enter (fn := Try.f49) Try.func49 rfl (by show 2 ≤ _; decide) ?_
  refine run_sound Try.func49 mixed 100 _ _ (by kernel_rfl) ?_
  simp only [go_sem, ↓reduceIte, Nat.reduceEqDiff, Nat.reduceLT, Nat.reduceLeDiff, Nat.reduceAdd, Nat.reduceMul, Nat.reduceSub, Int.reduceToNat, Int.reduceLT, Int.reduceLE, Int.reduceEq, Int.reduceNeg, Int.reduceAdd, Int.reduceSub, reduceCtorEq]
  rw [wrap_ok (by omega) (by omega)]
  refine br_intro (fun h => ?_) (fun h => ?_)
  · simp only [decide_eq_true_eq] at h
    simp only [go_sem, ↓reduceIte, Nat.reduceEqDiff, Nat.reduceLT, Nat.reduceLeDiff, Nat.reduceAdd, Nat.reduceMul, Nat.reduceSub, Int.reduceToNat, Int.reduceLT, Int.reduceLE, Int.reduceEq, Int.reduceNeg, Int.reduceAdd, Int.reduceSub, reduceCtorEq]
    rw [szr_neg (by omega)]
  simp only [decide_eq_false_iff_not, Int.not_lt] at h
  simp only [go_sem, ↓reduceIte, Nat.reduceEqDiff, Nat.reduceLT, Nat.reduceLeDiff, Nat.reduceAdd, Nat.reduceMul, Nat.reduceSub, Int.reduceToNat, Int.reduceLT, Int.reduceLE, Int.reduceEq, Int.reduceNeg, Int.reduceAdd, Int.reduceSub, reduceCtorEq]
  refine AW.loop_ind (fun i : Nat => ⟨[(5, .d (.int .i64 i)), (0, .d (.sl xs)), (1, .d (.int .i64 (n - xs.length - sumW xs i))), (4, .d (.int .i64 0))], []⟩) (fun i => i ≤ xs.length ∧ (sumW xs i : Int) ≤ n - xs.length) (fun i => xs.length - i) 0 ⟨by omega, by simp only [sumW]; omega⟩ ?_ ?_
  · refine Weak.of (by simp) rfl ?_
    simp [Abs.get, sumW, C.refsLtT, C.refsLt, C.refsLt1]
  · intro i hi hnext
    obtain ⟨hi1, hi2⟩ := hi
    refine run_sound Try.func49 mixed 100 _ _ (by kernel_rfl) ?_
    simp only [go_sem, ↓reduceIte, Nat.reduceEqDiff, Nat.reduceLT, Nat.reduceLeDiff, Nat.reduceAdd, Nat.reduceMul, Nat.reduceSub, Int.reduceToNat, Int.reduceLT, Int.reduceLE, Int.reduceEq, Int.reduceNeg, Int.reduceAdd, Int.reduceSub, reduceCtorEq]
    refine br_intro (fun h => ?_) (fun h => ?_)
    · simp only [decide_eq_true_eq] at h
      have hi : i < xs.length := by omega
      obtain ⟨x, hxi⟩ : ∃ x, xs[i]? = some x := ⟨_, List.getElem?_eq_getElem hi⟩
      have hsum := sumW_at hxi
      have hle := sumW_le xs (i + 1)
      obtain ⟨e1, e2⟩ := hx x (List.mem_of_getElem? hxi)
      simp only [go_sem, ↓reduceIte, Nat.reduceEqDiff, Nat.reduceLT, Nat.reduceLeDiff, Nat.reduceAdd, Nat.reduceMul, Nat.reduceSub, Int.reduceToNat, Int.reduceLT, Int.reduceLE, Int.reduceEq, Int.reduceNeg, Int.reduceAdd, Int.reduceSub, reduceCtorEq, Int.toNat_natCast, hxi, idx_of hxi, e1]
      repeat refine And.intro (by omega) ?_
      refine (e2 _ (by omega) (by omega)).calls rfl ?_
      simp only [go_sem, ↓reduceIte, Nat.reduceEqDiff, Nat.reduceLT, Nat.reduceLeDiff, Nat.reduceAdd, Nat.reduceMul, Nat.reduceSub, Int.reduceToNat, Int.reduceLT, Int.reduceLE, Int.reduceEq, Int.reduceNeg, Int.reduceAdd, Int.reduceSub, reduceCtorEq]
      refine br_intro (fun h => ?_) (fun h => ?_)
      · simp only [decide_eq_true_eq] at h
        have hg := szr_lt h
        simp only [go_sem, ↓reduceIte, Nat.reduceEqDiff, Nat.reduceLT, Nat.reduceLeDiff, Nat.reduceAdd, Nat.reduceMul, Nat.reduceSub, Int.reduceToNat, Int.reduceLT, Int.reduceLE, Int.reduceEq, Int.reduceNeg, Int.reduceAdd, Int.reduceSub, reduceCtorEq]
        rw [szr_neg (by omega)]
      · simp only [decide_eq_false_iff_not] at h
        have hg := szr_ge h
        rw [szr_pos hg]
        simp only [go_sem, ↓reduceIte, Nat.reduceEqDiff, Nat.reduceLT, Nat.reduceLeDiff, Nat.reduceAdd, Nat.reduceMul, Nat.reduceSub, Int.reduceToNat, Int.reduceLT, Int.reduceLE, Int.reduceEq, Int.reduceNeg, Int.reduceAdd, Int.reduceSub, reduceCtorEq]
        rw [wrap_ok (by omega) (by omega)]
        refine hnext (i + 1) _ ⟨by omega, by omega⟩ (by omega) ?_
        refine Weak.of (by simp) rfl ?_
        simp [Abs.get, C.refsLtT, C.refsLt, C.refsLt1]
        omega
    · simp only [decide_eq_false_iff_not] at h
      have : i = xs.length := by omega
      subst this
      simp only [go_sem, ↓reduceIte, Nat.reduceEqDiff, Nat.reduceLT, Nat.reduceLeDiff, Nat.reduceAdd, Nat.reduceMul, Nat.reduceSub, Int.reduceToNat, Int.reduceLT, Int.reduceLE, Int.reduceEq, Int.reduceNeg, Int.reduceAdd, Int.reduceSub, reduceCtorEq]
      rw [szr_pos (by omega)]
      all_goals (congr 2 <;> omega)

theorem sz86 (a0 : List UInt8) (a1 : Int) (a2 : Int) (a3 : Int) (a4 : List UInt8) (a5 : List (List D)) (a6 : List (List D)) (h0 : a0.length ≤ maxLen) (h3 : ∀ n : Int, 0 ≤ n → n ≤ 1048576 → Gives Try.prog 11 [.agg [.int .i64 a3, .str a4, .sl a5, .sl a6], .int .i64 n] (.d (.int .i64 (szr n (wtL [.int .i64 a3, .str a4, .sl a5, .sl a6])))))
    (n : Int) (g0 : 0 ≤ n) (g1 : n ≤ 1048576) : Gives Try.prog 86 [.agg [.str a0, .int .i64 a1, .int .i64 a2, .int .i64 a3, .str a4, .sl a5, .sl a6], .int .i64 n] (.d (.int .i64 (szr n (wtL [.str a0, .int .i64 a1, .int .i64 a2, .int .i64 a3, .str a4, .sl a5, .sl a6])))) := by
  have hw : wtL [.str a0, .int .i64 a1, .int .i64 a2, .int .i64 a3, .str a4, .sl a5, .sl a6] = a0.length + wtL [.int .i64 a3, .str a4, .sl a5, .sl a6] := by simp only [wtL, D.wt] <;> omega
  simp only [maxLen] at h0
  rw [hw]
  refine ACalls.enter (fn := Try.f86) Try.func86 rfl (by show 2 ≤ _; decide) ?_
  refine run_sound Try.func86 mixed 100 _ _ (by kernel_rfl) ?_
  simp only [go_sem, ↓reduceIte, Nat.reduceEqDiff, Nat.reduceLT, Nat.reduceLeDiff, Nat.reduceAdd, Nat.reduceMul, Nat.reduceSub, Int.reduceToNat, Int.reduceLT, Int.reduceLE, Int.reduceEq, Int.reduceNeg, Int.reduceAdd, Int.reduceSub, reduceCtorEq]
  rw [wrap_ok (by omega) (by omega)]
  refine br_intro (fun h => ?_) (fun h => ?_)
  · simp only [decide_eq_true_eq] at h
    simp only [go_sem, ↓reduceIte, Nat.reduceEqDiff, Nat.reduceLT, Nat.reduceLeDiff, Nat.reduceAdd, Nat.reduceMul, Nat.reduceSub, Int.reduceToNat, Int.reduceLT, Int.reduceLE, Int.reduceEq, Int.reduceNeg, Int.reduceAdd, Int.reduceSub, reduceCtorEq]
    rw [szr_neg (by omega)]
  simp only [decide_eq_false_iff_not, Int.not_lt] at h
  simp only [go_sem, ↓reduceIte, Nat.reduceEqDiff, Nat.reduceLT, Nat.reduceLeDiff, Nat.reduceAdd, Nat.reduceMul, Nat.reduceSub, Int.reduceToNat, Int.reduceLT, Int.reduceLE, Int.reduceEq, Int.reduceNeg, Int.reduceAdd, Int.reduceSub, reduceCtorEq]
  refine (h3 _ (by omega) (by omega)).calls rfl ?_
  simp only [go_sem, ↓reduceIte, Nat.reduceEqDiff, Nat.reduceLT, Nat.reduceLeDiff, Nat.reduceAdd, Nat.reduceMul, Nat.reduceSub, Int.reduceToNat, Int.reduceLT, Int.reduceLE, Int.reduceEq, Int.reduceNeg, Int.reduceAdd, Int.reduceSub, reduceCtorEq]
  refine br_intro (fun h => ?_) (fun h => ?_)
  · simp only [decide_eq_true_eq] at h
    have hg := szr_lt h
    simp only [go_sem, ↓reduceIte, Nat.reduceEqDiff, Nat.reduceLT, Nat.reduceLeDiff, Nat.reduceAdd, Nat.reduceMul, Nat.reduceSub, Int.reduceToNat, Int.reduceLT, Int.reduceLE, Int.reduceEq, Int.reduceNeg, Int.reduceAdd, Int.reduceSub, reduceCtorEq]
    rw [szr_neg (by omega)]
  simp only [decide_eq_false_iff_not] at h
  have hg := szr_ge h
  rw [szr_pos hg]
  clear h
  simp only [go_sem, ↓reduceIte, Nat.reduceEqDiff, Nat.reduceLT, Nat.reduceLeDiff, Nat.reduceAdd, Nat.reduceMul, Nat.reduceSub, Int.reduceToNat, Int.reduceLT, Int.reduceLE, Int.reduceEq, Int.reduceNeg, Int.reduceAdd, Int.reduceSub, reduceCtorEq]
  all_goals rw [szr_pos (by omega)]
  all_goals (congr 2 <;> omega)

theorem to55 (xs : List (List D)) (hl : xs.length ≤ 1048576) (hx : ∀ x, x ∈ xs → x.length = 7 ∧ Gives Try.prog 89 [.agg x] (.d (.agg x))) : Gives Try.prog 55 [.sl xs] (.d (.sl xs)) := by
  refine ACalls.enter (fn := Try.f55) Try.func55 rfl (by show 1 ≤ _; decide) ?_
  refine run_sound Try.func55 mixed 100 _ _ (by kernel_rfl) ?_
  simp only [go_sem, ↓reduceIte, Nat.reduceEqDiff, Nat.reduceLT, Nat.reduceLeDiff, Nat.reduceAdd, Nat.reduceMul, Nat.reduceSub, Int.reduceToNat, Int.reduceLT, Int.reduceLE, Int.reduceEq, Int.reduceNeg, Int.reduceAdd, Int.reduceSub, reduceCtorEq, Int.toNat_natCast]
  repeat refine And.intro (by first | omega | (simp only [maxLen]; omega)) ?_
  refine AW.loop_ind (fun i : Nat => ⟨[(4, .d (.int .i64 i)), (0, .d (.sl xs)), (3, .rsl 0 xs.length), (2, .nil0)], [.row 7 76 (xs.take i ++ List.replicate (xs.length - i) [.str [], .int .i64 0, .int .i64 0, .int .i64 0, .str [], .sl [], .sl []])]⟩) (fun i => i ≤ xs.length) (fun i => xs.length - i) 0 (by omega) ?_ ?_
  · refine Weak.of (by simp) rfl ?_
    simp [Abs.get, C.refsLtT, C.refsLt, C.refsLt1]
  · intro i hi hnext
    by_cases h : i < xs.length
    · obtain ⟨x, hxi⟩ : ∃ x, xs[i]? = some x := ⟨_, List.getElem?_eq_getElem h⟩
      obtain ⟨e1, e2⟩ := hx x (List.mem_of_getElem? hxi)
      have hlt : ((i : Int) < (xs.length : Int)) = True := by simp; omega
      refine run_sound Try.func55 mixed 100 _ _ (by kernel_rfl) ?_
      simp only [go_sem, ↓reduceIte, Nat.reduceEqDiff, Nat.reduceLT, Nat.reduceLeDiff, Nat.reduceAdd, Nat.reduceMul, Nat.reduceSub, Int.reduceToNat, Int.reduceLT, Int.reduceLE, Int.reduceEq, Int.reduceNeg, Int.reduceAdd, Int.reduceSub, reduceCtorEq, Int.toNat_natCast, hlt, hxi, idx_of hxi, e1]
      repeat refine And.intro (by omega) ?_
      refine e2.calls rfl ?_
      simp only [go_sem, ↓reduceIte, Nat.reduceEqDiff, Nat.reduceLT, Nat.reduceLeDiff, Nat.reduceAdd, Nat.reduceMul, Nat.reduceSub, Int.reduceToNat, Int.reduceLT, Int.reduceLE, Int.reduceEq, Int.reduceNeg, Int.reduceAdd, Int.reduceSub, reduceCtorEq, Int.toNat_natCast, hlt, hxi, idx_of hxi, e1]
      repeat refine And.intro (by first | omega | (simp; omega) | (simp_all; done)) ?_
      rw [wrap_ok (by omega) (by omega)]
      first | rw [row_step (k := 7) hxi (by rfl)] | rw [row_step1 hxi (by rfl)]
      refine hnext (i + 1) _ (by omega) (by omega) ?_
      refine Weak.of (by simp) rfl ?_
      simp [Abs.get, C.refsLtT, C.refsLt, C.refsLt1]
    · have hlt : ((i : Int) < (xs.length : Int)) = False := by simp; omega
      refine run_sound Try.func55 mixed 6 _ _ (by kernel_rfl) ?_
      simp only [go_sem, ↓reduceIte, Nat.reduceEqDiff, Nat.reduceLT, Nat.reduceLeDiff, Nat.reduceAdd, Nat.reduceMul, Nat.reduceSub, Int.reduceToNat, Int.reduceLT, Int.reduceLE, Int.reduceEq, Int.reduceNeg, Int.reduceAdd, Int.reduceSub, reduceCtorEq, Int.toNat_natCast, hlt]
      obtain rfl : i = xs.length := by omega
      rw [row_all]
      refine AW.freeze 3 0 rfl rfl rfl ?_
      refine run_sound Try.func55 mixed 100 _ _ (by kernel_rfl) ?_
      simp only [go_sem, ↓reduceIte, Nat.reduceEqDiff, Nat.reduceLT, Nat.reduceLeDiff, Nat.reduceAdd, Nat.reduceMul, Nat.reduceSub, Int.reduceToNat, Int.reduceLT, Int.reduceLE, Int.reduceEq, Int.reduceNeg, Int.reduceAdd, Int.reduceSub, reduceCtorEq]

theorem to89 (a0 : List UInt8) (a1 : Int) (a2 : Int) (a3 : Int) (a4 : List UInt8) (a5 : List (List D)) (a6 : List (List D)) (h3 : Gives Try.prog 13 [.agg [.int .i64 a3, .str a4, .sl a5, .sl a6]] (.d (.agg [.int .i64 a3, .str a4, .sl a5, .sl a6]))) : Gives Try.prog 89 [.agg [.str a0, .int .i64 a1, .int .i64 a2, .int .i64 a3, .str a4, .sl a5, .sl a6]] (.d (.agg [.str a0, .int .i64 a1, .int .i64 a2, .int .i64 a3, .str a4, .sl a5, .sl a6])) := by
  refine ACalls.enter (fn := Try.f89) Try.func89 rfl (by show 1 ≤ _; decide) ?_
  refine run_sound Try.func89 mixed 100 _ _ (by kernel_rfl) ?_
  simp only [go_sem, ↓reduceIte, Nat.reduceEqDiff, Nat.reduceLT, Nat.reduceLeDiff, Nat.reduceAdd, Nat.reduceMul, Nat.reduceSub, Int.reduceToNat, Int.reduceLT, Int.reduceLE, Int.reduceEq, Int.reduceNeg, Int.reduceAdd, Int.reduceSub, reduceCtorEq]
  refine h3.calls rfl ?_
  simp only [go_sem, ↓reduceIte, Nat.reduceEqDiff, Nat.reduceLT, Nat.reduceLeDiff, Nat.reduceAdd, Nat.reduceMul, Nat.reduceSub, Int.reduceToNat, Int.reduceLT, Int.reduceLE, Int.reduceEq, Int.reduceNeg, Int.reduceAdd, Int.reduceSub, reduceCtorEq]

theorem eq61 (xs : List (List D)) (hm : xs.length ≤ maxLen) (hx : ∀ x, x ∈ xs → x.length = 7 ∧ Gives Try.prog 93 [.agg x, .agg x] (.d (.bool true))) : Gives Try.prog 61 [.sl xs, .sl xs] (.d (.bool true)) := by
  have hm' : (xs.length : Int) ≤ 9223372036854775807 := by simp only [maxLen] at hm; omega
  refine ACalls.enter (fn := Try.f61) Try.func61 rfl (by show 2 ≤ _; decide) ?_
  refine run_sound Try.func61 mixed 100 _ _ (by kernel_rfl) ?_
  simp only [go_sem, ↓reduceIte, Nat.reduceEqDiff, Nat.reduceLT, Nat.reduceLeDiff, Nat.reduceAdd, Nat.reduceMul, Nat.reduceSub, Int.reduceToNat, Int.reduceLT, Int.reduceLE, Int.reduceEq, Int.reduceNeg, Int.reduceAdd, Int.reduceSub, reduceCtorEq, bne_self_eq_false]
  refine AW.loop_ind (fun i : Nat => ⟨[(5, .d (.int .i64 i)), (0, .d (.sl xs)), (1, .d (.sl xs)), (4, .d (.bool false))], []⟩) (fun i => i ≤ xs.length) (fun i => xs.length - i) 0 (by omega) ?_ ?_
  · refine Weak.of (by simp) rfl ?_
    simp [Abs.get, C.refsLtT, C.refsLt, C.refsLt1]
  · intro i hi hnext
    by_cases h : i < xs.length
    · obtain ⟨x, hxi⟩ : ∃ x, xs[i]? = some x := ⟨_, List.getElem?_eq_getElem h⟩
      obtain ⟨e1, e2⟩ := hx x (List.mem_of_getElem? hxi)
      have hlt : ((i : Int) < (xs.length : Int)) = True := by simp; omega
      have h00 : (0 ≤ (i : Int)) = True := by simp
      refine run_sound Try.func61 mixed 100 _ _ (by kernel_rfl) ?_
      simp only [go_sem, ↓reduceIte, Nat.reduceEqDiff, Nat.reduceLT, Nat.reduceLeDiff, Nat.reduceAdd, Nat.reduceMul, Nat.reduceSub, Int.reduceToNat, Int.reduceLT, Int.reduceLE, Int.reduceEq, Int.reduceNeg, Int.reduceAdd, Int.reduceSub, reduceCtorEq, Int.toNat_natCast, hlt, hxi, idx_of hxi, e1, h00, bne_self_eq_false]
      refine e2.callQ rfl ?_
      simp only [go_sem, ↓reduceIte, Nat.reduceEqDiff, Nat.reduceLT, Nat.reduceLeDiff, Nat.reduceAdd, Nat.reduceMul, Nat.reduceSub, Int.reduceToNat, Int.reduceLT, Int.reduceLE, Int.reduceEq, Int.reduceNeg, Int.reduceAdd, Int.reduceSub, reduceCtorEq]
      rw [wrap_ok (by omega) (by omega)]
      refine hnext (i + 1) _ (by omega) (by omega) ?_
      refine Weak.of (by simp) rfl ?_
      simp [Abs.get, C.refsLtT, C.refsLt, C.refsLt1]
    · have hlt : ((i : Int) < (xs.length : Int)) = False := by simp; omega
      refine run_sound Try.func61 mixed 100 _ _ (by kernel_rfl) ?_
      simp only [go_sem, ↓reduceIte, Nat.reduceEqDiff, Nat.reduceLT, Nat.reduceLeDiff, Nat.reduceAdd, Nat.reduceMul, Nat.reduceSub, Int.reduceToNat, Int.reduceLT, Int.reduceLE, Int.reduceEq, Int.reduceNeg, Int.reduceAdd, Int.reduceSub, reduceCtorEq, hlt]

theorem eq93 (a0 : List UInt8) (a1 : Int) (a2 : Int) (a3 : Int) (a4 : List UInt8) (a5 : List (List D)) (a6 : List (List D)) (h3 : Gives Try.prog 15 [.agg [.int .i64 a3, .str a4, .sl a5, .sl a6], .agg [.int .i64 a3, .str a4, .sl a5, .sl a6]] (.d (.bool true))) : Gives Try.prog 93 [.agg [.str a0, .int .i64 a1, .int .i64 a2, .int .i64 a3, .str a4, .sl a5, .sl a6], .agg [.str a0, .int .i64 a1, .int .i64 a2, .int .i64 a3, .str a4, .sl a5, .sl a6]] (.d (.bool true)) := by
  refine ACalls.enter (fn := Try.f93) Try.func93 rfl (by show 2 ≤ _; decide) ?_
  refine run_sound Try.func93 mixed 100 _ _ (by kernel_rfl) ?_
  simp only [go_sem, ↓reduceIte, Nat.reduceEqDiff, Nat.reduceLT, Nat.reduceLeDiff, Nat.reduceAdd, Nat.reduceMul, Nat.reduceSub, Int.reduceToNat, Int.reduceLT, Int.reduceLE, Int.reduceEq, Int.reduceNeg, Int.reduceAdd, Int.reduceSub, reduceCtorEq, bne_self_eq_false]
  refine h3.calls rfl ?_
  simp only [go_sem, ↓reduceIte, Nat.reduceEqDiff, Nat.reduceLT, Nat.reduceLeDiff, Nat.reduceAdd, Nat.reduceMul, Nat.reduceSub, Int.reduceToNat, Int.reduceLT, Int.reduceLE, Int.reduceEq, Int.reduceNeg, Int.reduceAdd, Int.reduceSub, reduceCtorEq, bne_self_eq_false]

theorem mk107 (a0 : List UInt8) (a1 : Int) (a2 : Int) (a3 : Int) (a4 : List UInt8) (a5 : List (List D)) (a6 : List (List D)) (q0 : a0.length ≤ maxLen) (q1 : (Lit.int .i64 a1).wf = true) (q2 : (Lit.int .i64 a2).wf = true) (q3 : (Lit.int .i64 a3).wf = true) (q4 : a4.length ≤ maxLen) (q5 : a5.length ≤ maxLen ∧ ∀ x, x ∈ a5 → Sh Try.prog 96 x) (q6 : a6.length ≤ maxLen ∧ ∀ x, x ∈ a6 → Sh Try.prog 25 x) : Sh Try.prog 107 [.str a0, .int .i64 a1, .int .i64 a2, .int .i64 a3, .str a4, .sl a5, .sl a6] := by
  refine ⟨_, lv107, rfl, fun i l c hl hc => ?_⟩
  match i with
  | 0 => simp at hl hc; subst hl hc; exact .str _ q0
  | 1 => simp at hl hc; subst hl hc; exact .int _ _ q1
  | 2 => simp at hl hc; subst hl hc; exact .int _ _ q2
  | 3 => simp at hl hc; subst hl hc; exact .int _ _ q3
  | 4 => simp at hl hc; subst hl hc; exact .str _ q4
  | 5 => simp at hl hc; subst hl hc; exact ShC.sl_of lv96 q5.1 q5.2
  | 6 => simp at hl hc; subst hl hc; exact ShC.sl_of lv25 q6.1 q6.2
  | i + 7 => simp at hl

theorem len107 {x : List D} (h : Sh Try.prog 107 x) : x.length = 7 := by
  obtain ⟨_, _, _, _, _, _, _, rfl, _⟩ := inv107 h
  rfl
theorem szc107 : ∀ (m : Nat) (x : List D), wtL x < m → Sh Try.prog 107 x → ∀ n : Int, 0 ≤ n → n ≤ 1048576 → Gives Try.prog 86 [.agg x, .int .i64 n] (.d (.int .i64 (szr n (wtL x))))
  | 0, _, hm, _ => by omega
  | m + 1, x, hm, h => by
    obtain ⟨a0, a1, a2, a3, a4, a5, a6, rfl, q0, q1, q2, q3, q4, q5, q6⟩ := inv107 h
    have hw : wtL [.str a0, .int .i64 a1, .int .i64 a2, .int .i64 a3, .str a4, .sl a5, .sl a6] = a0.length + wtL [.int .i64 a3, .str a4, .sl a5, .sl a6] := by simp only [wtL, D.wt] <;> omega
    exact fun n g0 g1 => sz86 a0 a1 a2 a3 a4 a5 a6 q0 (fun n g0 g1 => szc25 _ [.int .i64 a3, .str a4, .sl a5, .sl a6] (Nat.lt_succ_self _) (mk25 a3 a4 a5 a6 q3 q4 q5 q6) n g0 g1) n g0 g1
theorem toc107 : ∀ (m : Nat) (x : List D), wtL x < m → wtL x ≤ 1048576 → Sh Try.prog 107 x → Gives Try.prog 89 [.agg x] (.d (.agg x))
  | 0, _, hm, _, _ => by omega
  | m + 1, x, hm, hb, h => by
    obtain ⟨a0, a1, a2, a3, a4, a5, a6, rfl, q0, q1, q2, q3, q4, q5, q6⟩ := inv107 h
    have hw : wtL [.str a0, .int .i64 a1, .int .i64 a2, .int .i64 a3, .str a4, .sl a5, .sl a6] = a0.length + wtL [.int .i64 a3, .str a4, .sl a5, .sl a6] := by simp only [wtL, D.wt] <;> omega
    exact to89 a0 a1 a2 a3 a4 a5 a6 (toc25 _ [.int .i64 a3, .str a4, .sl a5, .sl a6] (Nat.lt_succ_self _) (by omega) (mk25 a3 a4 a5 a6 q3 q4 q5 q6))
theorem eqc107 : ∀ (m : Nat) (x : List D), wtL x < m → Sh Try.prog 107 x → Gives Try.prog 93 [.agg x, .agg x] (.d (.bool true))
  | 0, _, hm, _ => by omega
  | m + 1, x, hm, h => by
    obtain ⟨a0, a1, a2, a3, a4, a5, a6, rfl, q0, q1, q2, q3, q4, q5, q6⟩ := inv107 h
    have hw : wtL [.str a0, .int .i64 a1, .int .i64 a2, .int .i64 a3, .str a4, .sl a5, .sl a6] = a0.length + wtL [.int .i64 a3, .str a4, .sl a5, .sl a6] := by simp only [wtL, D.wt] <;> omega
    exact eq93 a0 a1 a2 a3 a4 a5 a6 (eqc25 _ [.int .i64 a3, .str a4, .sl a5, .sl a6] (Nat.lt_succ_self _) (mk25 a3 a4 a5 a6 q3 q4 q5 q6))

theorem sh_Rl (x : List D) (h : Sh Try.prog 107 x) : ∃ t, x = Rl.enc t := Rl.of_sh lv107 sh_Tm sh_Gl x h
theorem sl_35 {x : D} (h : Sh Try.prog 35 [x]) : ∃ l : List Rl, x = .sl (l.map Rl.enc) := shL (by kernel_rfl) sh_Rl h

theorem szs35 (xs : List (List D)) (hm : xs.length ≤ maxLen) (h : ∀ x, x ∈ xs → Sh Try.prog 107 x) (n : Int) (g0 : 0 ≤ n) (g1 : n ≤ 1048576) : Gives Try.prog 49 [.sl xs, .int .i64 n] (.d (.int .i64 (szr n (wtR xs)))) :=
  sz49 xs hm (fun x hx => ⟨len107 (h x hx), szc107 _ x (Nat.lt_succ_self _) (h x hx)⟩) n g0 g1
theorem tos35 (xs : List (List D)) (hb : wtR xs ≤ 1048576) (h : ∀ x, x ∈ xs → Sh Try.prog 107 x) : Gives Try.prog 55 [.sl xs] (.d (.sl xs)) :=
  to55 xs (by have := sumW_le xs 0; omega) (fun x hx => ⟨len107 (h x hx), toc107 _ x (Nat.lt_succ_self _) (by have := wtL_lt xs x hx; omega) (h x hx)⟩)
theorem eqs35 (xs : List (List D)) (hm : xs.length ≤ maxLen) (h : ∀ x, x ∈ xs → Sh Try.prog 107 x) : Gives Try.prog 61 [.sl xs, .sl xs] (.d (.bool true)) :=
  eq61 xs hm (fun x hx => ⟨len107 (h x hx), eqc107 _ x (Nat.lt_succ_self _) (h x hx)⟩)

theorem lv37 : leaves Try.prog 6 37 = some [.sl 107] := by kernel_rfl
theorem inv37 {x : List D} (h : Sh Try.prog 37 x) : ∃ a0, x = [.sl a0] ∧ (a0.length ≤ maxLen ∧ ∀ x, x ∈ a0 → Sh Try.prog 107 x) := by
  obtain ⟨ls, h1, h2, h3⟩ := h
  rw [lv37] at h1
  cases h1
  match x, h2, h3 with
  | [c0], _, h3 =>
    have g0 := h3 0 _ _ rfl rfl
    obtain ⟨b0, rfl, q0⟩ := g0.elems
    exact ⟨_, rfl, q0⟩

theorem sz16 (a0 : List (List D)) (h0 : ∀ n : Int, 0 ≤ n → n ≤ 1048576 → Gives Try.prog 49 [.sl a0, .int .i64 n] (.d (.int .i64 (szr n (wtR a0)))))
    (n : Int) (g0 : 0 ≤ n) (g1 : n ≤ 1048576) : Gives Try.prog 16 [.agg [.sl a0], .int .i64 n] (.d (.int .i64 (szr n (wtL [.sl a0])))) := by
  have hw : wtL [.sl a0] = wtR a0 := by simp only [wtL, D.wt] <;> omega
  rw [hw]
  refine ACalls.enter (fn := Try.f16) Try.func16 rfl (by show 2 ≤ _; decide) ?_
  refine run_sound Try.func16 mixed 100 _ _ (by kernel_rfl) ?_
  simp only [go_sem, ↓reduceIte, Nat.reduceEqDiff, Nat.reduceLT, Nat.reduceLeDiff, Nat.reduceAdd, Nat.reduceMul, Nat.reduceSub, Int.reduceToNat, Int.reduceLT, Int.reduceLE, Int.reduceEq, Int.reduceNeg, Int.reduceAdd, Int.reduceSub, reduceCtorEq]
  refine (h0 _ (by omega) (by omega)).calls rfl ?_
  simp only [go_sem, ↓reduceIte, Nat.reduceEqDiff, Nat.reduceLT, Nat.reduceLeDiff, Nat.reduceAdd, Nat.reduceMul, Nat.reduceSub, Int.reduceToNat, Int.reduceLT, Int.reduceLE, Int.reduceEq, Int.reduceNeg, Int.reduceAdd, Int.reduceSub, reduceCtorEq]
  refine br_intro (fun h => ?_) (fun h => ?_)
  · simp only [decide_eq_true_eq] at h
    have hg := szr_lt h
    simp only [go_sem, ↓reduceIte, Nat.reduceEqDiff, Nat.reduceLT, Nat.reduceLeDiff, Nat.reduceAdd, Nat.reduceMul, Nat.reduceSub, Int.reduceToNat, Int.reduceLT, Int.reduceLE, Int.reduceEq, Int.reduceNeg, Int.reduceAdd, Int.reduceSub, reduceCtorEq]
    rw [szr_neg (by omega)]
  simp only [decide_eq_false_iff_not] at h
  have hg := szr_ge h
  rw [szr_pos hg]
  clear h
  simp only [go_sem, ↓reduceIte, Nat.reduceEqDiff, Nat.reduceLT, Nat.reduceLeDiff, Nat.reduceAdd, Nat.reduceMul, Nat.reduceSub, Int.reduceToNat, Int.reduceLT, Int.reduceLE, Int.reduceEq, Int.reduceNeg, Int.reduceAdd, Int.reduceSub, reduceCtorEq]
  all_goals rw [szr_pos (by omega)]
  all_goals (congr 2 <;> omega)

theorem to18 (a0 : List (List D)) (h0 : Gives Try.prog 55 [.sl a0] (.d (.sl a0))) : Gives Try.prog 18 [.agg [.sl a0]] (.d (.agg [.sl a0])) := by
  refine ACalls.enter (fn := Try.f18) Try.func18 rfl (by show 1 ≤ _; decide) ?_
  refine run_sound Try.func18 mixed 100 _ _ (by kernel_rfl) ?_
  simp only [go_sem, ↓reduceIte, Nat.reduceEqDiff, Nat.reduceLT, Nat.reduceLeDiff, Nat.reduceAdd, Nat.reduceMul, Nat.reduceSub, Int.reduceToNat, Int.reduceLT, Int.reduceLE, Int.reduceEq, Int.reduceNeg, Int.reduceAdd, Int.reduceSub, reduceCtorEq]
  refine h0.calls rfl ?_
  simp only [go_sem, ↓reduceIte, Nat.reduceEqDiff, Nat.reduceLT, Nat.reduceLeDiff, Nat.reduceAdd, Nat.reduceMul, Nat.reduceSub, Int.reduceToNat, Int.reduceLT, Int.reduceLE, Int.reduceEq, Int.reduceNeg, Int.reduceAdd, Int.reduceSub, reduceCtorEq]

theorem eq20 (a0 : List (List D)) (h0 : Gives Try.prog 61 [.sl a0, .sl a0] (.d (.bool true))) : Gives Try.prog 20 [.agg [.sl a0], .agg [.sl a0]] (.d (.bool true)) := by
  refine ACalls.enter (fn := Try.f20) Try.func20 rfl (by show 2 ≤ _; decide) ?_
  refine run_sound Try.func20 mixed 100 _ _ (by kernel_rfl) ?_
  simp only [go_sem, ↓reduceIte, Nat.reduceEqDiff, Nat.reduceLT, Nat.reduceLeDiff, Nat.reduceAdd, Nat.reduceMul, Nat.reduceSub, Int.reduceToNat, Int.reduceLT, Int.reduceLE, Int.reduceEq, Int.reduceNeg, Int.reduceAdd, Int.reduceSub, reduceCtorEq, bne_self_eq_false]
  refine h0.calls rfl ?_
  simp only [go_sem, ↓reduceIte, Nat.reduceEqDiff, Nat.reduceLT, Nat.reduceLeDiff, Nat.reduceAdd, Nat.reduceMul, Nat.reduceSub, Int.reduceToNat, Int.reduceLT, Int.reduceLE, Int.reduceEq, Int.reduceNeg, Int.reduceAdd, Int.reduceSub, reduceCtorEq, bne_self_eq_false]

theorem mk37 (a0 : List (List D)) (q0 : a0.length ≤ maxLen ∧ ∀ x, x ∈ a0 → Sh Try.prog 107 x) : Sh Try.prog 37 [.sl a0] := by
  refine ⟨_, lv37, rfl, fun i l c hl hc => ?_⟩
  match i with
  | 0 => simp at hl hc; subst hl hc; exact ShC.sl_of lv107 q0.1 q0.2
  | i + 1 => simp at hl

theorem len37 {x : List D} (h : Sh Try.prog 37 x) : x.length = 1 := by
  obtain ⟨_, rfl, _⟩ := inv37 h
  rfl
theorem szc37 : ∀ (m : Nat) (x : List D), wtL x < m → Sh Try.prog 37 x → ∀ n : Int, 0 ≤ n → n ≤ 1048576 → Gives Try.prog 16 [.agg x, .int .i64 n] (.d (.int .i64 (szr n (wtL x))))
  | 0, _, hm, _ => by omega
  | m + 1, x, hm, h => by
    obtain ⟨a0, rfl, q0⟩ := inv37 h
    have hw : wtL [.sl a0] = wtR a0 := by simp only [wtL, D.wt] <;> omega
    exact fun n g0 g1 => sz16 a0 (fun n g0 g1 => szs35 a0 q0.1 q0.2 n g0 g1) n g0 g1
theorem toc37 : ∀ (m : Nat) (x : List D), wtL x < m → wtL x ≤ 1048576 → Sh Try.prog 37 x → Gives Try.prog 18 [.agg x] (.d (.agg x))
  | 0, _, hm, _, _ => by omega
  | m + 1, x, hm, hb, h => by
    obtain ⟨a0, rfl, q0⟩ := inv37 h
    have hw : wtL [.sl a0] = wtR a0 := by simp only [wtL, D.wt] <;> omega
    exact to18 a0 (tos35 a0 (by omega) q0.2)
theorem eqc37 : ∀ (m : Nat) (x : List D), wtL x < m → Sh Try.prog 37 x → Gives Try.prog 20 [.agg x, .agg x] (.d (.bool true))
  | 0, _, hm, _ => by omega
  | m + 1, x, hm, h => by
    obtain ⟨a0, rfl, q0⟩ := inv37 h
    have hw : wtL [.sl a0] = wtR a0 := by simp only [wtL, D.wt] <;> omega
    exact eq20 a0 (eqs35 a0 q0.1 q0.2)

theorem sh_Pg (x : List D) (h : Sh Try.prog 37 x) : ∃ t, x = Pg.enc t := Pg.of_sh lv37 sh_Rl x h

theorem lv51 : leaves Try.prog 6 51 = some [.str, .sl 96] := by kernel_rfl
theorem inv51 {x : List D} (h : Sh Try.prog 51 x) : ∃ a0 a1, x = [.str a0, .sl a1] ∧ a0.length ≤ maxLen ∧ (a1.length ≤ maxLen ∧ ∀ x, x ∈ a1 → Sh Try.prog 96 x) := by
  obtain ⟨ls, h1, h2, h3⟩ := h
  rw [lv51] at h1
  cases h1
  match x, h2, h3 with
  | [c0, c1], _, h3 =>
    have g0 := h3 0 _ _ rfl rfl
    have g1 := h3 1 _ _ rfl rfl
    obtain ⟨b0, rfl, q0⟩ := g0.str_inv
    obtain ⟨b1, rfl, q1⟩ := g1.elems
    exact ⟨_, _, rfl, q0, q1⟩

theorem sz29 (a0 : List UInt8) (a1 : List (List D)) (h0 : a0.length ≤ maxLen) (h1 : ∀ n : Int, 0 ≤ n → n ≤ 1048576 → Gives Try.prog 36 [.sl a1, .int .i64 n] (.d (.int .i64 (szr n (wtR a1)))))
    (n : Int) (g0 : 0 ≤ n) (g1 : n ≤ 1048576) : Gives Try.prog 29 [.agg [.str a0, .sl a1], .int .i64 n] (.d (.int .i64 (szr n (wtL [.str a0, .sl a1])))) := by
  have hw : wtL [.str a0, .sl a1] = a0.length + wtR a1 := by simp only [wtL, D.wt] <;> omega
  simp only [maxLen] at h0
  rw [hw]
  refine ACalls.enter (fn := Try.f29) Try.func29 rfl (by show 2 ≤ _; decide) ?_
  refine run_sound Try.func29 mixed 100 _ _ (by kernel_rfl) ?_
  simp only [go_sem, ↓reduceIte, Nat.reduceEqDiff, Nat.reduceLT, Nat.reduceLeDiff, Nat.reduceAdd, Nat.reduceMul, Nat.reduceSub, Int.reduceToNat, Int.reduceLT, Int.reduceLE, Int.reduceEq, Int.reduceNeg, Int.reduceAdd, Int.reduceSub, reduceCtorEq]
  rw [wrap_ok (by omega) (by omega)]
  refine br_intro (fun h => ?_) (fun h => ?_)
  · simp only [decide_eq_true_eq] at h
    simp only [go_sem, ↓reduceIte, Nat.reduceEqDiff, Nat.reduceLT, Nat.reduceLeDiff, Nat.reduceAdd, Nat.reduceMul, Nat.reduceSub, Int.reduceToNat, Int.reduceLT, Int.reduceLE, Int.reduceEq, Int.reduceNeg, Int.reduceAdd, Int.reduceSub, reduceCtorEq]
    rw [szr_neg (by omega)]
  simp only [decide_eq_false_iff_not, Int.not_lt] at h
  simp only [go_sem, ↓reduceIte, Nat.reduceEqDiff, Nat.reduceLT, Nat.reduceLeDiff, Nat.reduceAdd, Nat.reduceMul, Nat.reduceSub, Int.reduceToNat, Int.reduceLT, Int.reduceLE, Int.reduceEq, Int.reduceNeg, Int.reduceAdd, Int.reduceSub, reduceCtorEq]
  refine (h1 _ (by omega) (by omega)).calls rfl ?_
  simp only [go_sem, ↓reduceIte, Nat.reduceEqDiff, Nat.reduceLT, Nat.reduceLeDiff, Nat.reduceAdd, Nat.reduceMul, Nat.reduceSub, Int.reduceToNat, Int.reduceLT, Int.reduceLE, Int.reduceEq, Int.reduceNeg, Int.reduceAdd, Int.reduceSub, reduceCtorEq]
  refine br_intro (fun h => ?_) (fun h => ?_)
  · simp only [decide_eq_true_eq] at h
    have hg := szr_lt h
    simp only [go_sem, ↓reduceIte, Nat.reduceEqDiff, Nat.reduceLT, Nat.reduceLeDiff, Nat.reduceAdd, Nat.reduceMul, Nat.reduceSub, Int.reduceToNat, Int.reduceLT, Int.reduceLE, Int.reduceEq, Int.reduceNeg, Int.reduceAdd, Int.reduceSub, reduceCtorEq]
    rw [szr_neg (by omega)]
  simp only [decide_eq_false_iff_not] at h
  have hg := szr_ge h
  rw [szr_pos hg]
  clear h
  simp only [go_sem, ↓reduceIte, Nat.reduceEqDiff, Nat.reduceLT, Nat.reduceLeDiff, Nat.reduceAdd, Nat.reduceMul, Nat.reduceSub, Int.reduceToNat, Int.reduceLT, Int.reduceLE, Int.reduceEq, Int.reduceNeg, Int.reduceAdd, Int.reduceSub, reduceCtorEq]
  all_goals rw [szr_pos (by omega)]
  all_goals (congr 2 <;> omega)

theorem to31 (a0 : List UInt8) (a1 : List (List D)) (h1 : Gives Try.prog 41 [.sl a1] (.d (.sl a1))) : Gives Try.prog 31 [.agg [.str a0, .sl a1]] (.d (.agg [.str a0, .sl a1])) := by
  refine ACalls.enter (fn := Try.f31) Try.func31 rfl (by show 1 ≤ _; decide) ?_
  refine run_sound Try.func31 mixed 100 _ _ (by kernel_rfl) ?_
  simp only [go_sem, ↓reduceIte, Nat.reduceEqDiff, Nat.reduceLT, Nat.reduceLeDiff, Nat.reduceAdd, Nat.reduceMul, Nat.reduceSub, Int.reduceToNat, Int.reduceLT, Int.reduceLE, Int.reduceEq, Int.reduceNeg, Int.reduceAdd, Int.reduceSub, reduceCtorEq]
  refine h1.calls rfl ?_
  simp only [go_sem, ↓reduceIte, Nat.reduceEqDiff, Nat.reduceLT, Nat.reduceLeDiff, Nat.reduceAdd, Nat.reduceMul, Nat.reduceSub, Int.reduceToNat, Int.reduceLT, Int.reduceLE, Int.reduceEq, Int.reduceNeg, Int.reduceAdd, Int.reduceSub, reduceCtorEq]

theorem eq33 (a0 : List UInt8) (a1 : List (List D)) (h1 : Gives Try.prog 47 [.sl a1, .sl a1] (.d (.bool true))) : Gives Try.prog 33 [.agg [.str a0, .sl a1], .agg [.str a0, .sl a1]] (.d (.bool true)) := by
  refine ACalls.enter (fn := Try.f33) Try.func33 rfl (by show 2 ≤ _; decide) ?_
  refine run_sound Try.func33 mixed 100 _ _ (by kernel_rfl) ?_
  simp only [go_sem, ↓reduceIte, Nat.reduceEqDiff, Nat.reduceLT, Nat.reduceLeDiff, Nat.reduceAdd, Nat.reduceMul, Nat.reduceSub, Int.reduceToNat, Int.reduceLT, Int.reduceLE, Int.reduceEq, Int.reduceNeg, Int.reduceAdd, Int.reduceSub, reduceCtorEq, bne_self_eq_false]
  refine h1.calls rfl ?_
  simp only [go_sem, ↓reduceIte, Nat.reduceEqDiff, Nat.reduceLT, Nat.reduceLeDiff, Nat.reduceAdd, Nat.reduceMul, Nat.reduceSub, Int.reduceToNat, Int.reduceLT, Int.reduceLE, Int.reduceEq, Int.reduceNeg, Int.reduceAdd, Int.reduceSub, reduceCtorEq, bne_self_eq_false]

theorem mk51 (a0 : List UInt8) (a1 : List (List D)) (q0 : a0.length ≤ maxLen) (q1 : a1.length ≤ maxLen ∧ ∀ x, x ∈ a1 → Sh Try.prog 96 x) : Sh Try.prog 51 [.str a0, .sl a1] := by
  refine ⟨_, lv51, rfl, fun i l c hl hc => ?_⟩
  match i with
  | 0 => simp at hl hc; subst hl hc; exact .str _ q0
  | 1 => simp at hl hc; subst hl hc; exact ShC.sl_of lv96 q1.1 q1.2
  | i + 2 => simp at hl

theorem len51 {x : List D} (h : Sh Try.prog 51 x) : x.length = 2 := by
  obtain ⟨_, _, rfl, _⟩ := inv51 h
  rfl
theorem szc51 : ∀ (m : Nat) (x : List D), wtL x < m → Sh Try.prog 51 x → ∀ n : Int, 0 ≤ n → n ≤ 1048576 → Gives Try.prog 29 [.agg x, .int .i64 n] (.d (.int .i64 (szr n (wtL x))))
  | 0, _, hm, _ => by omega
  | m + 1, x, hm, h => by
    obtain ⟨a0, a1, rfl, q0, q1⟩ := inv51 h
    have hw : wtL [.str a0, .sl a1] = a0.length + wtR a1 := by simp only [wtL, D.wt] <;> omega
    exact fun n g0 g1 => sz29 a0 a1 q0 (fun n g0 g1 => szs22 a1 q1.1 q1.2 n g0 g1) n g0 g1
theorem toc51 : ∀ (m : Nat) (x : List D), wtL x < m → wtL x ≤ 1048576 → Sh Try.prog 51 x → Gives Try.prog 31 [.agg x] (.d (.agg x))
  | 0, _, hm, _, _ => by omega
  | m + 1, x, hm, hb, h => by
    obtain ⟨a0, a1, rfl, q0, q1⟩ := inv51 h
    have hw : wtL [.str a0, .sl a1] = a0.length + wtR a1 := by simp only [wtL, D.wt] <;> omega
    exact to31 a0 a1 (tos22 a1 (by omega) q1.2)
theorem eqc51 : ∀ (m : Nat) (x : List D), wtL x < m → Sh Try.prog 51 x → Gives Try.prog 33 [.agg x, .agg x] (.d (.bool true))
  | 0, _, hm, _ => by omega
  | m + 1, x, hm, h => by
    obtain ⟨a0, a1, rfl, q0, q1⟩ := inv51 h
    have hw : wtL [.str a0, .sl a1] = a0.length + wtR a1 := by simp only [wtL, D.wt] <;> omega
    exact eq33 a0 a1 (eqs22 a1 q1.1 q1.2)

theorem sh_Fc (x : List D) (h : Sh Try.prog 51 x) : ∃ t, x = Fc.enc t := Fc.of_sh lv51 sh_Tm x h

end Go.Proofs.Ytkmbaakiliafeaa