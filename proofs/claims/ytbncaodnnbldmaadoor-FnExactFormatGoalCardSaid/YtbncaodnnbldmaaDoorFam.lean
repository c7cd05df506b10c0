import Derived.Test.YtbncaodnnbldmaaDoorFx
namespace Go.Proofs.YtbncaodnnbldmaaDoor
open Go.Abs
set_option maxRecDepth 100000
set_option maxHeartbeats 4000000
set_option linter.unusedSimpArgs false
set_option linter.unusedVariables false
theorem lv55 : leaves Tryd.prog 6 55 = some [.int .i64, .int .i64, .str, .sl 55] := by kernel_rfl
theorem inv55 {x : List D} (h : Sh Tryd.prog 55 x) : ∃ a0 a1 a2 a3, x = [.int .i64 a0, .int .i64 a1, .str a2, .sl a3] ∧ (Lit.int .i64 a0).wf = true ∧ (Lit.int .i64 a1).wf = true ∧ a2.length ≤ maxLen ∧ (a3.length ≤ maxLen ∧ ∀ x, x ∈ a3 → Sh Tryd.prog 55 x) := by
 obtain ⟨ls, h1, h2, h3⟩ := h
 rw [lv55] at h1
 cases h1
 match x, h2, h3 with
 | [c0, c1, c2, c3], _, h3 =>
  have g0 := h3 0 _ _ rfl rfl
  have g1 := h3 1 _ _ rfl rfl
  have g2 := h3 2 _ _ rfl rfl
  have g3 := h3 3 _ _ rfl rfl
  obtain ⟨b0, rfl, q0⟩ := g0.int_inv
  obtain ⟨b1, rfl, q1⟩ := g1.int_inv
  obtain ⟨b2, rfl, q2⟩ := g2.str_inv
  obtain ⟨b3, rfl, q3⟩ := g3.elems
  exact ⟨_, _, _, _, rfl, q0, q1, q2, q3⟩
theorem sz15 (xs : List (List D)) (hm : xs.length ≤ maxLen) (hx : ∀ x, x ∈ xs → x.length = 4 ∧ ∀ n : Int, 0 ≤ n → n ≤ 1048576 → Gives Tryd.prog 27 [.agg x, .int .i64 n] (.d (.int .i64 (szr n (wtL x)))))
  (n : Int) (h0 : 0 ≤ n) (h1 : n ≤ 1048576) : Gives Tryd.prog 15 [.sl xs, .int .i64 n] (.d (.int .i64 (szr n (wtR xs)))) := by
 have hm' : (xs.length : Int) ≤ 9223372036854775807 := by simp only [maxLen] at hm; omega
 have hs := sumW_all xs
 have hs0 := sumW_le xs 0
 simp only [sumW] at hs0
 refine ACalls.enter (fn := Tryd.f15) Tryd.func15 rfl (by show 2 ≤ _; decide) ?_
 refine run_sound Tryd.func15 mixed 100 _ _ (by kernel_rfl) ?_
 simp only [go_sem, seval]
 rw [wrap_ok (by omega) (by omega)]
 refine br_intro (fun h => ?_) (fun h => ?_)
 ·simp only [decide_eq_true_eq] at h
  simp only [go_sem, seval]
  rw [szr_neg (by omega)]
 simp only [decide_eq_false_iff_not, Int.not_lt] at h
 simp only [go_sem, seval]
 refine AW.loop_ind (fun i : Nat => ⟨[(5, .d (.int .i64 i)), (0, .d (.sl xs)), (1, .d (.int .i64 (n - xs.length - sumW xs i))), (4, .d (.int .i64 0))], []⟩) (fun i => i ≤ xs.length ∧ (sumW xs i : Int) ≤ n - xs.length) (fun i => xs.length - i) 0 ⟨by omega, by simp only [sumW]; omega⟩ ?_ ?_
 ·refine Weak.of (by simp) rfl ?_
  simp [Abs.get, sumW, C.refsLtT, C.refsLt, C.refsLt1]
 ·intro i hi hnext
  obtain ⟨hi1, hi2⟩ := hi
  refine run_sound Tryd.func15 mixed 100 _ _ (by kernel_rfl) ?_
  simp only [go_sem, seval]
  refine br_intro (fun h => ?_) (fun h => ?_)
  ·simp only [decide_eq_true_eq] at h
   have hi : i < xs.length := by omega
   obtain ⟨x, hxi⟩ : ∃ x, xs[i]? = some x := ⟨_, List.getElem?_eq_getElem hi⟩
   have hsum := sumW_at hxi
   have hle := sumW_le xs (i + 1)
   obtain ⟨e1, e2⟩ := hx x (List.mem_of_getElem? hxi)
   simp only [go_sem, seval, Int.toNat_natCast, hxi, idx_of hxi, e1]
   repeat refine And.intro (by omega) ?_
   refine (e2 _ (by omega) (by omega)).calls rfl ?_
   simp only [go_sem, seval]
   refine br_intro (fun h => ?_) (fun h => ?_)
   ·simp only [decide_eq_true_eq] at h
    have hg := szr_lt h
    simp only [go_sem, seval]
    rw [szr_neg (by omega)]
   ·simp only [decide_eq_false_iff_not] at h
    have hg := szr_ge h
    rw [szr_pos hg]
    simp only [go_sem, seval]
    rw [wrap_ok (by omega) (by omega)]
    refine hnext (i + 1) _ ⟨by omega, by omega⟩ (by omega) ?_
    refine Weak.of (by simp) rfl ?_
    simp [Abs.get, C.refsLtT, C.refsLt, C.refsLt1]
    omega
  ·simp only [decide_eq_false_iff_not] at h
   have : i = xs.length := by omega
   subst this
   simp only [go_sem, seval]
   rw [szr_pos (by omega)]
   all_goals (congr 2 <;> omega)
theorem sz27 (a0 : Int) (a1 : Int) (a2 : List UInt8) (a3 : List (List D)) (h2 : a2.length ≤ maxLen) (h3 : ∀ n : Int, 0 ≤ n → n ≤ 1048576 → Gives Tryd.prog 15 [.sl a3, .int .i64 n] (.d (.int .i64 (szr n (wtR a3)))))
  (n : Int) (g0 : 0 ≤ n) (g1 : n ≤ 1048576) : Gives Tryd.prog 27 [.agg [.int .i64 a0, .int .i64 a1, .str a2, .sl a3], .int .i64 n] (.d (.int .i64 (szr n (wtL [.int .i64 a0, .int .i64 a1, .str a2, .sl a3])))) := by
 have hw : wtL [.int .i64 a0, .int .i64 a1, .str a2, .sl a3] = a2.length + wtR a3 := by simp only [wtL, D.wt] <;> omega
 simp only [maxLen] at h2
 rw [hw]
 refine ACalls.enter (fn := Tryd.f27) Tryd.func27 rfl (by show 2 ≤ _; decide) ?_
 refine run_sound Tryd.func27 mixed 100 _ _ (by kernel_rfl) ?_
 simp only [go_sem, seval]
 rw [wrap_ok (by omega) (by omega)]
 refine br_intro (fun h => ?_) (fun h => ?_)
 ·simp only [decide_eq_true_eq] at h
  simp only [go_sem, seval]
  rw [szr_neg (by omega)]
 simp only [decide_eq_false_iff_not, Int.not_lt] at h
 simp only [go_sem, seval]
 refine (h3 _ (by omega) (by omega)).calls rfl ?_
 simp only [go_sem, seval]
 refine br_intro (fun h => ?_) (fun h => ?_)
 ·simp only [decide_eq_true_eq] at h
  have hg := szr_lt h
  simp only [go_sem, seval]
  rw [szr_neg (by omega)]
 simp only [decide_eq_false_iff_not] at h
 have hg := szr_ge h
 rw [szr_pos hg]
 clear h
 simp only [go_sem, seval]
 all_goals rw [szr_pos (by omega)]
 all_goals (congr 2 <;> omega)
theorem to19 (xs : List (List D)) (hl : xs.length ≤ 1048576) (hx : ∀ x, x ∈ xs → x.length = 4 ∧ Gives Tryd.prog 33 [.agg x] (.d (.agg x))) : Gives Tryd.prog 19 [.sl xs] (.d (.sl xs)) := by
 refine ACalls.enter (fn := Tryd.f19) Tryd.func19 rfl (by show 1 ≤ _; decide) ?_
 refine run_sound Tryd.func19 mixed 100 _ _ (by kernel_rfl) ?_
 simp only [go_sem, seval, Int.toNat_natCast]
 repeat refine And.intro (by first | omega | (simp only [maxLen]; omega)) ?_
 refine AW.loop_ind (fun i : Nat => ⟨[(4, .d (.int .i64 i)), (0, .d (.sl xs)), (3, .rsl 0 xs.length), (2, .nil0)], [.row 4 60 (xs.take i ++ List.replicate (xs.length - i) [.int .i64 0, .int .i64 0, .str [], .sl []])]⟩) (fun i => i ≤ xs.length) (fun i => xs.length - i) 0 (by omega) ?_ ?_
 ·refine Weak.of (by simp) rfl ?_
  simp [Abs.get, C.refsLtT, C.refsLt, C.refsLt1]
 ·intro i hi hnext
  by_cases h : i < xs.length
  ·obtain ⟨x, hxi⟩ : ∃ x, xs[i]? = some x := ⟨_, List.getElem?_eq_getElem h⟩
   obtain ⟨e1, e2⟩ := hx x (List.mem_of_getElem? hxi)
   have hlt : ((i : Int) < (xs.length : Int)) = True := by simp; omega
   refine run_sound Tryd.func19 mixed 100 _ _ (by kernel_rfl) ?_
   simp only [go_sem, seval, Int.toNat_natCast, hlt, hxi, idx_of hxi, e1]
   repeat refine And.intro (by omega) ?_
   refine e2.calls rfl ?_
   simp only [go_sem, seval, Int.toNat_natCast, hlt, hxi, idx_of hxi, e1]
   repeat refine And.intro (by first | omega | (simp; omega) | (simp_all; done)) ?_
   rw [wrap_ok (by omega) (by omega)]
   first | rw [row_step (k := 4) hxi (by rfl)] | rw [row_step1 hxi (by rfl)]
   refine hnext (i + 1) _ (by omega) (by omega) ?_
   refine Weak.of (by simp) rfl ?_
   simp [Abs.get, C.refsLtT, C.refsLt, C.refsLt1]
  ·have hlt : ((i : Int) < (xs.length : Int)) = False := by simp; omega
   refine run_sound Tryd.func19 mixed 6 _ _ (by kernel_rfl) ?_
   simp only [go_sem, seval, Int.toNat_natCast, hlt]
   obtain rfl : i = xs.length := by omega
   rw [row_all]
   refine AW.freeze 3 0 rfl rfl rfl ?_
   refine run_sound Tryd.func19 mixed 100 _ _ (by kernel_rfl) ?_
   simp only [go_sem, seval]
theorem to33 (a0 : Int) (a1 : Int) (a2 : List UInt8) (a3 : List (List D)) (h3 : Gives Tryd.prog 19 [.sl a3] (.d (.sl a3))) : Gives Tryd.prog 33 [.agg [.int .i64 a0, .int .i64 a1, .str a2, .sl a3]] (.d (.agg [.int .i64 a0, .int .i64 a1, .str a2, .sl a3])) := by
 refine ACalls.enter (fn := Tryd.f33) Tryd.func33 rfl (by show 1 ≤ _; decide) ?_
 refine run_sound Tryd.func33 mixed 100 _ _ (by kernel_rfl) ?_
 simp only [go_sem, seval]
 refine h3.calls rfl ?_
 simp only [go_sem, seval]
theorem eq23 (xs : List (List D)) (hm : xs.length ≤ maxLen) (hx : ∀ x, x ∈ xs → x.length = 4 ∧ Gives Tryd.prog 37 [.agg x, .agg x] (.d (.bool true))) : Gives Tryd.prog 23 [.sl xs, .sl xs] (.d (.bool true)) := by
 have hm' : (xs.length : Int) ≤ 9223372036854775807 := by simp only [maxLen] at hm; omega
 refine ACalls.enter (fn := Tryd.f23) Tryd.func23 rfl (by show 2 ≤ _; decide) ?_
 refine run_sound Tryd.func23 mixed 100 _ _ (by kernel_rfl) ?_
 simp only [go_sem, seval, bne_self_eq_false]
 refine AW.loop_ind (fun i : Nat => ⟨[(5, .d (.int .i64 i)), (0, .d (.sl xs)), (1, .d (.sl xs)), (4, .d (.bool false))], []⟩) (fun i => i ≤ xs.length) (fun i => xs.length - i) 0 (by omega) ?_ ?_
 ·refine Weak.of (by simp) rfl ?_
  simp [Abs.get, C.refsLtT, C.refsLt, C.refsLt1]
 ·intro i hi hnext
  by_cases h : i < xs.length
  ·obtain ⟨x, hxi⟩ : ∃ x, xs[i]? = some x := ⟨_, List.getElem?_eq_getElem h⟩
   obtain ⟨e1, e2⟩ := hx x (List.mem_of_getElem? hxi)
   have hlt : ((i : Int) < (xs.length : Int)) = True := by simp; omega
   have h00 : (0 ≤ (i : Int)) = True := by simp
   refine run_sound Tryd.func23 mixed 100 _ _ (by kernel_rfl) ?_
   simp only [go_sem, seval, Int.toNat_natCast, hlt, hxi, idx_of hxi, e1, h00, bne_self_eq_false]
   refine e2.callQ rfl ?_
   simp only [go_sem, seval]
   rw [wrap_ok (by omega) (by omega)]
   refine hnext (i + 1) _ (by omega) (by omega) ?_
   refine Weak.of (by simp) rfl ?_
   simp [Abs.get, C.refsLtT, C.refsLt, C.refsLt1]
  ·have hlt : ((i : Int) < (xs.length : Int)) = False := by simp; omega
   refine run_sound Tryd.func23 mixed 100 _ _ (by kernel_rfl) ?_
   simp only [go_sem, seval, hlt]
theorem eq37 (a0 : Int) (a1 : Int) (a2 : List UInt8) (a3 : List (List D)) (h3 : Gives Tryd.prog 23 [.sl a3, .sl a3] (.d (.bool true))) : Gives Tryd.prog 37 [.agg [.int .i64 a0, .int .i64 a1, .str a2, .sl a3], .agg [.int .i64 a0, .int .i64 a1, .str a2, .sl a3]] (.d (.bool true)) := by
 refine ACalls.enter (fn := Tryd.f37) Tryd.func37 rfl (by show 2 ≤ _; decide) ?_
 refine run_sound Tryd.func37 mixed 100 _ _ (by kernel_rfl) ?_
 simp only [go_sem, seval, bne_self_eq_false]
 refine h3.calls rfl ?_
 simp only [go_sem, seval, bne_self_eq_false]
theorem len55 {x : List D} (h : Sh Tryd.prog 55 x) : x.length = 4 := by
 obtain ⟨_, _, _, _, rfl, _⟩ := inv55 h
 rfl
theorem szc55 : ∀ (m : Nat) (x : List D), wtL x < m → Sh Tryd.prog 55 x → ∀ n : Int, 0 ≤ n → n ≤ 1048576 → Gives Tryd.prog 27 [.agg x, .int .i64 n] (.d (.int .i64 (szr n (wtL x))))
 | 0, _, hm, _ => by omega
 | m + 1, x, hm, h => by
  obtain ⟨a0, a1, a2, a3, rfl, q0, q1, q2, q3⟩ := inv55 h
  have hw : wtL [.int .i64 a0, .int .i64 a1, .str a2, .sl a3] = a2.length + wtR a3 := by simp only [wtL, D.wt] <;> omega
  exact fun n g0 g1 => sz27 a0 a1 a2 a3 q2 (fun n g0 g1 => sz15 a3 q3.1 (fun x hx => ⟨len55 (q3.2 x hx), szc55 m x (by have := wtL_lt a3 x hx; omega) (q3.2 x hx)⟩) n g0 g1) n g0 g1
theorem toc55 : ∀ (m : Nat) (x : List D), wtL x < m → wtL x ≤ 1048576 → Sh Tryd.prog 55 x → Gives Tryd.prog 33 [.agg x] (.d (.agg x))
 | 0, _, hm, _, _ => by omega
 | m + 1, x, hm, hb, h => by
  obtain ⟨a0, a1, a2, a3, rfl, q0, q1, q2, q3⟩ := inv55 h
  have hw : wtL [.int .i64 a0, .int .i64 a1, .str a2, .sl a3] = a2.length + wtR a3 := by simp only [wtL, D.wt] <;> omega
  exact to33 a0 a1 a2 a3 (to19 a3 (by have := sumW_le a3 0; omega) (fun x hx => ⟨len55 (q3.2 x hx), toc55 m x (by have := wtL_lt a3 x hx; omega) (by have := wtL_lt a3 x hx; omega) (q3.2 x hx)⟩))
theorem eqc55 : ∀ (m : Nat) (x : List D), wtL x < m → Sh Tryd.prog 55 x → Gives Tryd.prog 37 [.agg x, .agg x] (.d (.bool true))
 | 0, _, hm, _ => by omega
 | m + 1, x, hm, h => by
  obtain ⟨a0, a1, a2, a3, rfl, q0, q1, q2, q3⟩ := inv55 h
  have hw : wtL [.int .i64 a0, .int .i64 a1, .str a2, .sl a3] = a2.length + wtR a3 := by simp only [wtL, D.wt] <;> omega
  exact eq37 a0 a1 a2 a3 (eq23 a3 q3.1 (fun x hx => ⟨len55 (q3.2 x hx), eqc55 m x (by have := wtL_lt a3 x hx; omega) (q3.2 x hx)⟩))
theorem sh_Tm (x : List D) (h : Sh Tryd.prog 55 x) : ∃ t, x = Tm.enc t := Tm.of_sh lv55 x h
theorem szs22 (xs : List (List D)) (hm : xs.length ≤ maxLen) (h : ∀ x, x ∈ xs → Sh Tryd.prog 55 x) (n : Int) (g0 : 0 ≤ n) (g1 : n ≤ 1048576) : Gives Tryd.prog 15 [.sl xs, .int .i64 n] (.d (.int .i64 (szr n (wtR xs)))) :=
 sz15 xs hm (fun x hx => ⟨len55 (h x hx), szc55 _ x (Nat.lt_succ_self _) (h x hx)⟩) n g0 g1
theorem tos22 (xs : List (List D)) (hb : wtR xs ≤ 1048576) (h : ∀ x, x ∈ xs → Sh Tryd.prog 55 x) : Gives Tryd.prog 19 [.sl xs] (.d (.sl xs)) :=
 to19 xs (by have := sumW_le xs 0; omega) (fun x hx => ⟨len55 (h x hx), toc55 _ x (Nat.lt_succ_self _) (by have := wtL_lt xs x hx; omega) (h x hx)⟩)
theorem eqs22 (xs : List (List D)) (hm : xs.length ≤ maxLen) (h : ∀ x, x ∈ xs → Sh Tryd.prog 55 x) : Gives Tryd.prog 23 [.sl xs, .sl xs] (.d (.bool true)) :=
 eq23 xs hm (fun x hx => ⟨len55 (h x hx), eqc55 _ x (Nat.lt_succ_self _) (h x hx)⟩)
theorem lv25 : leaves Tryd.prog 6 25 = some [.int .i64, .str, .sl 55, .sl 25] := by kernel_rfl
theorem inv25 {x : List D} (h : Sh Tryd.prog 25 x) : ∃ a0 a1 a2 a3, x = [.int .i64 a0, .str a1, .sl a2, .sl a3] ∧ (Lit.int .i64 a0).wf = true ∧ a1.length ≤ maxLen ∧ (a2.length ≤ maxLen ∧ ∀ x, x ∈ a2 → Sh Tryd.prog 55 x) ∧ (a3.length ≤ maxLen ∧ ∀ x, x ∈ a3 → Sh Tryd.prog 25 x) := by
 obtain ⟨ls, h1, h2, h3⟩ := h
 rw [lv25] at h1
 cases h1
 match x, h2, h3 with
 | [c0, c1, c2, c3], _, h3 =>
  have g0 := h3 0 _ _ rfl rfl
  have g1 := h3 1 _ _ rfl rfl
  have g2 := h3 2 _ _ rfl rfl
  have g3 := h3 3 _ _ rfl rfl
  obtain ⟨b0, rfl, q0⟩ := g0.int_inv
  obtain ⟨b1, rfl, q1⟩ := g1.str_inv
  obtain ⟨b2, rfl, q2⟩ := g2.elems
  obtain ⟨b3, rfl, q3⟩ := g3.elems
  exact ⟨_, _, _, _, rfl, q0, q1, q2, q3⟩
theorem sz16 (xs : List (List D)) (hm : xs.length ≤ maxLen) (hx : ∀ x, x ∈ xs → x.length = 4 ∧ ∀ n : Int, 0 ≤ n → n ≤ 1048576 → Gives Tryd.prog 5 [.agg x, .int .i64 n] (.d (.int .i64 (szr n (wtL x)))))
  (n : Int) (h0 : 0 ≤ n) (h1 : n ≤ 1048576) : Gives Tryd.prog 16 [.sl xs, .int .i64 n] (.d (.int .i64 (szr n (wtR xs)))) := by
 have hm' : (xs.length : Int) ≤ 9223372036854775807 := by simp only [maxLen] at hm; omega
 have hs := sumW_all xs
 have hs0 := sumW_le xs 0
 simp only [sumW] at hs0
 refine ACalls.enter (fn := Tryd.f16) Tryd.func16 rfl (by show 2 ≤ _; decide) ?_
 refine run_sound Tryd.func16 mixed 100 _ _ (by kernel_rfl) ?_
 simp only [go_sem, seval]
 rw [wrap_ok (by omega) (by omega)]
 refine br_intro (fun h => ?_) (fun h => ?_)
 ·simp only [decide_eq_true_eq] at h
  simp only [go_sem, seval]
  rw [szr_neg (by omega)]
 simp only [decide_eq_false_iff_not, Int.not_lt] at h
 simp only [go_sem, seval]
 refine AW.loop_ind (fun i : Nat => ⟨[(5, .d (.int .i64 i)), (0, .d (.sl xs)), (1, .d (.int .i64 (n - xs.length - sumW xs i))), (4, .d (.int .i64 0))], []⟩) (fun i => i ≤ xs.length ∧ (sumW xs i : Int) ≤ n - xs.length) (fun i => xs.length - i) 0 ⟨by omega, by simp only [sumW]; omega⟩ ?_ ?_
 ·refine Weak.of (by simp) rfl ?_
  simp [Abs.get, sumW, C.refsLtT, C.refsLt, C.refsLt1]
 ·intro i hi hnext
  obtain ⟨hi1, hi2⟩ := hi
  refine run_sound Tryd.func16 mixed 100 _ _ (by kernel_rfl) ?_
  simp only [go_sem, seval]
  refine br_intro (fun h => ?_) (fun h => ?_)
  ·simp only [decide_eq_true_eq] at h
   have hi : i < xs.length := by omega
   obtain ⟨x, hxi⟩ : ∃ x, xs[i]? = some x := ⟨_, List.getElem?_eq_getElem hi⟩
   have hsum := sumW_at hxi
   have hle := sumW_le xs (i + 1)
   obtain ⟨e1, e2⟩ := hx x (List.mem_of_getElem? hxi)
   simp only [go_sem, seval, Int.toNat_natCast, hxi, idx_of hxi, e1]
   repeat refine And.intro (by omega) ?_
   refine (e2 _ (by omega) (by omega)).calls rfl ?_
   simp only [go_sem, seval]
   refine br_intro (fun h => ?_) (fun h => ?_)
   ·simp only [decide_eq_true_eq] at h
    have hg := szr_lt h
    simp only [go_sem, seval]
    rw [szr_neg (by omega)]
   ·simp only [decide_eq_false_iff_not] at h
    have hg := szr_ge h
    rw [szr_pos hg]
    simp only [go_sem, seval]
    rw [wrap_ok (by omega) (by omega)]
    refine hnext (i + 1) _ ⟨by omega, by omega⟩ (by omega) ?_
    refine Weak.of (by simp) rfl ?_
    simp [Abs.get, C.refsLtT, C.refsLt, C.refsLt1]
    omega
  ·simp only [decide_eq_false_iff_not] at h
   have : i = xs.length := by omega
   subst this
   simp only [go_sem, seval]
   rw [szr_pos (by omega)]
   all_goals (congr 2 <;> omega)
theorem sz5 (a0 : Int) (a1 : List UInt8) (a2 : List (List D)) (a3 : List (List D)) (h1 : a1.length ≤ maxLen) (h2 : ∀ n : Int, 0 ≤ n → n ≤ 1048576 → Gives Tryd.prog 15 [.sl a2, .int .i64 n] (.d (.int .i64 (szr n (wtR a2))))) (h3 : ∀ n : Int, 0 ≤ n → n ≤ 1048576 → Gives Tryd.prog 16 [.sl a3, .int .i64 n] (.d (.int .i64 (szr n (wtR a3)))))
  (n : Int) (g0 : 0 ≤ n) (g1 : n ≤ 1048576) : Gives Tryd.prog 5 [.agg [.int .i64 a0, .str a1, .sl a2, .sl a3], .int .i64 n] (.d (.int .i64 (szr n (wtL [.int .i64 a0, .str a1, .sl a2, .sl a3])))) := by
 have hw : wtL [.int .i64 a0, .str a1, .sl a2, .sl a3] = a1.length + wtR a2 + wtR a3 := by simp only [wtL, D.wt] <;> omega
 simp only [maxLen] at h1
 rw [hw]
 refine ACalls.enter (fn := Tryd.f5) Tryd.func5 rfl (by show 2 ≤ _; decide) ?_
 refine run_sound Tryd.func5 mixed 100 _ _ (by kernel_rfl) ?_
 simp only [go_sem, seval]
 rw [wrap_ok (by omega) (by omega)]
 refine br_intro (fun h => ?_) (fun h => ?_)
 ·simp only [decide_eq_true_eq] at h
  simp only [go_sem, seval]
  rw [szr_neg (by omega)]
 simp only [decide_eq_false_iff_not, Int.not_lt] at h
 simp only [go_sem, seval]
 refine (h2 _ (by omega) (by omega)).calls rfl ?_
 simp only [go_sem, seval]
 refine br_intro (fun h => ?_) (fun h => ?_)
 ·simp only [decide_eq_true_eq] at h
  have hg := szr_lt h
  simp only [go_sem, seval]
  rw [szr_neg (by omega)]
 simp only [decide_eq_false_iff_not] at h
 have hg := szr_ge h
 rw [szr_pos hg]
 clear h
 simp only [go_sem, seval]
 refine (h3 _ (by omega) (by omega)).calls rfl ?_
 simp only [go_sem, seval]
 refine br_intro (fun h => ?_) (fun h => ?_)
 ·simp only [decide_eq_true_eq] at h
  have hg := szr_lt h
  simp only [go_sem, seval]
  rw [szr_neg (by omega)]
 simp only [decide_eq_false_iff_not] at h
 have hg := szr_ge h
 rw [szr_pos hg]
 clear h
 simp only [go_sem, seval]
 all_goals rw [szr_pos (by omega)]
 all_goals (congr 2 <;> omega)
theorem to20 (xs : List (List D)) (hl : xs.length ≤ 1048576) (hx : ∀ x, x ∈ xs → x.length = 4 ∧ Gives Tryd.prog 7 [.agg x] (.d (.agg x))) : Gives Tryd.prog 20 [.sl xs] (.d (.sl xs)) := by
 refine ACalls.enter (fn := Tryd.f20) Tryd.func20 rfl (by show 1 ≤ _; decide) ?_
 refine run_sound Tryd.func20 mixed 100 _ _ (by kernel_rfl) ?_
 simp only [go_sem, seval, Int.toNat_natCast]
 repeat refine And.intro (by first | omega | (simp only [maxLen]; omega)) ?_
 refine AW.loop_ind (fun i : Nat => ⟨[(4, .d (.int .i64 i)), (0, .d (.sl xs)), (3, .rsl 0 xs.length), (2, .nil0)], [.row 4 31 (xs.take i ++ List.replicate (xs.length - i) [.int .i64 0, .str [], .sl [], .sl []])]⟩) (fun i => i ≤ xs.length) (fun i => xs.length - i) 0 (by omega) ?_ ?_
 ·refine Weak.of (by simp) rfl ?_
  simp [Abs.get, C.refsLtT, C.refsLt, C.refsLt1]
 ·intro i hi hnext
  by_cases h : i < xs.length
  ·obtain ⟨x, hxi⟩ : ∃ x, xs[i]? = some x := ⟨_, List.getElem?_eq_getElem h⟩
   obtain ⟨e1, e2⟩ := hx x (List.mem_of_getElem? hxi)
   have hlt : ((i : Int) < (xs.length : Int)) = True := by simp; omega
   refine run_sound Tryd.func20 mixed 100 _ _ (by kernel_rfl) ?_
   simp only [go_sem, seval, Int.toNat_natCast, hlt, hxi, idx_of hxi, e1]
   repeat refine And.intro (by omega) ?_
   refine e2.calls rfl ?_
   simp only [go_sem, seval, Int.toNat_natCast, hlt, hxi, idx_of hxi, e1]
   repeat refine And.intro (by first | omega | (simp; omega) | (simp_all; done)) ?_
   rw [wrap_ok (by omega) (by omega)]
   first | rw [row_step (k := 4) hxi (by rfl)] | rw [row_step1 hxi (by rfl)]
   refine hnext (i + 1) _ (by omega) (by omega) ?_
   refine Weak.of (by simp) rfl ?_
   simp [Abs.get, C.refsLtT, C.refsLt, C.refsLt1]
  ·have hlt : ((i : Int) < (xs.length : Int)) = False := by simp; omega
   refine run_sound Tryd.func20 mixed 6 _ _ (by kernel_rfl) ?_
   simp only [go_sem, seval, Int.toNat_natCast, hlt]
   obtain rfl : i = xs.length := by omega
   rw [row_all]
   refine AW.freeze 3 0 rfl rfl rfl ?_
   refine run_sound Tryd.func20 mixed 100 _ _ (by kernel_rfl) ?_
   simp only [go_sem, seval]
theorem to7 (a0 : Int) (a1 : List UInt8) (a2 : List (List D)) (a3 : List (List D)) (h2 : Gives Tryd.prog 19 [.sl a2] (.d (.sl a2))) (h3 : Gives Tryd.prog 20 [.sl a3] (.d (.sl a3))) : Gives Tryd.prog 7 [.agg [.int .i64 a0, .str a1, .sl a2, .sl a3]] (.d (.agg [.int .i64 a0, .str a1, .sl a2, .sl a3])) := by
 refine ACalls.enter (fn := Tryd.f7) Tryd.func7 rfl (by show 1 ≤ _; decide) ?_
 refine run_sound Tryd.func7 mixed 100 _ _ (by kernel_rfl) ?_
 simp only [go_sem, seval]
 refine h2.calls rfl ?_
 simp only [go_sem, seval]
 refine h3.calls rfl ?_
 simp only [go_sem, seval]
theorem eq24 (xs : List (List D)) (hm : xs.length ≤ maxLen) (hx : ∀ x, x ∈ xs → x.length = 4 ∧ Gives Tryd.prog 9 [.agg x, .agg x] (.d (.bool true))) : Gives Tryd.prog 24 [.sl xs, .sl xs] (.d (.bool true)) := by
 have hm' : (xs.length : Int) ≤ 9223372036854775807 := by simp only [maxLen] at hm; omega
 refine ACalls.enter (fn := Tryd.f24) Tryd.func24 rfl (by show 2 ≤ _; decide) ?_
 refine run_sound Tryd.func24 mixed 100 _ _ (by kernel_rfl) ?_
 simp only [go_sem, seval, bne_self_eq_false]
 refine AW.loop_ind (fun i : Nat => ⟨[(5, .d (.int .i64 i)), (0, .d (.sl xs)), (1, .d (.sl xs)), (4, .d (.bool false))], []⟩) (fun i => i ≤ xs.length) (fun i => xs.length - i) 0 (by omega) ?_ ?_
 ·refine Weak.of (by simp) rfl ?_
  simp [Abs.get, C.refsLtT, C.refsLt, C.refsLt1]
 ·intro i hi hnext
  by_cases h : i < xs.length
  ·obtain ⟨x, hxi⟩ : ∃ x, xs[i]? = some x := ⟨_, List.getElem?_eq_getElem h⟩
   obtain ⟨e1, e2⟩ := hx x (List.mem_of_getElem? hxi)
   have hlt : ((i : Int) < (xs.length : Int)) = True := by simp; omega
   have h00 : (0 ≤ (i : Int)) = True := by simp
   refine run_sound Tryd.func24 mixed 100 _ _ (by kernel_rfl) ?_
   simp only [go_sem, seval, Int.toNat_natCast, hlt, hxi, idx_of hxi, e1, h00, bne_self_eq_false]
   refine e2.callQ rfl ?_
   simp only [go_sem, seval]
   rw [wrap_ok (by omega) (by omega)]
   refine hnext (i + 1) _ (by omega) (by omega) ?_
   refine Weak.of (by simp) rfl ?_
   simp [Abs.get, C.refsLtT, C.refsLt, C.refsLt1]
  ·have hlt : ((i : Int) < (xs.length : Int)) = False := by simp; omega
   refine run_sound Tryd.func24 mixed 100 _ _ (by kernel_rfl) ?_
   simp only [go_sem, seval, hlt]
theorem eq9 (a0 : Int) (a1 : List UInt8) (a2 : List (List D)) (a3 : List (List D)) (h2 : Gives Tryd.prog 23 [.sl a2, .sl a2] (.d (.bool true))) (h3 : Gives Tryd.prog 24 [.sl a3, .sl a3] (.d (.bool true))) : Gives Tryd.prog 9 [.agg [.int .i64 a0, .str a1, .sl a2, .sl a3], .agg [.int .i64 a0, .str a1, .sl a2, .sl a3]] (.d (.bool true)) := by
 refine ACalls.enter (fn := Tryd.f9) Tryd.func9 rfl (by show 2 ≤ _; decide) ?_
 refine run_sound Tryd.func9 mixed 100 _ _ (by kernel_rfl) ?_
 simp only [go_sem, seval, bne_self_eq_false]
 refine h2.calls rfl ?_
 simp only [go_sem, seval, bne_self_eq_false]
 refine h3.calls rfl ?_
 simp only [go_sem, seval, bne_self_eq_false]
theorem len25 {x : List D} (h : Sh Tryd.prog 25 x) : x.length = 4 := by
 obtain ⟨_, _, _, _, rfl, _⟩ := inv25 h
 rfl
theorem szc25 : ∀ (m : Nat) (x : List D), wtL x < m → Sh Tryd.prog 25 x → ∀ n : Int, 0 ≤ n → n ≤ 1048576 → Gives Tryd.prog 5 [.agg x, .int .i64 n] (.d (.int .i64 (szr n (wtL x))))
 | 0, _, hm, _ => by omega
 | m + 1, x, hm, h => by
  obtain ⟨a0, a1, a2, a3, rfl, q0, q1, q2, q3⟩ := inv25 h
  have hw : wtL [.int .i64 a0, .str a1, .sl a2, .sl a3] = a1.length + wtR a2 + wtR a3 := by simp only [wtL, D.wt] <;> omega
  exact fun n g0 g1 => sz5 a0 a1 a2 a3 q1 (fun n g0 g1 => szs22 a2 q2.1 q2.2 n g0 g1) (fun n g0 g1 => sz16 a3 q3.1 (fun x hx => ⟨len25 (q3.2 x hx), szc25 m x (by have := wtL_lt a3 x hx; omega) (q3.2 x hx)⟩) n g0 g1) n g0 g1
theorem toc25 : ∀ (m : Nat) (x : List D), wtL x < m → wtL x ≤ 1048576 → Sh Tryd.prog 25 x → Gives Tryd.prog 7 [.agg x] (.d (.agg x))
 | 0, _, hm, _, _ => by omega
 | m + 1, x, hm, hb, h => by
  obtain ⟨a0, a1, a2, a3, rfl, q0, q1, q2, q3⟩ := inv25 h
  have hw : wtL [.int .i64 a0, .str a1, .sl a2, .sl a3] = a1.length + wtR a2 + wtR a3 := by simp only [wtL, D.wt] <;> omega
  exact to7 a0 a1 a2 a3 (tos22 a2 (by omega) q2.2) (to20 a3 (by have := sumW_le a3 0; omega) (fun x hx => ⟨len25 (q3.2 x hx), toc25 m x (by have := wtL_lt a3 x hx; omega) (by have := wtL_lt a3 x hx; omega) (q3.2 x hx)⟩))
theorem eqc25 : ∀ (m : Nat) (x : List D), wtL x < m → Sh Tryd.prog 25 x → Gives Tryd.prog 9 [.agg x, .agg x] (.d (.bool true))
 | 0, _, hm, _ => by omega
 | m + 1, x, hm, h => by
  obtain ⟨a0, a1, a2, a3, rfl, q0, q1, q2, q3⟩ := inv25 h
  have hw : wtL [.int .i64 a0, .str a1, .sl a2, .sl a3] = a1.length + wtR a2 + wtR a3 := by simp only [wtL, D.wt] <;> omega
  exact eq9 a0 a1 a2 a3 (eqs22 a2 q2.1 q2.2) (eq24 a3 q3.1 (fun x hx => ⟨len25 (q3.2 x hx), eqc25 m x (by have := wtL_lt a3 x hx; omega) (q3.2 x hx)⟩))
theorem sh_Gl (x : List D) (h : Sh Tryd.prog 25 x) : ∃ t, x = Gl.enc t := Gl.of_sh lv25 sh_Tm x h
end Go.Proofs.YtbncaodnnbldmaaDoor
