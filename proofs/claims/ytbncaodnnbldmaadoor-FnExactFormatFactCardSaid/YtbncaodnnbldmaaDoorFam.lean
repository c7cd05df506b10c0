import Derived.Test.YtbncaodnnbldmaaDoorFx
namespace Go.Proofs.YtbncaodnnbldmaaDoor
open Go.Abs
set_option maxRecDepth 100000
set_option maxHeartbeats 4000000
set_option linter.unusedSimpArgs false
set_option linter.unusedVariables false
theorem lv55 : leaves Tryd.prog 6 55 = some [.int .i64, .int .i64, .str, .sl 55] := by kernel_rfl
theorem inv55 {x : List D} (h : Sh Tryd.prog 55 x) : ∃ a0 a1 a2 a3, x = [.int .i64 a0, .int .i64 a1, .str a2, .sl a3] ∧ (Lit.int .i64 a0).wf = true ∧ (Lit.int .i64 a1).wf = true ∧ a2.length ≤ maxLen ∧ (a3.length ≤ maxLen ∧ ∀ x, x ∈ a3 → Sh Tryd.prog 55 x) := by
 obtain ⟨ls, h1, h2, h3⟩ := h
 rw [lv55] at h1
 cases h1
 match x, h2, h3 with
 | [c0, c1, c2, c3], _, h3 =>
  have g0 := h3 0 _ _ rfl rfl
  have g1 := h3 1 _ _ rfl rfl
  have g2 := h3 2 _ _ rfl rfl
  have g3 := h3 3 _ _ rfl rfl
  obtain ⟨b0, rfl, q0⟩ := g0.int_inv
  obtain ⟨b1, rfl, q1⟩ := g1.int_inv
  obtain ⟨b2, rfl, q2⟩ := g2.str_inv
  obtain ⟨b3, rfl, q3⟩ := g3.elems
  exact ⟨_, _, _, _, rfl, q0, q1, q2, q3⟩
theorem sz15 (xs : List (List D)) (hm : xs.length ≤ maxLen) (hx : ∀ x, x ∈ xs → x.length = 4 ∧ ∀ n : Int, 0 ≤ n → n ≤ 1048576 → Gives Tryd.prog 27 [.agg x, .int .i64 n] (.d (.int .i64 (szr n (wtL x)))))
  (n : Int) (h0 : 0 ≤ n) (h1 : n ≤ 1048576) : Gives Tryd.prog 15 [.sl xs, .int .i64 n] (.d (.int .i64 (szr n (wtR xs)))) := by
 have hm' : (xs.length : Int) ≤ 9223372036854775807 := by simp only [maxLen] at hm; omega
 have hs := sumW_all xs
 have hs0 := sumW_le xs 0
 simp only [sumW] at hs0
 refine ACalls.enter (fn := Tryd.f15) Tryd.func15 rfl (by show 2 ≤ _; decide) ?_
 refine run_sound Tryd.func15 mixed 100 _ _ (by kernel_rfl) ?_
 simp only [go_sem, seval]
 rw [wrap_ok (by omega) (by omega)]
 refine br_intro (fun h => ?_) (fun h => ?_)
 ·simp only [decide_eq_true_eq] at h
  simp only [go_sem, seval]
  rw [szr_neg (by omega)]
 simp only [decide_eq_false_iff_not, Int.not_lt] at h
 simp only [go_sem, seval]
 refine AW.loop_ind (fun i : Nat => ⟨[(5, .d (.int .i64 i)), (0, .d (.sl xs)), (1, .d (.int .i64 (n - xs.length - sumW xs i))), (4, .d (.int .i64 0))], []⟩) (fun i => i ≤ xs.length ∧ (sumW xs i : Int) ≤ n - xs.length) (fun i => xs.length - i) 0 ⟨by omega, by simp only [sumW]; omega⟩ ?_ ?_
 ·refine Weak.of (by simp) rfl ?_
  simp [Abs.get, sumW, C.refsLtT, C.refsLt, C.refsLt1]
 ·intro i hi hnext
  obtain ⟨hi1, hi2⟩ := hi
  refine run_sound Tryd.func15 mixed 100 _ _ (by kernel_rfl) ?_
  simp only [go_sem, seval]
  refine br_intro (fun h => ?_) (fun h => ?_)
  ·simp only [decide_eq_true_eq] at h
   have hi : i < xs.length := by omega
   obtain ⟨x, hxi⟩ : ∃ x, xs[i]? = some x := ⟨_, List.getElem?_eq_getElem hi⟩
   have hsum := sumW_at hxi
   have hle := sumW_le xs (i + 1)
   obtain ⟨e1, e2⟩ := hx x (List.mem_of_getElem? hxi)
   simp only [go_sem, seval, Int.toNat_natCast, hxi, idx_of hxi, e1]
   repeat refine And.intro (by omega) ?_
   refine (e2 _ (by omega) (by omega)).calls rfl ?_
   simp only [go_sem, seval]
   refine br_intro (fun h => ?_) (fun h => ?_)
   ·simp only [decide_eq_true_eq] at h
    have hg := szr_lt h
    simp only [go_sem, seval]
    rw [szr_neg (by omega)]
   ·simp only [decide_eq_false_iff_not] at h
    have hg := szr_ge h
    rw [szr_pos hg]
    simp only [go_sem, seval]
    rw [wrap_ok (by omega) (by omega)]
    refine hnext (i + 1) _ ⟨by omega, by omega⟩ (by omega) ?_
    refine Weak.of (by simp) rfl ?_
    simp [Abs.get, C.refsLtT, C.refsLt, C.refsLt1]
    omega
  ·simp only [decide_eq_false_iff_not] at h
   have : i = xs.length := by omega
   subst this
   simp only [go_sem, seval]
   rw [szr_pos (by omega)]
   all_goals (congr 2 <;> omega)
theorem sz27 (a0 : Int) (a1 : Int) (a2 : List UInt8) (a3 : List (List D)) (h2 : a2.length ≤ maxLen) (h3 : ∀ n : Int, 0 ≤ n → n ≤ 1048576 → Gives Tryd.prog 15 [.sl a3, .int .i64 n] (.d (.int .i64 (szr n (wtR a3)))))
  (n : Int) (g0 : 0 ≤ n) (g1 : n ≤ 1048576) : Gives Tryd.prog 27 [.agg [.int .i64 a0, .int .i64 a1, .str a2, .sl a3], .int .i64 n] (.d (.int .i64 (szr n (wtL [.int .i64 a0, .int .i64 a1, .str a2, .sl a3])))) := by
 have hw : wtL [.int .i64 a0, .int .i64 a1, .str a2, .sl a3] = a2.length + wtR a3 := by simp only [wtL, D.wt] <;> omega
 simp only [maxLen] at h2
 rw [hw]
 refine ACalls.enter (fn := Tryd.f27) Tryd.func27 rfl (by show 2 ≤ _; decide) ?_
 refine run_sound Tryd.func27 mixed 100 _ _ (by kernel_rfl) ?_
 simp only [go_sem, seval]
 rw [wrap_ok (by omega) (by omega)]
 refine br_intro (fun h => ?_) (fun h => ?_)
 ·simp only [decide_eq_true_eq] at h
  simp only [go_sem, seval]
  rw [szr_neg (by omega)]
 simp only [decide_eq_false_iff_not, Int.not_lt] at h
 simp only [go_sem, seval]
 refine (h3 _ (by omega) (by omega)).calls rfl ?_
 simp only [go_sem, seval]
 refine br_intro (fun h => ?_) (fun h => ?_)
 ·simp only [decide_eq_true_eq] at h
  have hg := szr_lt h
  simp only [go_sem, seval]
  rw [szr_neg (by omega)]
 simp only [decide_eq_false_iff_not] at h
 have hg := szr_ge h
 rw [szr_pos hg]
 clear h
 simp only [go_sem, seval]
 all_goals rw [szr_pos (by omega)]
 all_goals (congr 2 <;> omega)
theorem to19 (xs : List (List D)) (hl : xs.length ≤ 1048576) (hx : ∀ x, x ∈ xs → x.length = 4 ∧ Gives Tryd.prog 33 [.agg x] (.d (.agg x))) : Gives Tryd.prog 19 [.sl xs] (.d (.sl xs)) := by
 refine ACalls.enter (fn := Tryd.f19) Tryd.func19 rfl (by show 1 ≤ _; decide) ?_
 refine run_sound Tryd.func19 mixed 100 _ _ (by kernel_rfl) ?_
 simp only [go_sem, seval, Int.toNat_natCast]
 repeat refine And.intro (by first | omega | (simp only [maxLen]; omega)) ?_
 refine AW.loop_ind (fun i : Nat => ⟨[(4, .d (.int .i64 i)), (0, .d (.sl xs)), (3, .rsl 0 xs.length), (2, .nil0)], [.row 4 60 (xs.take i ++ List.replicate (xs.length - i) [.int .i64 0, .int .i64 0, .str [], .sl []])]⟩) (fun i => i ≤ xs.length) (fun i => xs.length - i) 0 (by omega) ?_ ?_
 ·refine Weak.of (by simp) rfl ?_
  simp [Abs.get, C.refsLtT, C.refsLt, C.refsLt1]
 ·intro i hi hnext
  by_cases h : i < xs.length
  ·obtain ⟨x, hxi⟩ : ∃ x, xs[i]? = some x := ⟨_, List.getElem?_eq_getElem h⟩
   obtain ⟨e1, e2⟩ := hx x (List.mem_of_getElem? hxi)
   have hlt : ((i : Int) < (xs.length : Int)) = True := by simp; omega
   refine run_sound Tryd.func19 mixed 100 _ _ (by kernel_rfl) ?_
   simp only [go_sem, seval, Int.toNat_natCast, hlt, hxi, idx_of hxi, e1]
   repeat refine And.intro (by omega) ?_
   refine e2.calls rfl ?_
   simp only [go_sem, seval, Int.toNat_natCast, hlt, hxi, idx_of hxi, e1]
   repeat refine And.intro (by first | omega | (simp; omega) | (simp_all; done)) ?_
   rw [wrap_ok (by omega) (by omega)]
   first | rw [row_step (k := 4) hxi (by rfl)] | rw [row_step1 hxi (by rfl)]
   refine hnext (i + 1) _ (by omega) (by omega) ?_
   refine Weak.of (by simp) rfl ?_
   simp [Abs.get, C.refsLtT, C.refsLt, C.refsLt1]
  ·have hlt : ((i : Int) < (xs.length : Int)) = False := by simp; omega
   refine run_sound Tryd.func19 mixed 6 _ _ (by kernel_rfl) ?_
   simp only [go_sem, seval, Int.toNat_natCast, hlt]
   obtain rfl : i = xs.length := by omega
   rw [row_all]
   refine AW.freeze 3 0 rfl rfl rfl ?_
   refine run_sound Tryd.func19 mixed 100 _ _ (by kernel_rfl) ?_
   simp only [go_sem, seval]
theorem to33 (a0 : Int) (a1 : Int) (a2 : List UInt8) (a3 : List (List D)) (h3 : Gives Tryd.prog 19 [.sl a3] (.d (.sl a3))) : Gives Tryd.prog 33 [.agg [.int .i64 a0, .int .i64 a1, .str a2, .sl a3]] (.d (.agg [.int .i64 a0, .int .i64 a1, .str a2, .sl a3])) := by
 refine ACalls.enter (fn := Tryd.f33) Tryd.func33 rfl (by show 1 ≤ _; decide) ?_
 refine run_sound Tryd.func33 mixed 100 _ _ (by kernel_rfl) ?_
 simp only [go_sem, seval]
 refine h3.calls rfl ?_
 simp only [go_sem, seval]
theorem eq23 (xs : List (List D)) (hm : xs.length ≤ maxLen) (hx : ∀ x, x ∈ xs → x.length = 4 ∧ Gives Tryd.prog 37 [.agg x, .agg x] (.d (.bool true))) : Gives Tryd.prog 23 [.sl xs, .sl xs] (.d (.bool true)) := by
 have hm' : (xs.length : Int) ≤ 9223372036854775807 := by simp only [maxLen] at hm; omega
 refine ACalls.enter (fn := Tryd.f23) Tryd.func23 rfl (by show 2 ≤ _; decide) ?_
 refine run_sound Tryd.func23 mixed 100 _ _ (by kernel_rfl) ?_
 simp only [go_sem, seval, bne_self_eq_false]
 refine AW.loop_ind (fun i : Nat => ⟨[(5, .d (.int .i64 i)), (0, .d (.sl xs)), (1, .d (.sl xs)), (4, .d (.bool false))], []⟩) (fun i => i ≤ xs.length) (fun i => xs.length - i) 0 (by omega) ?_ ?_
 ·refine Weak.of (by simp) rfl ?_
  simp [Abs.get, C.refsLtT, C.refsLt, C.refsLt1]
 ·intro i hi hnext
  by_cases h : i < xs.length
  ·obtain ⟨x, hxi⟩ : ∃ x, xs[i]? = some x := ⟨_, List.getElem?_eq_getElem h⟩
   obtain ⟨e1, e2⟩ := hx x (List.mem_of_getElem? hxi)
   have hlt : ((i : Int) < (xs.length : Int)) = True := by simp; omega
   have h00 : (0 ≤ (i : Int)) = True := by simp
   refine run_sound Tryd.func23 mixed 100 _ _ (by kernel_rfl) ?_
   simp only [go_sem, seval, Int.toNat_natCast, hlt, hxi, idx_of hxi, e1, h00, bne_self_eq_false]
   refine e2.callQ rfl ?_
   simp only [go_sem, seval]
   rw [wrap_ok (by omega) (by omega)]
   refine hnext (i + 1) _ (by omega) (by omega) ?_
   refine Weak.of (by simp) rfl ?_
   simp [Abs.get, C.refsLtT, C.refsLt, C.refsLt1]
  ·have hlt : ((i : Int) < (xs.length : Int)) = False := by simp; omega
   refine run_sound Tryd.func23 mixed 100 _ _ (by kernel_rfl) ?_
   simp only [go_sem, seval, hlt]
theorem eq37 (a0 : Int) (a1 : Int) (a2 : List UInt8) (a3 : List (List D)) (h3 : Gives Tryd.prog 23 [.sl a3, .sl a3] (.d (.bool true))) : Gives Tryd.prog 37 [.agg [.int .i64 a0, .int .i64 a1, .str a2, .sl a3], .agg [.int .i64 a0, .int .i64 a1, .str a2, .sl a3]] (.d (.bool true)) := by
 refine ACalls.enter (fn := Tryd.f37) Tryd.func37 rfl (by show 2 ≤ _; decide) ?_
 refine run_sound Tryd.func37 mixed 100 _ _ (by kernel_rfl) ?_
 simp only [go_sem, seval, bne_self_eq_false]
 refine h3.calls rfl ?_
 simp only [go_sem, seval, bne_self_eq_false]
theorem len55 {x : List D} (h : Sh Tryd.prog 55 x) : x.length = 4 := by
 obtain ⟨_, _, _, _, rfl, _⟩ := inv55 h
 rfl
theorem szc55 : ∀ (m : Nat) (x : List D), wtL x < m → Sh Tryd.prog 55 x → ∀ n : Int, 0 ≤ n → n ≤ 1048576 → Gives Tryd.prog 27 [.agg x, .int .i64 n] (.d (.int .i64 (szr n (wtL x))))
 | 0, _, hm, _ => by omega
 | m + 1, x, hm, h => by
  obtain ⟨a0, a1, a2, a3, rfl, q0, q1, q2, q3⟩ := inv55 h
  have hw : wtL [.int .i64 a0, .int .i64 a1, .str a2, .sl a3] = a2.length + wtR a3 := by simp only [wtL, D.wt] <;> omega
  exact fun n g0 g1 => sz27 a0 a1 a2 a3 q2 (fun n g0 g1 => sz15 a3 q3.1 (fun x hx => ⟨len55 (q3.2 x hx), szc55 m x (by have := wtL_lt a3 x hx; omega) (q3.2 x hx)⟩) n g0 g1) n g0 g1
theorem toc55 : ∀ (m : Nat) (x : List D), wtL x < m → wtL x ≤ 1048576 → Sh Tryd.prog 55 x → Gives Tryd.prog 33 [.agg x] (.d (.agg x))
 | 0, _, hm, _, _ => by omega
 | m + 1, x, hm, hb, h => by
  obtain ⟨a0, a1, a2, a3, rfl, q0, q1, q2, q3⟩ := inv55 h
  have hw : wtL [.int .i64 a0, .int .i64 a1, .str a2, .sl a3] = a2.length + wtR a3 := by simp only [wtL, D.wt] <;> omega
  exact to33 a0 a1 a2 a3 (to19 a3 (by have := sumW_le a3 0; omega) (fun x hx => ⟨len55 (q3.2 x hx), toc55 m x (by have := wtL_lt a3 x hx; omega) (by have := wtL_lt a3 x hx; omega) (q3.2 x hx)⟩))
theorem eqc55 : ∀ (m : Nat) (x : List D), wtL x < m → Sh Tryd.prog 55 x → Gives Tryd.prog 37 [.agg x, .agg x] (.d (.bool true))
 | 0, _, hm, _ => by omega
 | m + 1, x, hm, h => by
  obtain ⟨a0, a1, a2, a3, rfl, q0, q1, q2, q3⟩ := inv55 h
  have hw : wtL [.int .i64 a0, .int .i64 a1, .str a2, .sl a3] = a2.length + wtR a3 := by simp only [wtL, D.wt] <;> omega
  exact eq37 a0 a1 a2 a3 (eq23 a3 q3.1 (fun x hx => ⟨len55 (q3.2 x hx), eqc55 m x (by have := wtL_lt a3 x hx; omega) (q3.2 x hx)⟩))
theorem sh_Tm (x : List D) (h : Sh Tryd.prog 55 x) : ∃ t, x = Tm.enc t := Tm.of_sh lv55 x h
theorem szs22 (xs : List (List D)) (hm : xs.length ≤ maxLen) (h : ∀ x, x ∈ xs → Sh Tryd.prog 55 x) (n : Int) (g0 : 0 ≤ n) (g1 : n ≤ 1048576) : Gives Tryd.prog 15 [.sl xs, .int .i64 n] (.d (.int .i64 (szr n (wtR xs)))) :=
 sz15 xs hm (fun x hx => ⟨len55 (h x hx), szc55 _ x (Nat.lt_succ_self _) (h x hx)⟩) n g0 g1
theorem tos22 (xs : List (List D)) (hb : wtR xs ≤ 1048576) (h : ∀ x, x ∈ xs → Sh Tryd.prog 55 x) : Gives Tryd.prog 19 [.sl xs] (.d (.sl xs)) :=
 to19 xs (by have := sumW_le xs 0; omega) (fun x hx => ⟨len55 (h x hx), toc55 _ x (Nat.lt_succ_self _) (by have := wtL_lt xs x hx; omega) (h x hx)⟩)
theorem eqs22 (xs : List (List D)) (hm : xs.length ≤ maxLen) (h : ∀ x, x ∈ xs → Sh Tryd.prog 55 x) : Gives Tryd.prog 23 [.sl xs, .sl xs] (.d (.bool true)) :=
 eq23 xs hm (fun x hx => ⟨len55 (h x hx), eqc55 _ x (Nat.lt_succ_self _) (h x hx)⟩)
theorem lv36 : leaves Tryd.prog 6 36 = some [.str, .sl 55] := by kernel_rfl
theorem inv36 {x : List D} (h : Sh Tryd.prog 36 x) : ∃ a0 a1, x = [.str a0, .sl a1] ∧ a0.length ≤ maxLen ∧ (a1.length ≤ maxLen ∧ ∀ x, x ∈ a1 → Sh Tryd.prog 55 x) := by
 obtain ⟨ls, h1, h2, h3⟩ := h
 rw [lv36] at h1
 cases h1
 match x, h2, h3 with
 | [c0, c1], _, h3 =>
  have g0 := h3 0 _ _ rfl rfl
  have g1 := h3 1 _ _ rfl rfl
  obtain ⟨b0, rfl, q0⟩ := g0.str_inv
  obtain ⟨b1, rfl, q1⟩ := g1.elems
  exact ⟨_, _, rfl, q0, q1⟩
theorem sz10 (a0 : List UInt8) (a1 : List (List D)) (h0 : a0.length ≤ maxLen) (h1 : ∀ n : Int, 0 ≤ n → n ≤ 1048576 → Gives Tryd.prog 15 [.sl a1, .int .i64 n] (.d (.int .i64 (szr n (wtR a1)))))
  (n : Int) (g0 : 0 ≤ n) (g1 : n ≤ 1048576) : Gives Tryd.prog 10 [.agg [.str a0, .sl a1], .int .i64 n] (.d (.int .i64 (szr n (wtL [.str a0, .sl a1])))) := by
 have hw : wtL [.str a0, .sl a1] = a0.length + wtR a1 := by simp only [wtL, D.wt] <;> omega
 simp only [maxLen] at h0
 rw [hw]
 refine ACalls.enter (fn := Tryd.f10) Tryd.func10 rfl (by show 2 ≤ _; decide) ?_
 refine run_sound Tryd.func10 mixed 100 _ _ (by kernel_rfl) ?_
 simp only [go_sem, seval]
 rw [wrap_ok (by omega) (by omega)]
 refine br_intro (fun h => ?_) (fun h => ?_)
 ·simp only [decide_eq_true_eq] at h
  simp only [go_sem, seval]
  rw [szr_neg (by omega)]
 simp only [decide_eq_false_iff_not, Int.not_lt] at h
 simp only [go_sem, seval]
 refine (h1 _ (by omega) (by omega)).calls rfl ?_
 simp only [go_sem, seval]
 refine br_intro (fun h => ?_) (fun h => ?_)
 ·simp only [decide_eq_true_eq] at h
  have hg := szr_lt h
  simp only [go_sem, seval]
  rw [szr_neg (by omega)]
 simp only [decide_eq_false_iff_not] at h
 have hg := szr_ge h
 rw [szr_pos hg]
 clear h
 simp only [go_sem, seval]
 all_goals rw [szr_pos (by omega)]
 all_goals (congr 2 <;> omega)
theorem to12 (a0 : List UInt8) (a1 : List (List D)) (h1 : Gives Tryd.prog 19 [.sl a1] (.d (.sl a1))) : Gives Tryd.prog 12 [.agg [.str a0, .sl a1]] (.d (.agg [.str a0, .sl a1])) := by
 refine ACalls.enter (fn := Tryd.f12) Tryd.func12 rfl (by show 1 ≤ _; decide) ?_
 refine run_sound Tryd.func12 mixed 100 _ _ (by kernel_rfl) ?_
 simp only [go_sem, seval]
 refine h1.calls rfl ?_
 simp only [go_sem, seval]
theorem eq14 (a0 : List UInt8) (a1 : List (List D)) (h1 : Gives Tryd.prog 23 [.sl a1, .sl a1] (.d (.bool true))) : Gives Tryd.prog 14 [.agg [.str a0, .sl a1], .agg [.str a0, .sl a1]] (.d (.bool true)) := by
 refine ACalls.enter (fn := Tryd.f14) Tryd.func14 rfl (by show 2 ≤ _; decide) ?_
 refine run_sound Tryd.func14 mixed 100 _ _ (by kernel_rfl) ?_
 simp only [go_sem, seval, bne_self_eq_false]
 refine h1.calls rfl ?_
 simp only [go_sem, seval, bne_self_eq_false]
theorem szc36 : ∀ (m : Nat) (x : List D), wtL x < m → Sh Tryd.prog 36 x → ∀ n : Int, 0 ≤ n → n ≤ 1048576 → Gives Tryd.prog 10 [.agg x, .int .i64 n] (.d (.int .i64 (szr n (wtL x))))
 | 0, _, hm, _ => by omega
 | m + 1, x, hm, h => by
  obtain ⟨a0, a1, rfl, q0, q1⟩ := inv36 h
  have hw : wtL [.str a0, .sl a1] = a0.length + wtR a1 := by simp only [wtL, D.wt] <;> omega
  exact fun n g0 g1 => sz10 a0 a1 q0 (fun n g0 g1 => szs22 a1 q1.1 q1.2 n g0 g1) n g0 g1
theorem toc36 : ∀ (m : Nat) (x : List D), wtL x < m → wtL x ≤ 1048576 → Sh Tryd.prog 36 x → Gives Tryd.prog 12 [.agg x] (.d (.agg x))
 | 0, _, hm, _, _ => by omega
 | m + 1, x, hm, hb, h => by
  obtain ⟨a0, a1, rfl, q0, q1⟩ := inv36 h
  have hw : wtL [.str a0, .sl a1] = a0.length + wtR a1 := by simp only [wtL, D.wt] <;> omega
  exact to12 a0 a1 (tos22 a1 (by omega) q1.2)
theorem eqc36 : ∀ (m : Nat) (x : List D), wtL x < m → Sh Tryd.prog 36 x → Gives Tryd.prog 14 [.agg x, .agg x] (.d (.bool true))
 | 0, _, hm, _ => by omega
 | m + 1, x, hm, h => by
  obtain ⟨a0, a1, rfl, q0, q1⟩ := inv36 h
  have hw : wtL [.str a0, .sl a1] = a0.length + wtR a1 := by simp only [wtL, D.wt] <;> omega
  exact eq14 a0 a1 (eqs22 a1 q1.1 q1.2)
theorem sh_Fc (x : List D) (h : Sh Tryd.prog 36 x) : ∃ t, x = Fc.enc t := Fc.of_sh lv36 sh_Tm x h
end Go.Proofs.YtbncaodnnbldmaaDoor
