import Derived.Test.YtbncaodnnbldmaaGreatFx
namespace Go.Proofs.YtbncaodnnbldmaaGreat
open Go.Abs
set_option maxRecDepth 100000
set_option maxHeartbeats 4000000
set_option linter.unusedSimpArgs false
set_option linter.unusedVariables false
theorem lv135 : leaves Tryz.prog 6 135 = some [.int .i64, .int .i64, .str, .sl 135] := by kernel_rfl
theorem inv135 {x : List D} (h : Sh Tryz.prog 135 x) : ∃ a0 a1 a2 a3, x = [.int .i64 a0, .int .i64 a1, .str a2, .sl a3] ∧ (Lit.int .i64 a0).wf = true ∧ (Lit.int .i64 a1).wf = true ∧ a2.length ≤ maxLen ∧ (a3.length ≤ maxLen ∧ ∀ x, x ∈ a3 → Sh Tryz.prog 135 x) := by
 obtain ⟨ls, h1, h2, h3⟩ := h
 rw [lv135] at h1
 cases h1
 match x, h2, h3 with
 | [c0, c1, c2, c3], _, h3 =>
  have g0 := h3 0 _ _ rfl rfl
  have g1 := h3 1 _ _ rfl rfl
  have g2 := h3 2 _ _ rfl rfl
  have g3 := h3 3 _ _ rfl rfl
  obtain ⟨b0, rfl, q0⟩ := g0.int_inv
  obtain ⟨b1, rfl, q1⟩ := g1.int_inv
  obtain ⟨b2, rfl, q2⟩ := g2.str_inv
  obtain ⟨b3, rfl, q3⟩ := g3.elems
  exact ⟨_, _, _, _, rfl, q0, q1, q2, q3⟩
theorem sz43 (xs : List (List D)) (hm : xs.length ≤ maxLen) (hx : ∀ x, x ∈ xs → x.length = 4 ∧ ∀ n : Int, 0 ≤ n → n ≤ 1048576 → Gives Tryz.prog 97 [.agg x, .int .i64 n] (.d (.int .i64 (szr n (wtL x)))))
  (n : Int) (h0 : 0 ≤ n) (h1 : n ≤ 1048576) : Gives Tryz.prog 43 [.sl xs, .int .i64 n] (.d (.int .i64 (szr n (wtR xs)))) := by
 have hm' : (xs.length : Int) ≤ 9223372036854775807 := by simp only [maxLen] at hm; omega
 have hs := sumW_all xs
 have hs0 := sumW_le xs 0
 simp only [sumW] at hs0
 refine ACalls.enter (fn := Tryz.f43) Tryz.func43 rfl (by show 2 ≤ _; decide) ?_
 refine run_sound Tryz.func43 mixed 100 _ _ (by kernel_rfl) ?_
 simp only [go_sem, seval]
 rw [wrap_ok (by omega) (by omega)]
 refine br_intro (fun h => ?_) (fun h => ?_)
 ·simp only [decide_eq_true_eq] at h
  simp only [go_sem, seval]
  rw [szr_neg (by omega)]
 simp only [decide_eq_false_iff_not, Int.not_lt] at h
 simp only [go_sem, seval]
 refine AW.loop_ind (fun i : Nat => ⟨[(5, .d (.int .i64 i)), (0, .d (.sl xs)), (1, .d (.int .i64 (n - xs.length - sumW xs i))), (4, .d (.int .i64 0))], []⟩) (fun i => i ≤ xs.length ∧ (sumW xs i : Int) ≤ n - xs.length) (fun i => xs.length - i) 0 ⟨by omega, by simp only [sumW]; omega⟩ ?_ ?_
 ·refine Weak.of (by simp) rfl ?_
  simp [Abs.get, sumW, C.refsLtT, C.refsLt, C.refsLt1]
 ·intro i hi hnext
  obtain ⟨hi1, hi2⟩ := hi
  refine run_sound Tryz.func43 mixed 100 _ _ (by kernel_rfl) ?_
  simp only [go_sem, seval]
  refine br_intro (fun h => ?_) (fun h => ?_)
  ·simp only [decide_eq_true_eq] at h
   have hi : i < xs.length := by omega
   obtain ⟨x, hxi⟩ : ∃ x, xs[i]? = some x := ⟨_, List.getElem?_eq_getElem hi⟩
   have hsum := sumW_at hxi
   have hle := sumW_le xs (i + 1)
   obtain ⟨e1, e2⟩ := hx x (List.mem_of_getElem? hxi)
   simp only [go_sem, seval, Int.toNat_natCast, hxi, idx_of hxi, e1]
   repeat refine And.intro (by omega) ?_
   refine (e2 _ (by omega) (by omega)).calls rfl ?_
   simp only [go_sem, seval]
   refine br_intro (fun h => ?_) (fun h => ?_)
   ·simp only [decide_eq_true_eq] at h
    have hg := szr_lt h
    simp only [go_sem, seval]
    rw [szr_neg (by omega)]
   ·simp only [decide_eq_false_iff_not] at h
    have hg := szr_ge h
    rw [szr_pos hg]
    simp only [go_sem, seval]
    rw [wrap_ok (by omega) (by omega)]
    refine hnext (i + 1) _ ⟨by omega, by omega⟩ (by omega) ?_
    refine Weak.of (by simp) rfl ?_
    simp [Abs.get, C.refsLtT, C.refsLt, C.refsLt1]
    omega
  ·simp only [decide_eq_false_iff_not] at h
   have : i = xs.length := by omega
   subst this
   simp only [go_sem, seval]
   rw [szr_pos (by omega)]
   all_goals (congr 2 <;> omega)
theorem sz97 (a0 : Int) (a1 : Int) (a2 : List UInt8) (a3 : List (List D)) (h2 : a2.length ≤ maxLen) (h3 : ∀ n : Int, 0 ≤ n → n ≤ 1048576 → Gives Tryz.prog 43 [.sl a3, .int .i64 n] (.d (.int .i64 (szr n (wtR a3)))))
  (n : Int) (g0 : 0 ≤ n) (g1 : n ≤ 1048576) : Gives Tryz.prog 97 [.agg [.int .i64 a0, .int .i64 a1, .str a2, .sl a3], .int .i64 n] (.d (.int .i64 (szr n (wtL [.int .i64 a0, .int .i64 a1, .str a2, .sl a3])))) := by
 have hw : wtL [.int .i64 a0, .int .i64 a1, .str a2, .sl a3] = a2.length + wtR a3 := by simp only [wtL, D.wt] <;> omega
 simp only [maxLen] at h2
 rw [hw]
 refine ACalls.enter (fn := Tryz.f97) Tryz.func97 rfl (by show 2 ≤ _; decide) ?_
 refine run_sound Tryz.func97 mixed 100 _ _ (by kernel_rfl) ?_
 simp only [go_sem, seval]
 rw [wrap_ok (by omega) (by omega)]
 refine br_intro (fun h => ?_) (fun h => ?_)
 ·simp only [decide_eq_true_eq] at h
  simp only [go_sem, seval]
  rw [szr_neg (by omega)]
 simp only [decide_eq_false_iff_not, Int.not_lt] at h
 simp only [go_sem, seval]
 refine (h3 _ (by omega) (by omega)).calls rfl ?_
 simp only [go_sem, seval]
 refine br_intro (fun h => ?_) (fun h => ?_)
 ·simp only [decide_eq_true_eq] at h
  have hg := szr_lt h
  simp only [go_sem, seval]
  rw [szr_neg (by omega)]
 simp only [decide_eq_false_iff_not] at h
 have hg := szr_ge h
 rw [szr_pos hg]
 clear h
 simp only [go_sem, seval]
 all_goals rw [szr_pos (by omega)]
 all_goals (congr 2 <;> omega)
theorem to50 (xs : List (List D)) (hl : xs.length ≤ 1048576) (hx : ∀ x, x ∈ xs → x.length = 4 ∧ Gives Tryz.prog 101 [.agg x] (.d (.agg x))) : Gives Tryz.prog 50 [.sl xs] (.d (.sl xs)) := by
 refine ACalls.enter (fn := Tryz.f50) Tryz.func50 rfl (by show 1 ≤ _; decide) ?_
 refine run_sound Tryz.func50 mixed 100 _ _ (by kernel_rfl) ?_
 simp only [go_sem, seval, Int.toNat_natCast]
 repeat refine And.intro (by first | omega | (simp only [maxLen]; omega)) ?_
 refine AW.loop_ind (fun i : Nat => ⟨[(4, .d (.int .i64 i)), (0, .d (.sl xs)), (3, .rsl 0 xs.length), (2, .nil0)], [.row 4 140 (xs.take i ++ List.replicate (xs.length - i) [.int .i64 0, .int .i64 0, .str [], .sl []])]⟩) (fun i => i ≤ xs.length) (fun i => xs.length - i) 0 (by omega) ?_ ?_
 ·refine Weak.of (by simp) rfl ?_
  simp [Abs.get, C.refsLtT, C.refsLt, C.refsLt1]
 ·intro i hi hnext
  by_cases h : i < xs.length
  ·obtain ⟨x, hxi⟩ : ∃ x, xs[i]? = some x := ⟨_, List.getElem?_eq_getElem h⟩
   obtain ⟨e1, e2⟩ := hx x (List.mem_of_getElem? hxi)
   have hlt : ((i : Int) < (xs.length : Int)) = True := by simp; omega
   refine run_sound Tryz.func50 mixed 100 _ _ (by kernel_rfl) ?_
   simp only [go_sem, seval, Int.toNat_natCast, hlt, hxi, idx_of hxi, e1]
   repeat refine And.intro (by omega) ?_
   refine e2.calls rfl ?_
   simp only [go_sem, seval, Int.toNat_natCast, hlt, hxi, idx_of hxi, e1]
   repeat refine And.intro (by first | omega | (simp; omega) | (simp_all; done)) ?_
   rw [wrap_ok (by omega) (by omega)]
   first | rw [row_step (k := 4) hxi (by rfl)] | rw [row_step1 hxi (by rfl)]
   refine hnext (i + 1) _ (by omega) (by omega) ?_
   refine Weak.of (by simp) rfl ?_
   simp [Abs.get, C.refsLtT, C.refsLt, C.refsLt1]
  ·have hlt : ((i : Int) < (xs.length : Int)) = False := by simp; omega
   refine run_sound Tryz.func50 mixed 6 _ _ (by kernel_rfl) ?_
   simp only [go_sem, seval, Int.toNat_natCast, hlt]
   obtain rfl : i = xs.length := by omega
   rw [row_all]
   refine AW.freeze 3 0 rfl rfl rfl ?_
   refine run_sound Tryz.func50 mixed 100 _ _ (by kernel_rfl) ?_
   simp only [go_sem, seval]
theorem to101 (a0 : Int) (a1 : Int) (a2 : List UInt8) (a3 : List (List D)) (h3 : Gives Tryz.prog 50 [.sl a3] (.d (.sl a3))) : Gives Tryz.prog 101 [.agg [.int .i64 a0, .int .i64 a1, .str a2, .sl a3]] (.d (.agg [.int .i64 a0, .int .i64 a1, .str a2, .sl a3])) := by
 refine ACalls.enter (fn := Tryz.f101) Tryz.func101 rfl (by show 1 ≤ _; decide) ?_
 refine run_sound Tryz.func101 mixed 100 _ _ (by kernel_rfl) ?_
 simp only [go_sem, seval]
 refine h3.calls rfl ?_
 simp only [go_sem, seval]
theorem eq57 (xs : List (List D)) (hm : xs.length ≤ maxLen) (hx : ∀ x, x ∈ xs → x.length = 4 ∧ Gives Tryz.prog 107 [.agg x, .agg x] (.d (.bool true))) : Gives Tryz.prog 57 [.sl xs, .sl xs] (.d (.bool true)) := by
 have hm' : (xs.length : Int) ≤ 9223372036854775807 := by simp only [maxLen] at hm; omega
 refine ACalls.enter (fn := Tryz.f57) Tryz.func57 rfl (by show 2 ≤ _; decide) ?_
 refine run_sound Tryz.func57 mixed 100 _ _ (by kernel_rfl) ?_
 simp only [go_sem, seval, bne_self_eq_false]
 refine AW.loop_ind (fun i : Nat => ⟨[(5, .d (.int .i64 i)), (0, .d (.sl xs)), (1, .d (.sl xs)), (4, .d (.bool false))], []⟩) (fun i => i ≤ xs.length) (fun i => xs.length - i) 0 (by omega) ?_ ?_
 ·refine Weak.of (by simp) rfl ?_
  simp [Abs.get, C.refsLtT, C.refsLt, C.refsLt1]
 ·intro i hi hnext
  by_cases h : i < xs.length
  ·obtain ⟨x, hxi⟩ : ∃ x, xs[i]? = some x := ⟨_, List.getElem?_eq_getElem h⟩
   obtain ⟨e1, e2⟩ := hx x (List.mem_of_getElem? hxi)
   have hlt : ((i : Int) < (xs.length : Int)) = True := by simp; omega
   have h00 : (0 ≤ (i : Int)) = True := by simp
   refine run_sound Tryz.func57 mixed 100 _ _ (by kernel_rfl) ?_
   simp only [go_sem, seval, Int.toNat_natCast, hlt, hxi, idx_of hxi, e1, h00, bne_self_eq_false]
   refine e2.callQ rfl ?_
   simp only [go_sem, seval]
   rw [wrap_ok (by omega) (by omega)]
   refine hnext (i + 1) _ (by omega) (by omega) ?_
   refine Weak.of (by simp) rfl ?_
   simp [Abs.get, C.refsLtT, C.refsLt, C.refsLt1]
  ·have hlt : ((i : Int) < (xs.length : Int)) = False := by simp; omega
   refine run_sound Tryz.func57 mixed 100 _ _ (by kernel_rfl) ?_
   simp only [go_sem, seval, hlt]
theorem eq107 (a0 : Int) (a1 : Int) (a2 : List UInt8) (a3 : List (List D)) (h3 : Gives Tryz.prog 57 [.sl a3, .sl a3] (.d (.bool true))) : Gives Tryz.prog 107 [.agg [.int .i64 a0, .int .i64 a1, .str a2, .sl a3], .agg [.int .i64 a0, .int .i64 a1, .str a2, .sl a3]] (.d (.bool true)) := by
 refine ACalls.enter (fn := Tryz.f107) Tryz.func107 rfl (by show 2 ≤ _; decide) ?_
 refine run_sound Tryz.func107 mixed 100 _ _ (by kernel_rfl) ?_
 simp only [go_sem, seval, bne_self_eq_false]
 refine h3.calls rfl ?_
 simp only [go_sem, seval, bne_self_eq_false]
theorem len135 {x : List D} (h : Sh Tryz.prog 135 x) : x.length = 4 := by
 obtain ⟨_, _, _, _, rfl, _⟩ := inv135 h
 rfl
theorem szc135 : ∀ (m : Nat) (x : List D), wtL x < m → Sh Tryz.prog 135 x → ∀ n : Int, 0 ≤ n → n ≤ 1048576 → Gives Tryz.prog 97 [.agg x, .int .i64 n] (.d (.int .i64 (szr n (wtL x))))
 | 0, _, hm, _ => by omega
 | m + 1, x, hm, h => by
  obtain ⟨a0, a1, a2, a3, rfl, q0, q1, q2, q3⟩ := inv135 h
  have hw : wtL [.int .i64 a0, .int .i64 a1, .str a2, .sl a3] = a2.length + wtR a3 := by simp only [wtL, D.wt] <;> omega
  exact fun n g0 g1 => sz97 a0 a1 a2 a3 q2 (fun n g0 g1 => sz43 a3 q3.1 (fun x hx => ⟨len135 (q3.2 x hx), szc135 m x (by have := wtL_lt a3 x hx; omega) (q3.2 x hx)⟩) n g0 g1) n g0 g1
theorem toc135 : ∀ (m : Nat) (x : List D), wtL x < m → wtL x ≤ 1048576 → Sh Tryz.prog 135 x → Gives Tryz.prog 101 [.agg x] (.d (.agg x))
 | 0, _, hm, _, _ => by omega
 | m + 1, x, hm, hb, h => by
  obtain ⟨a0, a1, a2, a3, rfl, q0, q1, q2, q3⟩ := inv135 h
  have hw : wtL [.int .i64 a0, .int .i64 a1, .str a2, .sl a3] = a2.length + wtR a3 := by simp only [wtL, D.wt] <;> omega
  exact to101 a0 a1 a2 a3 (to50 a3 (by have := sumW_le a3 0; omega) (fun x hx => ⟨len135 (q3.2 x hx), toc135 m x (by have := wtL_lt a3 x hx; omega) (by have := wtL_lt a3 x hx; omega) (q3.2 x hx)⟩))
theorem eqc135 : ∀ (m : Nat) (x : List D), wtL x < m → Sh Tryz.prog 135 x → Gives Tryz.prog 107 [.agg x, .agg x] (.d (.bool true))
 | 0, _, hm, _ => by omega
 | m + 1, x, hm, h => by
  obtain ⟨a0, a1, a2, a3, rfl, q0, q1, q2, q3⟩ := inv135 h
  have hw : wtL [.int .i64 a0, .int .i64 a1, .str a2, .sl a3] = a2.length + wtR a3 := by simp only [wtL, D.wt] <;> omega
  exact eq107 a0 a1 a2 a3 (eq57 a3 q3.1 (fun x hx => ⟨len135 (q3.2 x hx), eqc135 m x (by have := wtL_lt a3 x hx; omega) (q3.2 x hx)⟩))
theorem sh_Tm (x : List D) (h : Sh Tryz.prog 135 x) : ∃ t, x = Tm.enc t := Tm.of_sh lv135 x h
theorem szs35 (xs : List (List D)) (hm : xs.length ≤ maxLen) (h : ∀ x, x ∈ xs → Sh Tryz.prog 135 x) (n : Int) (g0 : 0 ≤ n) (g1 : n ≤ 1048576) : Gives Tryz.prog 43 [.sl xs, .int .i64 n] (.d (.int .i64 (szr n (wtR xs)))) :=
 sz43 xs hm (fun x hx => ⟨len135 (h x hx), szc135 _ x (Nat.lt_succ_self _) (h x hx)⟩) n g0 g1
theorem tos35 (xs : List (List D)) (hb : wtR xs ≤ 1048576) (h : ∀ x, x ∈ xs → Sh Tryz.prog 135 x) : Gives Tryz.prog 50 [.sl xs] (.d (.sl xs)) :=
 to50 xs (by have := sumW_le xs 0; omega) (fun x hx => ⟨len135 (h x hx), toc135 _ x (Nat.lt_succ_self _) (by have := wtL_lt xs x hx; omega) (h x hx)⟩)
theorem eqs35 (xs : List (List D)) (hm : xs.length ≤ maxLen) (h : ∀ x, x ∈ xs → Sh Tryz.prog 135 x) : Gives Tryz.prog 57 [.sl xs, .sl xs] (.d (.bool true)) :=
 eq57 xs hm (fun x hx => ⟨len135 (h x hx), eqc135 _ x (Nat.lt_succ_self _) (h x hx)⟩)
theorem lv38 : leaves Tryz.prog 6 38 = some [.int .i64, .str, .sl 135, .sl 38] := by kernel_rfl
theorem inv38 {x : List D} (h : Sh Tryz.prog 38 x) : ∃ a0 a1 a2 a3, x = [.int .i64 a0, .str a1, .sl a2, .sl a3] ∧ (Lit.int .i64 a0).wf = true ∧ a1.length ≤ maxLen ∧ (a2.length ≤ maxLen ∧ ∀ x, x ∈ a2 → Sh Tryz.prog 135 x) ∧ (a3.length ≤ maxLen ∧ ∀ x, x ∈ a3 → Sh Tryz.prog 38 x) := by
 obtain ⟨ls, h1, h2, h3⟩ := h
 rw [lv38] at h1
 cases h1
 match x, h2, h3 with
 | [c0, c1, c2, c3], _, h3 =>
  have g0 := h3 0 _ _ rfl rfl
  have g1 := h3 1 _ _ rfl rfl
  have g2 := h3 2 _ _ rfl rfl
  have g3 := h3 3 _ _ rfl rfl
  obtain ⟨b0, rfl, q0⟩ := g0.int_inv
  obtain ⟨b1, rfl, q1⟩ := g1.str_inv
  obtain ⟨b2, rfl, q2⟩ := g2.elems
  obtain ⟨b3, rfl, q3⟩ := g3.elems
  exact ⟨_, _, _, _, rfl, q0, q1, q2, q3⟩
theorem sz44 (xs : List (List D)) (hm : xs.length ≤ maxLen) (hx : ∀ x, x ∈ xs → x.length = 4 ∧ ∀ n : Int, 0 ≤ n → n ≤ 1048576 → Gives Tryz.prog 13 [.agg x, .int .i64 n] (.d (.int .i64 (szr n (wtL x)))))
  (n : Int) (h0 : 0 ≤ n) (h1 : n ≤ 1048576) : Gives Tryz.prog 44 [.sl xs, .int .i64 n] (.d (.int .i64 (szr n (wtR xs)))) := by
 have hm' : (xs.length : Int) ≤ 9223372036854775807 := by simp only [maxLen] at hm; omega
 have hs := sumW_all xs
 have hs0 := sumW_le xs 0
 simp only [sumW] at hs0
 refine ACalls.enter (fn := Tryz.f44) Tryz.func44 rfl (by show 2 ≤ _; decide) ?_
 refine run_sound Tryz.func44 mixed 100 _ _ (by kernel_rfl) ?_
 simp only [go_sem, seval]
 rw [wrap_ok (by omega) (by omega)]
 refine br_intro (fun h => ?_) (fun h => ?_)
 ·simp only [decide_eq_true_eq] at h
  simp only [go_sem, seval]
  rw [szr_neg (by omega)]
 simp only [decide_eq_false_iff_not, Int.not_lt] at h
 simp only [go_sem, seval]
 refine AW.loop_ind (fun i : Nat => ⟨[(5, .d (.int .i64 i)), (0, .d (.sl xs)), (1, .d (.int .i64 (n - xs.length - sumW xs i))), (4, .d (.int .i64 0))], []⟩) (fun i => i ≤ xs.length ∧ (sumW xs i : Int) ≤ n - xs.length) (fun i => xs.length - i) 0 ⟨by omega, by simp only [sumW]; omega⟩ ?_ ?_
 ·refine Weak.of (by simp) rfl ?_
  simp [Abs.get, sumW, C.refsLtT, C.refsLt, C.refsLt1]
 ·intro i hi hnext
  obtain ⟨hi1, hi2⟩ := hi
  refine run_sound Tryz.func44 mixed 100 _ _ (by kernel_rfl) ?_
  simp only [go_sem, seval]
  refine br_intro (fun h => ?_) (fun h => ?_)
  ·simp only [decide_eq_true_eq] at h
   have hi : i < xs.length := by omega
   obtain ⟨x, hxi⟩ : ∃ x, xs[i]? = some x := ⟨_, List.getElem?_eq_getElem hi⟩
   have hsum := sumW_at hxi
   have hle := sumW_le xs (i + 1)
   obtain ⟨e1, e2⟩ := hx x (List.mem_of_getElem? hxi)
   simp only [go_sem, seval, Int.toNat_natCast, hxi, idx_of hxi, e1]
   repeat refine And.intro (by omega) ?_
   refine (e2 _ (by omega) (by omega)).calls rfl ?_
   simp only [go_sem, seval]
   refine br_intro (fun h => ?_) (fun h => ?_)
   ·simp only [decide_eq_true_eq] at h
    have hg := szr_lt h
    simp only [go_sem, seval]
    rw [szr_neg (by omega)]
   ·simp only [decide_eq_false_iff_not] at h
    have hg := szr_ge h
    rw [szr_pos hg]
    simp only [go_sem, seval]
    rw [wrap_ok (by omega) (by omega)]
    refine hnext (i + 1) _ ⟨by omega, by omega⟩ (by omega) ?_
    refine Weak.of (by simp) rfl ?_
    simp [Abs.get, C.refsLtT, C.refsLt, C.refsLt1]
    omega
  ·simp only [decide_eq_false_iff_not] at h
   have : i = xs.length := by omega
   subst this
   simp only [go_sem, seval]
   rw [szr_pos (by omega)]
   all_goals (congr 2 <;> omega)
theorem sz13 (a0 : Int) (a1 : List UInt8) (a2 : List (List D)) (a3 : List (List D)) (h1 : a1.length ≤ maxLen) (h2 : ∀ n : Int, 0 ≤ n → n ≤ 1048576 → Gives Tryz.prog 43 [.sl a2, .int .i64 n] (.d (.int .i64 (szr n (wtR a2))))) (h3 : ∀ n : Int, 0 ≤ n → n ≤ 1048576 → Gives Tryz.prog 44 [.sl a3, .int .i64 n] (.d (.int .i64 (szr n (wtR a3)))))
  (n : Int) (g0 : 0 ≤ n) (g1 : n ≤ 1048576) : Gives Tryz.prog 13 [.agg [.int .i64 a0, .str a1, .sl a2, .sl a3], .int .i64 n] (.d (.int .i64 (szr n (wtL [.int .i64 a0, .str a1, .sl a2, .sl a3])))) := by
 have hw : wtL [.int .i64 a0, .str a1, .sl a2, .sl a3] = a1.length + wtR a2 + wtR a3 := by simp only [wtL, D.wt] <;> omega
 simp only [maxLen] at h1
 rw [hw]
 refine ACalls.enter (fn := Tryz.f13) Tryz.func13 rfl (by show 2 ≤ _; decide) ?_
 refine run_sound Tryz.func13 mixed 100 _ _ (by kernel_rfl) ?_
 simp only [go_sem, seval]
 rw [wrap_ok (by omega) (by omega)]
 refine br_intro (fun h => ?_) (fun h => ?_)
 ·simp only [decide_eq_true_eq] at h
  simp only [go_sem, seval]
  rw [szr_neg (by omega)]
 simp only [decide_eq_false_iff_not, Int.not_lt] at h
 simp only [go_sem, seval]
 refine (h2 _ (by omega) (by omega)).calls rfl ?_
 simp only [go_sem, seval]
 refine br_intro (fun h => ?_) (fun h => ?_)
 ·simp only [decide_eq_true_eq] at h
  have hg := szr_lt h
  simp only [go_sem, seval]
  rw [szr_neg (by omega)]
 simp only [decide_eq_false_iff_not] at h
 have hg := szr_ge h
 rw [szr_pos hg]
 clear h
 simp only [go_sem, seval]
 refine (h3 _ (by omega) (by omega)).calls rfl ?_
 simp only [go_sem, seval]
 refine br_intro (fun h => ?_) (fun h => ?_)
 ·simp only [decide_eq_true_eq] at h
  have hg := szr_lt h
  simp only [go_sem, seval]
  rw [szr_neg (by omega)]
 simp only [decide_eq_false_iff_not] at h
 have hg := szr_ge h
 rw [szr_pos hg]
 clear h
 simp only [go_sem, seval]
 all_goals rw [szr_pos (by omega)]
 all_goals (congr 2 <;> omega)
theorem to51 (xs : List (List D)) (hl : xs.length ≤ 1048576) (hx : ∀ x, x ∈ xs → x.length = 4 ∧ Gives Tryz.prog 15 [.agg x] (.d (.agg x))) : Gives Tryz.prog 51 [.sl xs] (.d (.sl xs)) := by
 refine ACalls.enter (fn := Tryz.f51) Tryz.func51 rfl (by show 1 ≤ _; decide) ?_
 refine run_sound Tryz.func51 mixed 100 _ _ (by kernel_rfl) ?_
 simp only [go_sem, seval, Int.toNat_natCast]
 repeat refine And.intro (by first | omega | (simp only [maxLen]; omega)) ?_
 refine AW.loop_ind (fun i : Nat => ⟨[(4, .d (.int .i64 i)), (0, .d (.sl xs)), (3, .rsl 0 xs.length), (2, .nil0)], [.row 4 52 (xs.take i ++ List.replicate (xs.length - i) [.int .i64 0, .str [], .sl [], .sl []])]⟩) (fun i => i ≤ xs.length) (fun i => xs.length - i) 0 (by omega) ?_ ?_
 ·refine Weak.of (by simp) rfl ?_
  simp [Abs.get, C.refsLtT, C.refsLt, C.refsLt1]
 ·intro i hi hnext
  by_cases h : i < xs.length
  ·obtain ⟨x, hxi⟩ : ∃ x, xs[i]? = some x := ⟨_, List.getElem?_eq_getElem h⟩
   obtain ⟨e1, e2⟩ := hx x (List.mem_of_getElem? hxi)
   have hlt : ((i : Int) < (xs.length : Int)) = True := by simp; omega
   refine run_sound Tryz.func51 mixed 100 _ _ (by kernel_rfl) ?_
   simp only [go_sem, seval, Int.toNat_natCast, hlt, hxi, idx_of hxi, e1]
   repeat refine And.intro (by omega) ?_
   refine e2.calls rfl ?_
   simp only [go_sem, seval, Int.toNat_natCast, hlt, hxi, idx_of hxi, e1]
   repeat refine And.intro (by first | omega | (simp; omega) | (simp_all; done)) ?_
   rw [wrap_ok (by omega) (by omega)]
   first | rw [row_step (k := 4) hxi (by rfl)] | rw [row_step1 hxi (by rfl)]
   refine hnext (i + 1) _ (by omega) (by omega) ?_
   refine Weak.of (by simp) rfl ?_
   simp [Abs.get, C.refsLtT, C.refsLt, C.refsLt1]
  ·have hlt : ((i : Int) < (xs.length : Int)) = False := by simp; omega
   refine run_sound Tryz.func51 mixed 6 _ _ (by kernel_rfl) ?_
   simp only [go_sem, seval, Int.toNat_natCast, hlt]
   obtain rfl : i = xs.length := by omega
   rw [row_all]
   refine AW.freeze 3 0 rfl rfl rfl ?_
   refine run_sound Tryz.func51 mixed 100 _ _ (by kernel_rfl) ?_
   simp only [go_sem, seval]
theorem to15 (a0 : Int) (a1 : List UInt8) (a2 : List (List D)) (a3 : List (List D)) (h2 : Gives Tryz.prog 50 [.sl a2] (.d (.sl a2))) (h3 : Gives Tryz.prog 51 [.sl a3] (.d (.sl a3))) : Gives Tryz.prog 15 [.agg [.int .i64 a0, .str a1, .sl a2, .sl a3]] (.d (.agg [.int .i64 a0, .str a1, .sl a2, .sl a3])) := by
 refine ACalls.enter (fn := Tryz.f15) Tryz.func15 rfl (by show 1 ≤ _; decide) ?_
 refine run_sound Tryz.func15 mixed 100 _ _ (by kernel_rfl) ?_
 simp only [go_sem, seval]
 refine h2.calls rfl ?_
 simp only [go_sem, seval]
 refine h3.calls rfl ?_
 simp only [go_sem, seval]
theorem eq58 (xs : List (List D)) (hm : xs.length ≤ maxLen) (hx : ∀ x, x ∈ xs → x.length = 4 ∧ Gives Tryz.prog 18 [.agg x, .agg x] (.d (.bool true))) : Gives Tryz.prog 58 [.sl xs, .sl xs] (.d (.bool true)) := by
 have hm' : (xs.length : Int) ≤ 9223372036854775807 := by simp only [maxLen] at hm; omega
 refine ACalls.enter (fn := Tryz.f58) Tryz.func58 rfl (by show 2 ≤ _; decide) ?_
 refine run_sound Tryz.func58 mixed 100 _ _ (by kernel_rfl) ?_
 simp only [go_sem, seval, bne_self_eq_false]
 refine AW.loop_ind (fun i : Nat => ⟨[(5, .d (.int .i64 i)), (0, .d (.sl xs)), (1, .d (.sl xs)), (4, .d (.bool false))], []⟩) (fun i => i ≤ xs.length) (fun i => xs.length - i) 0 (by omega) ?_ ?_
 ·refine Weak.of (by simp) rfl ?_
  simp [Abs.get, C.refsLtT, C.refsLt, C.refsLt1]
 ·intro i hi hnext
  by_cases h : i < xs.length
  ·obtain ⟨x, hxi⟩ : ∃ x, xs[i]? = some x := ⟨_, List.getElem?_eq_getElem h⟩
   obtain ⟨e1, e2⟩ := hx x (List.mem_of_getElem? hxi)
   have hlt : ((i : Int) < (xs.length : Int)) = True := by simp; omega
   have h00 : (0 ≤ (i : Int)) = True := by simp
   refine run_sound Tryz.func58 mixed 100 _ _ (by kernel_rfl) ?_
   simp only [go_sem, seval, Int.toNat_natCast, hlt, hxi, idx_of hxi, e1, h00, bne_self_eq_false]
   refine e2.callQ rfl ?_
   simp only [go_sem, seval]
   rw [wrap_ok (by omega) (by omega)]
   refine hnext (i + 1) _ (by omega) (by omega) ?_
   refine Weak.of (by simp) rfl ?_
   simp [Abs.get, C.refsLtT, C.refsLt, C.refsLt1]
  ·have hlt : ((i : Int) < (xs.length : Int)) = False := by simp; omega
   refine run_sound Tryz.func58 mixed 100 _ _ (by kernel_rfl) ?_
   simp only [go_sem, seval, hlt]
theorem eq18 (a0 : Int) (a1 : List UInt8) (a2 : List (List D)) (a3 : List (List D)) (h2 : Gives Tryz.prog 57 [.sl a2, .sl a2] (.d (.bool true))) (h3 : Gives Tryz.prog 58 [.sl a3, .sl a3] (.d (.bool true))) : Gives Tryz.prog 18 [.agg [.int .i64 a0, .str a1, .sl a2, .sl a3], .agg [.int .i64 a0, .str a1, .sl a2, .sl a3]] (.d (.bool true)) := by
 refine ACalls.enter (fn := Tryz.f18) Tryz.func18 rfl (by show 2 ≤ _; decide) ?_
 refine run_sound Tryz.func18 mixed 100 _ _ (by kernel_rfl) ?_
 simp only [go_sem, seval, bne_self_eq_false]
 refine h2.calls rfl ?_
 simp only [go_sem, seval, bne_self_eq_false]
 refine h3.calls rfl ?_
 simp only [go_sem, seval, bne_self_eq_false]
theorem mk38 (a0 : Int) (a1 : List UInt8) (a2 : List (List D)) (a3 : List (List D)) (q0 : (Lit.int .i64 a0).wf = true) (q1 : a1.length ≤ maxLen) (q2 : a2.length ≤ maxLen ∧ ∀ x, x ∈ a2 → Sh Tryz.prog 135 x) (q3 : a3.length ≤ maxLen ∧ ∀ x, x ∈ a3 → Sh Tryz.prog 38 x) : Sh Tryz.prog 38 [.int .i64 a0, .str a1, .sl a2, .sl a3] := by
 refine ⟨_, lv38, rfl, fun i l c hl hc => ?_⟩
 match i with
 | 0 => simp at hl hc; subst hl hc; exact .int _ _ q0
 | 1 => simp at hl hc; subst hl hc; exact .str _ q1
 | 2 => simp at hl hc; subst hl hc; exact ShC.sl_of lv135 q2.1 q2.2
 | 3 => simp at hl hc; subst hl hc; exact ShC.sl_of lv38 q3.1 q3.2
 | i + 4 => simp at hl
theorem len38 {x : List D} (h : Sh Tryz.prog 38 x) : x.length = 4 := by
 obtain ⟨_, _, _, _, rfl, _⟩ := inv38 h
 rfl
theorem szc38 : ∀ (m : Nat) (x : List D), wtL x < m → Sh Tryz.prog 38 x → ∀ n : Int, 0 ≤ n → n ≤ 1048576 → Gives Tryz.prog 13 [.agg x, .int .i64 n] (.d (.int .i64 (szr n (wtL x))))
 | 0, _, hm, _ => by omega
 | m + 1, x, hm, h => by
  obtain ⟨a0, a1, a2, a3, rfl, q0, q1, q2, q3⟩ := inv38 h
  have hw : wtL [.int .i64 a0, .str a1, .sl a2, .sl a3] = a1.length + wtR a2 + wtR a3 := by simp only [wtL, D.wt] <;> omega
  exact fun n g0 g1 => sz13 a0 a1 a2 a3 q1 (fun n g0 g1 => szs35 a2 q2.1 q2.2 n g0 g1) (fun n g0 g1 => sz44 a3 q3.1 (fun x hx => ⟨len38 (q3.2 x hx), szc38 m x (by have := wtL_lt a3 x hx; omega) (q3.2 x hx)⟩) n g0 g1) n g0 g1
theorem toc38 : ∀ (m : Nat) (x : List D), wtL x < m → wtL x ≤ 1048576 → Sh Tryz.prog 38 x → Gives Tryz.prog 15 [.agg x] (.d (.agg x))
 | 0, _, hm, _, _ => by omega
 | m + 1, x, hm, hb, h => by
  obtain ⟨a0, a1, a2, a3, rfl, q0, q1, q2, q3⟩ := inv38 h
  have hw : wtL [.int .i64 a0, .str a1, .sl a2, .sl a3] = a1.length + wtR a2 + wtR a3 := by simp only [wtL, D.wt] <;> omega
  exact to15 a0 a1 a2 a3 (tos35 a2 (by omega) q2.2) (to51 a3 (by have := sumW_le a3 0; omega) (fun x hx => ⟨len38 (q3.2 x hx), toc38 m x (by have := wtL_lt a3 x hx; omega) (by have := wtL_lt a3 x hx; omega) (q3.2 x hx)⟩))
theorem eqc38 : ∀ (m : Nat) (x : List D), wtL x < m → Sh Tryz.prog 38 x → Gives Tryz.prog 18 [.agg x, .agg x] (.d (.bool true))
 | 0, _, hm, _ => by omega
 | m + 1, x, hm, h => by
  obtain ⟨a0, a1, a2, a3, rfl, q0, q1, q2, q3⟩ := inv38 h
  have hw : wtL [.int .i64 a0, .str a1, .sl a2, .sl a3] = a1.length + wtR a2 + wtR a3 := by simp only [wtL, D.wt] <;> omega
  exact eq18 a0 a1 a2 a3 (eqs35 a2 q2.1 q2.2) (eq58 a3 q3.1 (fun x hx => ⟨len38 (q3.2 x hx), eqc38 m x (by have := wtL_lt a3 x hx; omega) (q3.2 x hx)⟩))
theorem sh_Gl (x : List D) (h : Sh Tryz.prog 38 x) : ∃ t, x = Gl.enc t := Gl.of_sh lv38 sh_Tm x h
theorem lv119 : leaves Tryz.prog 6 119 = some [.str, .int .i64, .int .i64, .int .i64, .str, .sl 135, .sl 38] := by kernel_rfl
theorem inv119 {x : List D} (h : Sh Tryz.prog 119 x) : ∃ a0 a1 a2 a3 a4 a5 a6, x = [.str a0, .int .i64 a1, .int .i64 a2, .int .i64 a3, .str a4, .sl a5, .sl a6] ∧ a0.length ≤ maxLen ∧ (Lit.int .i64 a1).wf = true ∧ (Lit.int .i64 a2).wf = true ∧ (Lit.int .i64 a3).wf = true ∧ a4.length ≤ maxLen ∧ (a5.length ≤ maxLen ∧ ∀ x, x ∈ a5 → Sh Tryz.prog 135 x) ∧ (a6.length ≤ maxLen ∧ ∀ x, x ∈ a6 → Sh Tryz.prog 38 x) := by
 obtain ⟨ls, h1, h2, h3⟩ := h
 rw [lv119] at h1
 cases h1
 match x, h2, h3 with
 | [c0, c1, c2, c3, c4, c5, c6], _, h3 =>
  have g0 := h3 0 _ _ rfl rfl
  have g1 := h3 1 _ _ rfl rfl
  have g2 := h3 2 _ _ rfl rfl
  have g3 := h3 3 _ _ rfl rfl
  have g4 := h3 4 _ _ rfl rfl
  have g5 := h3 5 _ _ rfl rfl
  have g6 := h3 6 _ _ rfl rfl
  obtain ⟨b0, rfl, q0⟩ := g0.str_inv
  obtain ⟨b1, rfl, q1⟩ := g1.int_inv
  obtain ⟨b2, rfl, q2⟩ := g2.int_inv
  obtain ⟨b3, rfl, q3⟩ := g3.int_inv
  obtain ⟨b4, rfl, q4⟩ := g4.str_inv
  obtain ⟨b5, rfl, q5⟩ := g5.elems
  obtain ⟨b6, rfl, q6⟩ := g6.elems
  exact ⟨_, _, _, _, _, _, _, rfl, q0, q1, q2, q3, q4, q5, q6⟩
theorem sz31 (xs : List (List D)) (hm : xs.length ≤ maxLen) (hx : ∀ x, x ∈ xs → x.length = 7 ∧ ∀ n : Int, 0 ≤ n → n ≤ 1048576 → Gives Tryz.prog 74 [.agg x, .int .i64 n] (.d (.int .i64 (szr n (wtL x)))))
  (n : Int) (h0 : 0 ≤ n) (h1 : n ≤ 1048576) : Gives Tryz.prog 31 [.sl xs, .int .i64 n] (.d (.int .i64 (szr n (wtR xs)))) := by
 have hm' : (xs.length : Int) ≤ 9223372036854775807 := by simp only [maxLen] at hm; omega
 have hs := sumW_all xs
 have hs0 := sumW_le xs 0
 simp only [sumW] at hs0
 refine ACalls.enter (fn := Tryz.f31) Tryz.func31 rfl (by show 2 ≤ _; decide) ?_
 refine run_sound Tryz.func31 mixed 100 _ _ (by kernel_rfl) ?_
 simp only [go_sem, seval]
 rw [wrap_ok (by omega) (by omega)]
 refine br_intro (fun h => ?_) (fun h => ?_)
 ·simp only [decide_eq_true_eq] at h
  simp only [go_sem, seval]
  rw [szr_neg (by omega)]
 simp only [decide_eq_false_iff_not, Int.not_lt] at h
 simp only [go_sem, seval]
 refine AW.loop_ind (fun i : Nat => ⟨[(5, .d (.int .i64 i)), (0, .d (.sl xs)), (1, .d (.int .i64 (n - xs.length - sumW xs i))), (4, .d (.int .i64 0))], []⟩) (fun i => i ≤ xs.length ∧ (sumW xs i : Int) ≤ n - xs.length) (fun i => xs.length - i) 0 ⟨by omega, by simp only [sumW]; omega⟩ ?_ ?_
 ·refine Weak.of (by simp) rfl ?_
  simp [Abs.get, sumW, C.refsLtT, C.refsLt, C.refsLt1]
 ·intro i hi hnext
  obtain ⟨hi1, hi2⟩ := hi
  refine run_sound Tryz.func31 mixed 100 _ _ (by kernel_rfl) ?_
  simp only [go_sem, seval]
  refine br_intro (fun h => ?_) (fun h => ?_)
  ·simp only [decide_eq_true_eq] at h
   have hi : i < xs.length := by omega
   obtain ⟨x, hxi⟩ : ∃ x, xs[i]? = some x := ⟨_, List.getElem?_eq_getElem hi⟩
   have hsum := sumW_at hxi
   have hle := sumW_le xs (i + 1)
   obtain ⟨e1, e2⟩ := hx x (List.mem_of_getElem? hxi)
   simp only [go_sem, seval, Int.toNat_natCast, hxi, idx_of hxi, e1]
   repeat refine And.intro (by omega) ?_
   refine (e2 _ (by omega) (by omega)).calls rfl ?_
   simp only [go_sem, seval]
   refine br_intro (fun h => ?_) (fun h => ?_)
   ·simp only [decide_eq_true_eq] at h
    have hg := szr_lt h
    simp only [go_sem, seval]
    rw [szr_neg (by omega)]
   ·simp only [decide_eq_false_iff_not] at h
    have hg := szr_ge h
    rw [szr_pos hg]
    simp only [go_sem, seval]
    rw [wrap_ok (by omega) (by omega)]
    refine hnext (i + 1) _ ⟨by omega, by omega⟩ (by omega) ?_
    refine Weak.of (by simp) rfl ?_
    simp [Abs.get, C.refsLtT, C.refsLt, C.refsLt1]
    omega
  ·simp only [decide_eq_false_iff_not] at h
   have : i = xs.length := by omega
   subst this
   simp only [go_sem, seval]
   rw [szr_pos (by omega)]
   all_goals (congr 2 <;> omega)
theorem sz74 (a0 : List UInt8) (a1 : Int) (a2 : Int) (a3 : Int) (a4 : List UInt8) (a5 : List (List D)) (a6 : List (List D)) (h0 : a0.length ≤ maxLen) (h3 : ∀ n : Int, 0 ≤ n → n ≤ 1048576 → Gives Tryz.prog 13 [.agg [.int .i64 a3, .str a4, .sl a5, .sl a6], .int .i64 n] (.d (.int .i64 (szr n (wtL [.int .i64 a3, .str a4, .sl a5, .sl a6])))))
  (n : Int) (g0 : 0 ≤ n) (g1 : n ≤ 1048576) : Gives Tryz.prog 74 [.agg [.str a0, .int .i64 a1, .int .i64 a2, .int .i64 a3, .str a4, .sl a5, .sl a6], .int .i64 n] (.d (.int .i64 (szr n (wtL [.str a0, .int .i64 a1, .int .i64 a2, .int .i64 a3, .str a4, .sl a5, .sl a6])))) := by
 have hw : wtL [.str a0, .int .i64 a1, .int .i64 a2, .int .i64 a3, .str a4, .sl a5, .sl a6] = a0.length + wtL [.int .i64 a3, .str a4, .sl a5, .sl a6] := by simp only [wtL, D.wt] <;> omega
 simp only [maxLen] at h0
 rw [hw]
 refine ACalls.enter (fn := Tryz.f74) Tryz.func74 rfl (by show 2 ≤ _; decide) ?_
 refine run_sound Tryz.func74 mixed 100 _ _ (by kernel_rfl) ?_
 simp only [go_sem, seval]
 rw [wrap_ok (by omega) (by omega)]
 refine br_intro (fun h => ?_) (fun h => ?_)
 ·simp only [decide_eq_true_eq] at h
  simp only [go_sem, seval]
  rw [szr_neg (by omega)]
 simp only [decide_eq_false_iff_not, Int.not_lt] at h
 simp only [go_sem, seval]
 refine (h3 _ (by omega) (by omega)).calls rfl ?_
 simp only [go_sem, seval]
 refine br_intro (fun h => ?_) (fun h => ?_)
 ·simp only [decide_eq_true_eq] at h
  have hg := szr_lt h
  simp only [go_sem, seval]
  rw [szr_neg (by omega)]
 simp only [decide_eq_false_iff_not] at h
 have hg := szr_ge h
 rw [szr_pos hg]
 clear h
 simp only [go_sem, seval]
 all_goals rw [szr_pos (by omega)]
 all_goals (congr 2 <;> omega)
theorem to35 (xs : List (List D)) (hl : xs.length ≤ 1048576) (hx : ∀ x, x ∈ xs → x.length = 7 ∧ Gives Tryz.prog 84 [.agg x] (.d (.agg x))) : Gives Tryz.prog 35 [.sl xs] (.d (.sl xs)) := by
 refine ACalls.enter (fn := Tryz.f35) Tryz.func35 rfl (by show 1 ≤ _; decide) ?_
 refine run_sound Tryz.func35 mixed 100 _ _ (by kernel_rfl) ?_
 simp only [go_sem, seval, Int.toNat_natCast]
 repeat refine And.intro (by first | omega | (simp only [maxLen]; omega)) ?_
 refine AW.loop_ind (fun i : Nat => ⟨[(4, .d (.int .i64 i)), (0, .d (.sl xs)), (3, .rsl 0 xs.length), (2, .nil0)], [.row 7 82 (xs.take i ++ List.replicate (xs.length - i) [.str [], .int .i64 0, .int .i64 0, .int .i64 0, .str [], .sl [], .sl []])]⟩) (fun i => i ≤ xs.length) (fun i => xs.length - i) 0 (by omega) ?_ ?_
 ·refine Weak.of (by simp) rfl ?_
  simp [Abs.get, C.refsLtT, C.refsLt, C.refsLt1]
 ·intro i hi hnext
  by_cases h : i < xs.length
  ·obtain ⟨x, hxi⟩ : ∃ x, xs[i]? = some x := ⟨_, List.getElem?_eq_getElem h⟩
   obtain ⟨e1, e2⟩ := hx x (List.mem_of_getElem? hxi)
   have hlt : ((i : Int) < (xs.length : Int)) = True := by simp; omega
   refine run_sound Tryz.func35 mixed 100 _ _ (by kernel_rfl) ?_
   simp only [go_sem, seval, Int.toNat_natCast, hlt, hxi, idx_of hxi, e1]
   repeat refine And.intro (by omega) ?_
   refine e2.calls rfl ?_
   simp only [go_sem, seval, Int.toNat_natCast, hlt, hxi, idx_of hxi, e1]
   repeat refine And.intro (by first | omega | (simp; omega) | (simp_all; done)) ?_
   rw [wrap_ok (by omega) (by omega)]
   first | rw [row_step (k := 7) hxi (by rfl)] | rw [row_step1 hxi (by rfl)]
   refine hnext (i + 1) _ (by omega) (by omega) ?_
   refine Weak.of (by simp) rfl ?_
   simp [Abs.get, C.refsLtT, C.refsLt, C.refsLt1]
  ·have hlt : ((i : Int) < (xs.length : Int)) = False := by simp; omega
   refine run_sound Tryz.func35 mixed 6 _ _ (by kernel_rfl) ?_
   simp only [go_sem, seval, Int.toNat_natCast, hlt]
   obtain rfl : i = xs.length := by omega
   rw [row_all]
   refine AW.freeze 3 0 rfl rfl rfl ?_
   refine run_sound Tryz.func35 mixed 100 _ _ (by kernel_rfl) ?_
   simp only [go_sem, seval]
theorem to84 (a0 : List UInt8) (a1 : Int) (a2 : Int) (a3 : Int) (a4 : List UInt8) (a5 : List (List D)) (a6 : List (List D)) (h3 : Gives Tryz.prog 15 [.agg [.int .i64 a3, .str a4, .sl a5, .sl a6]] (.d (.agg [.int .i64 a3, .str a4, .sl a5, .sl a6]))) : Gives Tryz.prog 84 [.agg [.str a0, .int .i64 a1, .int .i64 a2, .int .i64 a3, .str a4, .sl a5, .sl a6]] (.d (.agg [.str a0, .int .i64 a1, .int .i64 a2, .int .i64 a3, .str a4, .sl a5, .sl a6])) := by
 refine ACalls.enter (fn := Tryz.f84) Tryz.func84 rfl (by show 1 ≤ _; decide) ?_
 refine run_sound Tryz.func84 mixed 100 _ _ (by kernel_rfl) ?_
 simp only [go_sem, seval]
 refine h3.calls rfl ?_
 simp only [go_sem, seval]
theorem eq40 (xs : List (List D)) (hm : xs.length ≤ maxLen) (hx : ∀ x, x ∈ xs → x.length = 7 ∧ Gives Tryz.prog 93 [.agg x, .agg x] (.d (.bool true))) : Gives Tryz.prog 40 [.sl xs, .sl xs] (.d (.bool true)) := by
 have hm' : (xs.length : Int) ≤ 9223372036854775807 := by simp only [maxLen] at hm; omega
 refine ACalls.enter (fn := Tryz.f40) Tryz.func40 rfl (by show 2 ≤ _; decide) ?_
 refine run_sound Tryz.func40 mixed 100 _ _ (by kernel_rfl) ?_
 simp only [go_sem, seval, bne_self_eq_false]
 refine AW.loop_ind (fun i : Nat => ⟨[(5, .d (.int .i64 i)), (0, .d (.sl xs)), (1, .d (.sl xs)), (4, .d (.bool false))], []⟩) (fun i => i ≤ xs.length) (fun i => xs.length - i) 0 (by omega) ?_ ?_
 ·refine Weak.of (by simp) rfl ?_
  simp [Abs.get, C.refsLtT, C.refsLt, C.refsLt1]
 ·intro i hi hnext
  by_cases h : i < xs.length
  ·obtain ⟨x, hxi⟩ : ∃ x, xs[i]? = some x := ⟨_, List.getElem?_eq_getElem h⟩
   obtain ⟨e1, e2⟩ := hx x (List.mem_of_getElem? hxi)
   have hlt : ((i : Int) < (xs.length : Int)) = True := by simp; omega
   have h00 : (0 ≤ (i : Int)) = True := by simp
   refine run_sound Tryz.func40 mixed 100 _ _ (by kernel_rfl) ?_
   simp only [go_sem, seval, Int.toNat_natCast, hlt, hxi, idx_of hxi, e1, h00, bne_self_eq_false]
   refine e2.callQ rfl ?_
   simp only [go_sem, seval]
   rw [wrap_ok (by omega) (by omega)]
   refine hnext (i + 1) _ (by omega) (by omega) ?_
   refine Weak.of (by simp) rfl ?_
   simp [Abs.get, C.refsLtT, C.refsLt, C.refsLt1]
  ·have hlt : ((i : Int) < (xs.length : Int)) = False := by simp; omega
   refine run_sound Tryz.func40 mixed 100 _ _ (by kernel_rfl) ?_
   simp only [go_sem, seval, hlt]
theorem eq93 (a0 : List UInt8) (a1 : Int) (a2 : Int) (a3 : Int) (a4 : List UInt8) (a5 : List (List D)) (a6 : List (List D)) (h3 : Gives Tryz.prog 18 [.agg [.int .i64 a3, .str a4, .sl a5, .sl a6], .agg [.int .i64 a3, .str a4, .sl a5, .sl a6]] (.d (.bool true))) : Gives Tryz.prog 93 [.agg [.str a0, .int .i64 a1, .int .i64 a2, .int .i64 a3, .str a4, .sl a5, .sl a6], .agg [.str a0, .int .i64 a1, .int .i64 a2, .int .i64 a3, .str a4, .sl a5, .sl a6]] (.d (.bool true)) := by
 refine ACalls.enter (fn := Tryz.f93) Tryz.func93 rfl (by show 2 ≤ _; decide) ?_
 refine run_sound Tryz.func93 mixed 100 _ _ (by kernel_rfl) ?_
 simp only [go_sem, seval, bne_self_eq_false]
 refine h3.calls rfl ?_
 simp only [go_sem, seval, bne_self_eq_false]
theorem len119 {x : List D} (h : Sh Tryz.prog 119 x) : x.length = 7 := by
 obtain ⟨_, _, _, _, _, _, _, rfl, _⟩ := inv119 h
 rfl
theorem szc119 : ∀ (m : Nat) (x : List D), wtL x < m → Sh Tryz.prog 119 x → ∀ n : Int, 0 ≤ n → n ≤ 1048576 → Gives Tryz.prog 74 [.agg x, .int .i64 n] (.d (.int .i64 (szr n (wtL x))))
 | 0, _, hm, _ => by omega
 | m + 1, x, hm, h => by
  obtain ⟨a0, a1, a2, a3, a4, a5, a6, rfl, q0, q1, q2, q3, q4, q5, q6⟩ := inv119 h
  have hw : wtL [.str a0, .int .i64 a1, .int .i64 a2, .int .i64 a3, .str a4, .sl a5, .sl a6] = a0.length + wtL [.int .i64 a3, .str a4, .sl a5, .sl a6] := by simp only [wtL, D.wt] <;> omega
  exact fun n g0 g1 => sz74 a0 a1 a2 a3 a4 a5 a6 q0 (fun n g0 g1 => szc38 _ [.int .i64 a3, .str a4, .sl a5, .sl a6] (Nat.lt_succ_self _) (mk38 a3 a4 a5 a6 q3 q4 q5 q6) n g0 g1) n g0 g1
theorem toc119 : ∀ (m : Nat) (x : List D), wtL x < m → wtL x ≤ 1048576 → Sh Tryz.prog 119 x → Gives Tryz.prog 84 [.agg x] (.d (.agg x))
 | 0, _, hm, _, _ => by omega
 | m + 1, x, hm, hb, h => by
  obtain ⟨a0, a1, a2, a3, a4, a5, a6, rfl, q0, q1, q2, q3, q4, q5, q6⟩ := inv119 h
  have hw : wtL [.str a0, .int .i64 a1, .int .i64 a2, .int .i64 a3, .str a4, .sl a5, .sl a6] = a0.length + wtL [.int .i64 a3, .str a4, .sl a5, .sl a6] := by simp only [wtL, D.wt] <;> omega
  exact to84 a0 a1 a2 a3 a4 a5 a6 (toc38 _ [.int .i64 a3, .str a4, .sl a5, .sl a6] (Nat.lt_succ_self _) (by omega) (mk38 a3 a4 a5 a6 q3 q4 q5 q6))
theorem eqc119 : ∀ (m : Nat) (x : List D), wtL x < m → Sh Tryz.prog 119 x → Gives Tryz.prog 93 [.agg x, .agg x] (.d (.bool true))
 | 0, _, hm, _ => by omega
 | m + 1, x, hm, h => by
  obtain ⟨a0, a1, a2, a3, a4, a5, a6, rfl, q0, q1, q2, q3, q4, q5, q6⟩ := inv119 h
  have hw : wtL [.str a0, .int .i64 a1, .int .i64 a2, .int .i64 a3, .str a4, .sl a5, .sl a6] = a0.length + wtL [.int .i64 a3, .str a4, .sl a5, .sl a6] := by simp only [wtL, D.wt] <;> omega
  exact eq93 a0 a1 a2 a3 a4 a5 a6 (eqc38 _ [.int .i64 a3, .str a4, .sl a5, .sl a6] (Nat.lt_succ_self _) (mk38 a3 a4 a5 a6 q3 q4 q5 q6))
theorem sh_Rl (x : List D) (h : Sh Tryz.prog 119 x) : ∃ t, x = Rl.enc t := Rl.of_sh lv119 sh_Tm sh_Gl x h
theorem szs22 (xs : List (List D)) (hm : xs.length ≤ maxLen) (h : ∀ x, x ∈ xs → Sh Tryz.prog 119 x) (n : Int) (g0 : 0 ≤ n) (g1 : n ≤ 1048576) : Gives Tryz.prog 31 [.sl xs, .int .i64 n] (.d (.int .i64 (szr n (wtR xs)))) :=
 sz31 xs hm (fun x hx => ⟨len119 (h x hx), szc119 _ x (Nat.lt_succ_self _) (h x hx)⟩) n g0 g1
theorem tos22 (xs : List (List D)) (hb : wtR xs ≤ 1048576) (h : ∀ x, x ∈ xs → Sh Tryz.prog 119 x) : Gives Tryz.prog 35 [.sl xs] (.d (.sl xs)) :=
 to35 xs (by have := sumW_le xs 0; omega) (fun x hx => ⟨len119 (h x hx), toc119 _ x (Nat.lt_succ_self _) (by have := wtL_lt xs x hx; omega) (h x hx)⟩)
theorem eqs22 (xs : List (List D)) (hm : xs.length ≤ maxLen) (h : ∀ x, x ∈ xs → Sh Tryz.prog 119 x) : Gives Tryz.prog 40 [.sl xs, .sl xs] (.d (.bool true)) :=
 eq40 xs hm (fun x hx => ⟨len119 (h x hx), eqc119 _ x (Nat.lt_succ_self _) (h x hx)⟩)
theorem lv24 : leaves Tryz.prog 6 24 = some [.sl 119] := by kernel_rfl
theorem inv24 {x : List D} (h : Sh Tryz.prog 24 x) : ∃ a0, x = [.sl a0] ∧ (a0.length ≤ maxLen ∧ ∀ x, x ∈ a0 → Sh Tryz.prog 119 x) := by
 obtain ⟨ls, h1, h2, h3⟩ := h
 rw [lv24] at h1
 cases h1
 match x, h2, h3 with
 | [c0], _, h3 =>
  have g0 := h3 0 _ _ rfl rfl
  obtain ⟨b0, rfl, q0⟩ := g0.elems
  exact ⟨_, rfl, q0⟩
theorem sz6 (a0 : List (List D)) (h0 : ∀ n : Int, 0 ≤ n → n ≤ 1048576 → Gives Tryz.prog 31 [.sl a0, .int .i64 n] (.d (.int .i64 (szr n (wtR a0)))))
  (n : Int) (g0 : 0 ≤ n) (g1 : n ≤ 1048576) : Gives Tryz.prog 6 [.agg [.sl a0], .int .i64 n] (.d (.int .i64 (szr n (wtL [.sl a0])))) := by
 have hw : wtL [.sl a0] = wtR a0 := by simp only [wtL, D.wt] <;> omega
 rw [hw]
 refine ACalls.enter (fn := Tryz.f6) Tryz.func6 rfl (by show 2 ≤ _; decide) ?_
 refine run_sound Tryz.func6 mixed 100 _ _ (by kernel_rfl) ?_
 simp only [go_sem, seval]
 refine (h0 _ (by omega) (by omega)).calls rfl ?_
 simp only [go_sem, seval]
 refine br_intro (fun h => ?_) (fun h => ?_)
 ·simp only [decide_eq_true_eq] at h
  have hg := szr_lt h
  simp only [go_sem, seval]
  rw [szr_neg (by omega)]
 simp only [decide_eq_false_iff_not] at h
 have hg := szr_ge h
 rw [szr_pos hg]
 clear h
 simp only [go_sem, seval]
 all_goals rw [szr_pos (by omega)]
 all_goals (congr 2 <;> omega)
theorem to8 (a0 : List (List D)) (h0 : Gives Tryz.prog 35 [.sl a0] (.d (.sl a0))) : Gives Tryz.prog 8 [.agg [.sl a0]] (.d (.agg [.sl a0])) := by
 refine ACalls.enter (fn := Tryz.f8) Tryz.func8 rfl (by show 1 ≤ _; decide) ?_
 refine run_sound Tryz.func8 mixed 100 _ _ (by kernel_rfl) ?_
 simp only [go_sem, seval]
 refine h0.calls rfl ?_
 simp only [go_sem, seval]
theorem eq10 (a0 : List (List D)) (h0 : Gives Tryz.prog 40 [.sl a0, .sl a0] (.d (.bool true))) : Gives Tryz.prog 10 [.agg [.sl a0], .agg [.sl a0]] (.d (.bool true)) := by
 refine ACalls.enter (fn := Tryz.f10) Tryz.func10 rfl (by show 2 ≤ _; decide) ?_
 refine run_sound Tryz.func10 mixed 100 _ _ (by kernel_rfl) ?_
 simp only [go_sem, seval, bne_self_eq_false]
 refine h0.calls rfl ?_
 simp only [go_sem, seval, bne_self_eq_false]
theorem szc24 : ∀ (m : Nat) (x : List D), wtL x < m → Sh Tryz.prog 24 x → ∀ n : Int, 0 ≤ n → n ≤ 1048576 → Gives Tryz.prog 6 [.agg x, .int .i64 n] (.d (.int .i64 (szr n (wtL x))))
 | 0, _, hm, _ => by omega
 | m + 1, x, hm, h => by
  obtain ⟨a0, rfl, q0⟩ := inv24 h
  have hw : wtL [.sl a0] = wtR a0 := by simp only [wtL, D.wt] <;> omega
  exact fun n g0 g1 => sz6 a0 (fun n g0 g1 => szs22 a0 q0.1 q0.2 n g0 g1) n g0 g1
theorem toc24 : ∀ (m : Nat) (x : List D), wtL x < m → wtL x ≤ 1048576 → Sh Tryz.prog 24 x → Gives Tryz.prog 8 [.agg x] (.d (.agg x))
 | 0, _, hm, _, _ => by omega
 | m + 1, x, hm, hb, h => by
  obtain ⟨a0, rfl, q0⟩ := inv24 h
  have hw : wtL [.sl a0] = wtR a0 := by simp only [wtL, D.wt] <;> omega
  exact to8 a0 (tos22 a0 (by omega) q0.2)
theorem eqc24 : ∀ (m : Nat) (x : List D), wtL x < m → Sh Tryz.prog 24 x → Gives Tryz.prog 10 [.agg x, .agg x] (.d (.bool true))
 | 0, _, hm, _ => by omega
 | m + 1, x, hm, h => by
  obtain ⟨a0, rfl, q0⟩ := inv24 h
  have hw : wtL [.sl a0] = wtR a0 := by simp only [wtL, D.wt] <;> omega
  exact eq10 a0 (eqs22 a0 q0.1 q0.2)
theorem sh_Pg (x : List D) (h : Sh Tryz.prog 24 x) : ∃ t, x = Pg.enc t := Pg.of_sh lv24 sh_Rl x h
end Go.Proofs.YtbncaodnnbldmaaGreat
