import Derived.Test.YtfniakcjekooiaaGreatFx
namespace Go.Proofs.YtfniakcjekooiaaGreat
open Go.Abs
set_option maxRecDepth 100000
set_option maxHeartbeats 4000000
set_option linter.unusedSimpArgs false
set_option linter.unusedVariables false
theorem lv103 : leaves Tryz.prog 6 103 = some [.int .i64, .int .i64, .str, .sl 103] := by kernel_rfl
theorem inv103 {x : List D} (h : Sh Tryz.prog 103 x) : ∃ a0 a1 a2 a3, x = [.int .i64 a0, .int .i64 a1, .str a2, .sl a3] ∧ (Lit.int .i64 a0).wf = true ∧ (Lit.int .i64 a1).wf = true ∧ a2.length ≤ maxLen ∧ (a3.length ≤ maxLen ∧ ∀ x, x ∈ a3 → Sh Tryz.prog 103 x) := by
 obtain ⟨ls, h1, h2, h3⟩ := h
 rw [lv103] at h1
 cases h1
 match x, h2, h3 with
 | [c0, c1, c2, c3], _, h3 =>
  have g0 := h3 0 _ _ rfl rfl
  have g1 := h3 1 _ _ rfl rfl
  have g2 := h3 2 _ _ rfl rfl
  have g3 := h3 3 _ _ rfl rfl
  obtain ⟨b0, rfl, q0⟩ := g0.int_inv
  obtain ⟨b1, rfl, q1⟩ := g1.int_inv
  obtain ⟨b2, rfl, q2⟩ := g2.str_inv
  obtain ⟨b3, rfl, q3⟩ := g3.elems
  exact ⟨_, _, _, _, rfl, q0, q1, q2, q3⟩
theorem sz57 (xs : List (List D)) (hm : xs.length ≤ maxLen) (hx : ∀ x, x ∈ xs → x.length = 4 ∧ ∀ n : Int, 0 ≤ n → n ≤ 1048576 → Gives Tryz.prog 74 [.agg x, .int .i64 n] (.d (.int .i64 (szr n (wtL x)))))
  (n : Int) (h0 : 0 ≤ n) (h1 : n ≤ 1048576) : Gives Tryz.prog 57 [.sl xs, .int .i64 n] (.d (.int .i64 (szr n (wtR xs)))) := by
 have hm' : (xs.length : Int) ≤ 9223372036854775807 := by simp only [maxLen] at hm; omega
 have hs := sumW_all xs
 have hs0 := sumW_le xs 0
 simp only [sumW] at hs0
 refine ACalls.enter (fn := Tryz.f57) Tryz.func57 rfl (by show 2 ≤ _; decide) ?_
 refine run_sound Tryz.func57 mixed 100 _ _ (by kernel_rfl) ?_
 simp only [go_sem, seval]
 rw [wrap_ok (by omega) (by omega)]
 refine br_intro (fun h => ?_) (fun h => ?_)
 ·simp only [decide_eq_true_eq] at h
  simp only [go_sem, seval]
  rw [szr_neg (by omega)]
 simp only [decide_eq_false_iff_not, Int.not_lt] at h
 simp only [go_sem, seval]
 refine AW.loop_ind (fun i : Nat => ⟨[(5, .d (.int .i64 i)), (0, .d (.sl xs)), (1, .d (.int .i64 (n - xs.length - sumW xs i))), (4, .d (.int .i64 0))], []⟩) (fun i => i ≤ xs.length ∧ (sumW xs i : Int) ≤ n - xs.length) (fun i => xs.length - i) 0 ⟨by omega, by simp only [sumW]; omega⟩ ?_ ?_
 ·refine Weak.of (by simp) rfl ?_
  simp [Abs.get, sumW, C.refsLtT, C.refsLt, C.refsLt1]
 ·intro i hi hnext
  obtain ⟨hi1, hi2⟩ := hi
  refine run_sound Tryz.func57 mixed 100 _ _ (by kernel_rfl) ?_
  simp only [go_sem, seval]
  refine br_intro (fun h => ?_) (fun h => ?_)
  ·simp only [decide_eq_true_eq] at h
   have hi : i < xs.length := by omega
   obtain ⟨x, hxi⟩ : ∃ x, xs[i]? = some x := ⟨_, List.getElem?_eq_getElem hi⟩
   have hsum := sumW_at hxi
   have hle := sumW_le xs (i + 1)
   obtain ⟨e1, e2⟩ := hx x (List.mem_of_getElem? hxi)
   simp only [go_sem, seval, Int.toNat_natCast, hxi, idx_of hxi, e1]
   repeat refine And.intro (by omega) ?_
   refine (e2 _ (by omega) (by omega)).calls rfl ?_
   simp only [go_sem, seval]
   refine br_intro (fun h => ?_) (fun h => ?_)
   ·simp only [decide_eq_true_eq] at h
    have hg := szr_lt h
    simp only [go_sem, seval]
    rw [szr_neg (by omega)]
   ·simp only [decide_eq_false_iff_not] at h
    have hg := szr_ge h
    rw [szr_pos hg]
    simp only [go_sem, seval]
    rw [wrap_ok (by omega) (by omega)]
    refine hnext (i + 1) _ ⟨by omega, by omega⟩ (by omega) ?_
    refine Weak.of (by simp) rfl ?_
    simp [Abs.get, C.refsLtT, C.refsLt, C.refsLt1]
    omega
  ·simp only [decide_eq_false_iff_not] at h
   have : i = xs.length := by omega
   subst this
   simp only [go_sem, seval]
   rw [szr_pos (by omega)]
   all_goals (congr 2 <;> omega)
theorem sz74 (a0 : Int) (a1 : Int) (a2 : List UInt8) (a3 : List (List D)) (h2 : a2.length ≤ maxLen) (h3 : ∀ n : Int, 0 ≤ n → n ≤ 1048576 → Gives Tryz.prog 57 [.sl a3, .int .i64 n] (.d (.int .i64 (szr n (wtR a3)))))
  (n : Int) (g0 : 0 ≤ n) (g1 : n ≤ 1048576) : Gives Tryz.prog 74 [.agg [.int .i64 a0, .int .i64 a1, .str a2, .sl a3], .int .i64 n] (.d (.int .i64 (szr n (wtL [.int .i64 a0, .int .i64 a1, .str a2, .sl a3])))) := by
 have hw : wtL [.int .i64 a0, .int .i64 a1, .str a2, .sl a3] = a2.length + wtR a3 := by simp only [wtL, D.wt] <;> omega
 simp only [maxLen] at h2
 rw [hw]
 refine ACalls.enter (fn := Tryz.f74) Tryz.func74 rfl (by show 2 ≤ _; decide) ?_
 refine run_sound Tryz.func74 mixed 100 _ _ (by kernel_rfl) ?_
 simp only [go_sem, seval]
 rw [wrap_ok (by omega) (by omega)]
 refine br_intro (fun h => ?_) (fun h => ?_)
 ·simp only [decide_eq_true_eq] at h
  simp only [go_sem, seval]
  rw [szr_neg (by omega)]
 simp only [decide_eq_false_iff_not, Int.not_lt] at h
 simp only [go_sem, seval]
 refine (h3 _ (by omega) (by omega)).calls rfl ?_
 simp only [go_sem, seval]
 refine br_intro (fun h => ?_) (fun h => ?_)
 ·simp only [decide_eq_true_eq] at h
  have hg := szr_lt h
  simp only [go_sem, seval]
  rw [szr_neg (by omega)]
 simp only [decide_eq_false_iff_not] at h
 have hg := szr_ge h
 rw [szr_pos hg]
 clear h
 simp only [go_sem, seval]
 all_goals rw [szr_pos (by omega)]
 all_goals (congr 2 <;> omega)
theorem to64 (xs : List (List D)) (hl : xs.length ≤ 1048576) (hx : ∀ x, x ∈ xs → x.length = 4 ∧ Gives Tryz.prog 77 [.agg x] (.d (.agg x))) : Gives Tryz.prog 64 [.sl xs] (.d (.sl xs)) := by
 refine ACalls.enter (fn := Tryz.f64) Tryz.func64 rfl (by show 1 ≤ _; decide) ?_
 refine run_sound Tryz.func64 mixed 100 _ _ (by kernel_rfl) ?_
 simp only [go_sem, seval, Int.toNat_natCast]
 repeat refine And.intro (by first | omega | (simp only [maxLen]; omega)) ?_
 refine AW.loop_ind (fun i : Nat => ⟨[(4, .d (.int .i64 i)), (0, .d (.sl xs)), (3, .rsl 0 xs.length), (2, .nil0)], [.row 4 78 (xs.take i ++ List.replicate (xs.length - i) [.int .i64 0, .int .i64 0, .str [], .sl []])]⟩) (fun i => i ≤ xs.length) (fun i => xs.length - i) 0 (by omega) ?_ ?_
 ·refine Weak.of (by simp) rfl ?_
  simp [Abs.get, C.refsLtT, C.refsLt, C.refsLt1]
 ·intro i hi hnext
  by_cases h : i < xs.length
  ·obtain ⟨x, hxi⟩ : ∃ x, xs[i]? = some x := ⟨_, List.getElem?_eq_getElem h⟩
   obtain ⟨e1, e2⟩ := hx x (List.mem_of_getElem? hxi)
   have hlt : ((i : Int) < (xs.length : Int)) = True := by simp; omega
   refine run_sound Tryz.func64 mixed 100 _ _ (by kernel_rfl) ?_
   simp only [go_sem, seval, Int.toNat_natCast, hlt, hxi, idx_of hxi, e1]
   repeat refine And.intro (by omega) ?_
   refine e2.calls rfl ?_
   simp only [go_sem, seval, Int.toNat_natCast, hlt, hxi, idx_of hxi, e1]
   repeat refine And.intro (by first | omega | (simp; omega) | (simp_all; done)) ?_
   rw [wrap_ok (by omega) (by omega)]
   first | rw [row_step (k := 4) hxi (by rfl)] | rw [row_step1 hxi (by rfl)]
   refine hnext (i + 1) _ (by omega) (by omega) ?_
   refine Weak.of (by simp) rfl ?_
   simp [Abs.get, C.refsLtT, C.refsLt, C.refsLt1]
  ·have hlt : ((i : Int) < (xs.length : Int)) = False := by simp; omega
   refine run_sound Tryz.func64 mixed 6 _ _ (by kernel_rfl) ?_
   simp only [go_sem, seval, Int.toNat_natCast, hlt]
   obtain rfl : i = xs.length := by omega
   rw [row_all]
   refine AW.freeze 3 0 rfl rfl rfl ?_
   refine run_sound Tryz.func64 mixed 100 _ _ (by kernel_rfl) ?_
   simp only [go_sem, seval]
theorem to77 (a0 : Int) (a1 : Int) (a2 : List UInt8) (a3 : List (List D)) (h3 : Gives Tryz.prog 64 [.sl a3] (.d (.sl a3))) : Gives Tryz.prog 77 [.agg [.int .i64 a0, .int .i64 a1, .str a2, .sl a3]] (.d (.agg [.int .i64 a0, .int .i64 a1, .str a2, .sl a3])) := by
 refine ACalls.enter (fn := Tryz.f77) Tryz.func77 rfl (by show 1 ≤ _; decide) ?_
 refine run_sound Tryz.func77 mixed 100 _ _ (by kernel_rfl) ?_
 simp only [go_sem, seval]
 refine h3.calls rfl ?_
 simp only [go_sem, seval]
theorem eq72 (xs : List (List D)) (hm : xs.length ≤ maxLen) (hx : ∀ x, x ∈ xs → x.length = 4 ∧ Gives Tryz.prog 83 [.agg x, .agg x] (.d (.bool true))) : Gives Tryz.prog 72 [.sl xs, .sl xs] (.d (.bool true)) := by
 have hm' : (xs.length : Int) ≤ 9223372036854775807 := by simp only [maxLen] at hm; omega
 refine ACalls.enter (fn := Tryz.f72) Tryz.func72 rfl (by show 2 ≤ _; decide) ?_
 refine run_sound Tryz.func72 mixed 100 _ _ (by kernel_rfl) ?_
 simp only [go_sem, seval, bne_self_eq_false]
 refine AW.loop_ind (fun i : Nat => ⟨[(5, .d (.int .i64 i)), (0, .d (.sl xs)), (1, .d (.sl xs)), (4, .d (.bool false))], []⟩) (fun i => i ≤ xs.length) (fun i => xs.length - i) 0 (by omega) ?_ ?_
 ·refine Weak.of (by simp) rfl ?_
  simp [Abs.get, C.refsLtT, C.refsLt, C.refsLt1]
 ·intro i hi hnext
  by_cases h : i < xs.length
  ·obtain ⟨x, hxi⟩ : ∃ x, xs[i]? = some x := ⟨_, List.getElem?_eq_getElem h⟩
   obtain ⟨e1, e2⟩ := hx x (List.mem_of_getElem? hxi)
   have hlt : ((i : Int) < (xs.length : Int)) = True := by simp; omega
   have h00 : (0 ≤ (i : Int)) = True := by simp
   refine run_sound Tryz.func72 mixed 100 _ _ (by kernel_rfl) ?_
   simp only [go_sem, seval, Int.toNat_natCast, hlt, hxi, idx_of hxi, e1, h00, bne_self_eq_false]
   refine e2.callQ rfl ?_
   simp only [go_sem, seval]
   rw [wrap_ok (by omega) (by omega)]
   refine hnext (i + 1) _ (by omega) (by omega) ?_
   refine Weak.of (by simp) rfl ?_
   simp [Abs.get, C.refsLtT, C.refsLt, C.refsLt1]
  ·have hlt : ((i : Int) < (xs.length : Int)) = False := by simp; omega
   refine run_sound Tryz.func72 mixed 100 _ _ (by kernel_rfl) ?_
   simp only [go_sem, seval, hlt]
theorem eq83 (a0 : Int) (a1 : Int) (a2 : List UInt8) (a3 : List (List D)) (h3 : Gives Tryz.prog 72 [.sl a3, .sl a3] (.d (.bool true))) : Gives Tryz.prog 83 [.agg [.int .i64 a0, .int .i64 a1, .str a2, .sl a3], .agg [.int .i64 a0, .int .i64 a1, .str a2, .sl a3]] (.d (.bool true)) := by
 refine ACalls.enter (fn := Tryz.f83) Tryz.func83 rfl (by show 2 ≤ _; decide) ?_
 refine run_sound Tryz.func83 mixed 100 _ _ (by kernel_rfl) ?_
 simp only [go_sem, seval, bne_self_eq_false]
 refine h3.calls rfl ?_
 simp only [go_sem, seval, bne_self_eq_false]
theorem len103 {x : List D} (h : Sh Tryz.prog 103 x) : x.length = 4 := by
 obtain ⟨_, _, _, _, rfl, _⟩ := inv103 h
 rfl
theorem szc103 : ∀ (m : Nat) (x : List D), wtL x < m → Sh Tryz.prog 103 x → ∀ n : Int, 0 ≤ n → n ≤ 1048576 → Gives Tryz.prog 74 [.agg x, .int .i64 n] (.d (.int .i64 (szr n (wtL x))))
 | 0, _, hm, _ => by omega
 | m + 1, x, hm, h => by
  obtain ⟨a0, a1, a2, a3, rfl, q0, q1, q2, q3⟩ := inv103 h
  have hw : wtL [.int .i64 a0, .int .i64 a1, .str a2, .sl a3] = a2.length + wtR a3 := by simp only [wtL, D.wt] <;> omega
  exact fun n g0 g1 => sz74 a0 a1 a2 a3 q2 (fun n g0 g1 => sz57 a3 q3.1 (fun x hx => ⟨len103 (q3.2 x hx), szc103 m x (by have := wtL_lt a3 x hx; omega) (q3.2 x hx)⟩) n g0 g1) n g0 g1
theorem toc103 : ∀ (m : Nat) (x : List D), wtL x < m → wtL x ≤ 1048576 → Sh Tryz.prog 103 x → Gives Tryz.prog 77 [.agg x] (.d (.agg x))
 | 0, _, hm, _, _ => by omega
 | m + 1, x, hm, hb, h => by
  obtain ⟨a0, a1, a2, a3, rfl, q0, q1, q2, q3⟩ := inv103 h
  have hw : wtL [.int .i64 a0, .int .i64 a1, .str a2, .sl a3] = a2.length + wtR a3 := by simp only [wtL, D.wt] <;> omega
  exact to77 a0 a1 a2 a3 (to64 a3 (by have := sumW_le a3 0; omega) (fun x hx => ⟨len103 (q3.2 x hx), toc103 m x (by have := wtL_lt a3 x hx; omega) (by have := wtL_lt a3 x hx; omega) (q3.2 x hx)⟩))
theorem eqc103 : ∀ (m : Nat) (x : List D), wtL x < m → Sh Tryz.prog 103 x → Gives Tryz.prog 83 [.agg x, .agg x] (.d (.bool true))
 | 0, _, hm, _ => by omega
 | m + 1, x, hm, h => by
  obtain ⟨a0, a1, a2, a3, rfl, q0, q1, q2, q3⟩ := inv103 h
  have hw : wtL [.int .i64 a0, .int .i64 a1, .str a2, .sl a3] = a2.length + wtR a3 := by simp only [wtL, D.wt] <;> omega
  exact eq83 a0 a1 a2 a3 (eq72 a3 q3.1 (fun x hx => ⟨len103 (q3.2 x hx), eqc103 m x (by have := wtL_lt a3 x hx; omega) (q3.2 x hx)⟩))
theorem sh_Tm (x : List D) (h : Sh Tryz.prog 103 x) : ∃ t, x = Tm.enc t := Tm.of_sh lv103 x h
theorem szs56 (xs : List (List D)) (hm : xs.length ≤ maxLen) (h : ∀ x, x ∈ xs → Sh Tryz.prog 103 x) (n : Int) (g0 : 0 ≤ n) (g1 : n ≤ 1048576) : Gives Tryz.prog 57 [.sl xs, .int .i64 n] (.d (.int .i64 (szr n (wtR xs)))) :=
 sz57 xs hm (fun x hx => ⟨len103 (h x hx), szc103 _ x (Nat.lt_succ_self _) (h x hx)⟩) n g0 g1
theorem tos56 (xs : List (List D)) (hb : wtR xs ≤ 1048576) (h : ∀ x, x ∈ xs → Sh Tryz.prog 103 x) : Gives Tryz.prog 64 [.sl xs] (.d (.sl xs)) :=
 to64 xs (by have := sumW_le xs 0; omega) (fun x hx => ⟨len103 (h x hx), toc103 _ x (Nat.lt_succ_self _) (by have := wtL_lt xs x hx; omega) (h x hx)⟩)
theorem eqs56 (xs : List (List D)) (hm : xs.length ≤ maxLen) (h : ∀ x, x ∈ xs → Sh Tryz.prog 103 x) : Gives Tryz.prog 72 [.sl xs, .sl xs] (.d (.bool true)) :=
 eq72 xs hm (fun x hx => ⟨len103 (h x hx), eqc103 _ x (Nat.lt_succ_self _) (h x hx)⟩)
theorem lv59 : leaves Tryz.prog 6 59 = some [.int .i64, .str, .sl 103, .sl 59] := by kernel_rfl
theorem inv59 {x : List D} (h : Sh Tryz.prog 59 x) : ∃ a0 a1 a2 a3, x = [.int .i64 a0, .str a1, .sl a2, .sl a3] ∧ (Lit.int .i64 a0).wf = true ∧ a1.length ≤ maxLen ∧ (a2.length ≤ maxLen ∧ ∀ x, x ∈ a2 → Sh Tryz.prog 103 x) ∧ (a3.length ≤ maxLen ∧ ∀ x, x ∈ a3 → Sh Tryz.prog 59 x) := by
 obtain ⟨ls, h1, h2, h3⟩ := h
 rw [lv59] at h1
 cases h1
 match x, h2, h3 with
 | [c0, c1, c2, c3], _, h3 =>
  have g0 := h3 0 _ _ rfl rfl
  have g1 := h3 1 _ _ rfl rfl
  have g2 := h3 2 _ _ rfl rfl
  have g3 := h3 3 _ _ rfl rfl
  obtain ⟨b0, rfl, q0⟩ := g0.int_inv
  obtain ⟨b1, rfl, q1⟩ := g1.str_inv
  obtain ⟨b2, rfl, q2⟩ := g2.elems
  obtain ⟨b3, rfl, q3⟩ := g3.elems
  exact ⟨_, _, _, _, rfl, q0, q1, q2, q3⟩
theorem sz58 (xs : List (List D)) (hm : xs.length ≤ maxLen) (hx : ∀ x, x ∈ xs → x.length = 4 ∧ ∀ n : Int, 0 ≤ n → n ≤ 1048576 → Gives Tryz.prog 40 [.agg x, .int .i64 n] (.d (.int .i64 (szr n (wtL x)))))
  (n : Int) (h0 : 0 ≤ n) (h1 : n ≤ 1048576) : Gives Tryz.prog 58 [.sl xs, .int .i64 n] (.d (.int .i64 (szr n (wtR xs)))) := by
 have hm' : (xs.length : Int) ≤ 9223372036854775807 := by simp only [maxLen] at hm; omega
 have hs := sumW_all xs
 have hs0 := sumW_le xs 0
 simp only [sumW] at hs0
 refine ACalls.enter (fn := Tryz.f58) Tryz.func58 rfl (by show 2 ≤ _; decide) ?_
 refine run_sound Tryz.func58 mixed 100 _ _ (by kernel_rfl) ?_
 simp only [go_sem, seval]
 rw [wrap_ok (by omega) (by omega)]
 refine br_intro (fun h => ?_) (fun h => ?_)
 ·simp only [decide_eq_true_eq] at h
  simp only [go_sem, seval]
  rw [szr_neg (by omega)]
 simp only [decide_eq_false_iff_not, Int.not_lt] at h
 simp only [go_sem, seval]
 refine AW.loop_ind (fun i : Nat => ⟨[(5, .d (.int .i64 i)), (0, .d (.sl xs)), (1, .d (.int .i64 (n - xs.length - sumW xs i))), (4, .d (.int .i64 0))], []⟩) (fun i => i ≤ xs.length ∧ (sumW xs i : Int) ≤ n - xs.length) (fun i => xs.length - i) 0 ⟨by omega, by simp only [sumW]; omega⟩ ?_ ?_
 ·refine Weak.of (by simp) rfl ?_
  simp [Abs.get, sumW, C.refsLtT, C.refsLt, C.refsLt1]
 ·intro i hi hnext
  obtain ⟨hi1, hi2⟩ := hi
  refine run_sound Tryz.func58 mixed 100 _ _ (by kernel_rfl) ?_
  simp only [go_sem, seval]
  refine br_intro (fun h => ?_) (fun h => ?_)
  ·simp only [decide_eq_true_eq] at h
   have hi : i < xs.length := by omega
   obtain ⟨x, hxi⟩ : ∃ x, xs[i]? = some x := ⟨_, List.getElem?_eq_getElem hi⟩
   have hsum := sumW_at hxi
   have hle := sumW_le xs (i + 1)
   obtain ⟨e1, e2⟩ := hx x (List.mem_of_getElem? hxi)
   simp only [go_sem, seval, Int.toNat_natCast, hxi, idx_of hxi, e1]
   repeat refine And.intro (by omega) ?_
   refine (e2 _ (by omega) (by omega)).calls rfl ?_
   simp only [go_sem, seval]
   refine br_intro (fun h => ?_) (fun h => ?_)
   ·simp only [decide_eq_true_eq] at h
    have hg := szr_lt h
    simp only [go_sem, seval]
    rw [szr_neg (by omega)]
   ·simp only [decide_eq_false_iff_not] at h
    have hg := szr_ge h
    rw [szr_pos hg]
    simp only [go_sem, seval]
    rw [wrap_ok (by omega) (by omega)]
    refine hnext (i + 1) _ ⟨by omega, by omega⟩ (by omega) ?_
    refine Weak.of (by simp) rfl ?_
    simp [Abs.get, C.refsLtT, C.refsLt, C.refsLt1]
    omega
  ·simp only [decide_eq_false_iff_not] at h
   have : i = xs.length := by omega
   subst this
   simp only [go_sem, seval]
   rw [szr_pos (by omega)]
   all_goals (congr 2 <;> omega)
theorem sz40 (a0 : Int) (a1 : List UInt8) (a2 : List (List D)) (a3 : List (List D)) (h1 : a1.length ≤ maxLen) (h2 : ∀ n : Int, 0 ≤ n → n ≤ 1048576 → Gives Tryz.prog 57 [.sl a2, .int .i64 n] (.d (.int .i64 (szr n (wtR a2))))) (h3 : ∀ n : Int, 0 ≤ n → n ≤ 1048576 → Gives Tryz.prog 58 [.sl a3, .int .i64 n] (.d (.int .i64 (szr n (wtR a3)))))
  (n : Int) (g0 : 0 ≤ n) (g1 : n ≤ 1048576) : Gives Tryz.prog 40 [.agg [.int .i64 a0, .str a1, .sl a2, .sl a3], .int .i64 n] (.d (.int .i64 (szr n (wtL [.int .i64 a0, .str a1, .sl a2, .sl a3])))) := by
 have hw : wtL [.int .i64 a0, .str a1, .sl a2, .sl a3] = a1.length + wtR a2 + wtR a3 := by simp only [wtL, D.wt] <;> omega
 simp only [maxLen] at h1
 rw [hw]
 refine ACalls.enter (fn := Tryz.f40) Tryz.func40 rfl (by show 2 ≤ _; decide) ?_
 refine run_sound Tryz.func40 mixed 100 _ _ (by kernel_rfl) ?_
 simp only [go_sem, seval]
 rw [wrap_ok (by omega) (by omega)]
 refine br_intro (fun h => ?_) (fun h => ?_)
 ·simp only [decide_eq_true_eq] at h
  simp only [go_sem, seval]
  rw [szr_neg (by omega)]
 simp only [decide_eq_false_iff_not, Int.not_lt] at h
 simp only [go_sem, seval]
 refine (h2 _ (by omega) (by omega)).calls rfl ?_
 simp only [go_sem, seval]
 refine br_intro (fun h => ?_) (fun h => ?_)
 ·simp only [decide_eq_true_eq] at h
  have hg := szr_lt h
  simp only [go_sem, seval]
  rw [szr_neg (by omega)]
 simp only [decide_eq_false_iff_not] at h
 have hg := szr_ge h
 rw [szr_pos hg]
 clear h
 simp only [go_sem, seval]
 refine (h3 _ (by omega) (by omega)).calls rfl ?_
 simp only [go_sem, seval]
 refine br_intro (fun h => ?_) (fun h => ?_)
 ·simp only [decide_eq_true_eq] at h
  have hg := szr_lt h
  simp only [go_sem, seval]
  rw [szr_neg (by omega)]
 simp only [decide_eq_false_iff_not] at h
 have hg := szr_ge h
 rw [szr_pos hg]
 clear h
 simp only [go_sem, seval]
 all_goals rw [szr_pos (by omega)]
 all_goals (congr 2 <;> omega)
theorem to65 (xs : List (List D)) (hl : xs.length ≤ 1048576) (hx : ∀ x, x ∈ xs → x.length = 4 ∧ Gives Tryz.prog 47 [.agg x] (.d (.agg x))) : Gives Tryz.prog 65 [.sl xs] (.d (.sl xs)) := by
 refine ACalls.enter (fn := Tryz.f65) Tryz.func65 rfl (by show 1 ≤ _; decide) ?_
 refine run_sound Tryz.func65 mixed 100 _ _ (by kernel_rfl) ?_
 simp only [go_sem, seval, Int.toNat_natCast]
 repeat refine And.intro (by first | omega | (simp only [maxLen]; omega)) ?_
 refine AW.loop_ind (fun i : Nat => ⟨[(4, .d (.int .i64 i)), (0, .d (.sl xs)), (3, .rsl 0 xs.length), (2, .nil0)], [.row 4 43 (xs.take i ++ List.replicate (xs.length - i) [.int .i64 0, .str [], .sl [], .sl []])]⟩) (fun i => i ≤ xs.length) (fun i => xs.length - i) 0 (by omega) ?_ ?_
 ·refine Weak.of (by simp) rfl ?_
  simp [Abs.get, C.refsLtT, C.refsLt, C.refsLt1]
 ·intro i hi hnext
  by_cases h : i < xs.length
  ·obtain ⟨x, hxi⟩ : ∃ x, xs[i]? = some x := ⟨_, List.getElem?_eq_getElem h⟩
   obtain ⟨e1, e2⟩ := hx x (List.mem_of_getElem? hxi)
   have hlt : ((i : Int) < (xs.length : Int)) = True := by simp; omega
   refine run_sound Tryz.func65 mixed 100 _ _ (by kernel_rfl) ?_
   simp only [go_sem, seval, Int.toNat_natCast, hlt, hxi, idx_of hxi, e1]
   repeat refine And.intro (by omega) ?_
   refine e2.calls rfl ?_
   simp only [go_sem, seval, Int.toNat_natCast, hlt, hxi, idx_of hxi, e1]
   repeat refine And.intro (by first | omega | (simp; omega) | (simp_all; done)) ?_
   rw [wrap_ok (by omega) (by omega)]
   first | rw [row_step (k := 4) hxi (by rfl)] | rw [row_step1 hxi (by rfl)]
   refine hnext (i + 1) _ (by omega) (by omega) ?_
   refine Weak.of (by simp) rfl ?_
   simp [Abs.get, C.refsLtT, C.refsLt, C.refsLt1]
  ·have hlt : ((i : Int) < (xs.length : Int)) = False := by simp; omega
   refine run_sound Tryz.func65 mixed 6 _ _ (by kernel_rfl) ?_
   simp only [go_sem, seval, Int.toNat_natCast, hlt]
   obtain rfl : i = xs.length := by omega
   rw [row_all]
   refine AW.freeze 3 0 rfl rfl rfl ?_
   refine run_sound Tryz.func65 mixed 100 _ _ (by kernel_rfl) ?_
   simp only [go_sem, seval]
theorem to47 (a0 : Int) (a1 : List UInt8) (a2 : List (List D)) (a3 : List (List D)) (h2 : Gives Tryz.prog 64 [.sl a2] (.d (.sl a2))) (h3 : Gives Tryz.prog 65 [.sl a3] (.d (.sl a3))) : Gives Tryz.prog 47 [.agg [.int .i64 a0, .str a1, .sl a2, .sl a3]] (.d (.agg [.int .i64 a0, .str a1, .sl a2, .sl a3])) := by
 refine ACalls.enter (fn := Tryz.f47) Tryz.func47 rfl (by show 1 ≤ _; decide) ?_
 refine run_sound Tryz.func47 mixed 100 _ _ (by kernel_rfl) ?_
 simp only [go_sem, seval]
 refine h2.calls rfl ?_
 simp only [go_sem, seval]
 refine h3.calls rfl ?_
 simp only [go_sem, seval]
theorem eq73 (xs : List (List D)) (hm : xs.length ≤ maxLen) (hx : ∀ x, x ∈ xs → x.length = 4 ∧ Gives Tryz.prog 56 [.agg x, .agg x] (.d (.bool true))) : Gives Tryz.prog 73 [.sl xs, .sl xs] (.d (.bool true)) := by
 have hm' : (xs.length : Int) ≤ 9223372036854775807 := by simp only [maxLen] at hm; omega
 refine ACalls.enter (fn := Tryz.f73) Tryz.func73 rfl (by show 2 ≤ _; decide) ?_
 refine run_sound Tryz.func73 mixed 100 _ _ (by kernel_rfl) ?_
 simp only [go_sem, seval, bne_self_eq_false]
 refine AW.loop_ind (fun i : Nat => ⟨[(5, .d (.int .i64 i)), (0, .d (.sl xs)), (1, .d (.sl xs)), (4, .d (.bool false))], []⟩) (fun i => i ≤ xs.length) (fun i => xs.length - i) 0 (by omega) ?_ ?_
 ·refine Weak.of (by simp) rfl ?_
  simp [Abs.get, C.refsLtT, C.refsLt, C.refsLt1]
 ·intro i hi hnext
  by_cases h : i < xs.length
  ·obtain ⟨x, hxi⟩ : ∃ x, xs[i]? = some x := ⟨_, List.getElem?_eq_getElem h⟩
   obtain ⟨e1, e2⟩ := hx x (List.mem_of_getElem? hxi)
   have hlt : ((i : Int) < (xs.length : Int)) = True := by simp; omega
   have h00 : (0 ≤ (i : Int)) = True := by simp
   refine run_sound Tryz.func73 mixed 100 _ _ (by kernel_rfl) ?_
   simp only [go_sem, seval, Int.toNat_natCast, hlt, hxi, idx_of hxi, e1, h00, bne_self_eq_false]
   refine e2.callQ rfl ?_
   simp only [go_sem, seval]
   rw [wrap_ok (by omega) (by omega)]
   refine hnext (i + 1) _ (by omega) (by omega) ?_
   refine Weak.of (by simp) rfl ?_
   simp [Abs.get, C.refsLtT, C.refsLt, C.refsLt1]
  ·have hlt : ((i : Int) < (xs.length : Int)) = False := by simp; omega
   refine run_sound Tryz.func73 mixed 100 _ _ (by kernel_rfl) ?_
   simp only [go_sem, seval, hlt]
theorem eq56 (a0 : Int) (a1 : List UInt8) (a2 : List (List D)) (a3 : List (List D)) (h2 : Gives Tryz.prog 72 [.sl a2, .sl a2] (.d (.bool true))) (h3 : Gives Tryz.prog 73 [.sl a3, .sl a3] (.d (.bool true))) : Gives Tryz.prog 56 [.agg [.int .i64 a0, .str a1, .sl a2, .sl a3], .agg [.int .i64 a0, .str a1, .sl a2, .sl a3]] (.d (.bool true)) := by
 refine ACalls.enter (fn := Tryz.f56) Tryz.func56 rfl (by show 2 ≤ _; decide) ?_
 refine run_sound Tryz.func56 mixed 100 _ _ (by kernel_rfl) ?_
 simp only [go_sem, seval, bne_self_eq_false]
 refine h2.calls rfl ?_
 simp only [go_sem, seval, bne_self_eq_false]
 refine h3.calls rfl ?_
 simp only [go_sem, seval, bne_self_eq_false]
theorem mk59 (a0 : Int) (a1 : List UInt8) (a2 : List (List D)) (a3 : List (List D)) (q0 : (Lit.int .i64 a0).wf = true) (q1 : a1.length ≤ maxLen) (q2 : a2.length ≤ maxLen ∧ ∀ x, x ∈ a2 → Sh Tryz.prog 103 x) (q3 : a3.length ≤ maxLen ∧ ∀ x, x ∈ a3 → Sh Tryz.prog 59 x) : Sh Tryz.prog 59 [.int .i64 a0, .str a1, .sl a2, .sl a3] := by
 refine ⟨_, lv59, rfl, fun i l c hl hc => ?_⟩
 match i with
 | 0 => simp at hl hc; subst hl hc; exact .int _ _ q0
 | 1 => simp at hl hc; subst hl hc; exact .str _ q1
 | 2 => simp at hl hc; subst hl hc; exact ShC.sl_of lv103 q2.1 q2.2
 | 3 => simp at hl hc; subst hl hc; exact ShC.sl_of lv59 q3.1 q3.2
 | i + 4 => simp at hl
theorem len59 {x : List D} (h : Sh Tryz.prog 59 x) : x.length = 4 := by
 obtain ⟨_, _, _, _, rfl, _⟩ := inv59 h
 rfl
theorem szc59 : ∀ (m : Nat) (x : List D), wtL x < m → Sh Tryz.prog 59 x → ∀ n : Int, 0 ≤ n → n ≤ 1048576 → Gives Tryz.prog 40 [.agg x, .int .i64 n] (.d (.int .i64 (szr n (wtL x))))
 | 0, _, hm, _ => by omega
 | m + 1, x, hm, h => by
  obtain ⟨a0, a1, a2, a3, rfl, q0, q1, q2, q3⟩ := inv59 h
  have hw : wtL [.int .i64 a0, .str a1, .sl a2, .sl a3] = a1.length + wtR a2 + wtR a3 := by simp only [wtL, D.wt] <;> omega
  exact fun n g0 g1 => sz40 a0 a1 a2 a3 q1 (fun n g0 g1 => szs56 a2 q2.1 q2.2 n g0 g1) (fun n g0 g1 => sz58 a3 q3.1 (fun x hx => ⟨len59 (q3.2 x hx), szc59 m x (by have := wtL_lt a3 x hx; omega) (q3.2 x hx)⟩) n g0 g1) n g0 g1
theorem toc59 : ∀ (m : Nat) (x : List D), wtL x < m → wtL x ≤ 1048576 → Sh Tryz.prog 59 x → Gives Tryz.prog 47 [.agg x] (.d (.agg x))
 | 0, _, hm, _, _ => by omega
 | m + 1, x, hm, hb, h => by
  obtain ⟨a0, a1, a2, a3, rfl, q0, q1, q2, q3⟩ := inv59 h
  have hw : wtL [.int .i64 a0, .str a1, .sl a2, .sl a3] = a1.length + wtR a2 + wtR a3 := by simp only [wtL, D.wt] <;> omega
  exact to47 a0 a1 a2 a3 (tos56 a2 (by omega) q2.2) (to65 a3 (by have := sumW_le a3 0; omega) (fun x hx => ⟨len59 (q3.2 x hx), toc59 m x (by have := wtL_lt a3 x hx; omega) (by have := wtL_lt a3 x hx; omega) (q3.2 x hx)⟩))
theorem eqc59 : ∀ (m : Nat) (x : List D), wtL x < m → Sh Tryz.prog 59 x → Gives Tryz.prog 56 [.agg x, .agg x] (.d (.bool true))
 | 0, _, hm, _ => by omega
 | m + 1, x, hm, h => by
  obtain ⟨a0, a1, a2, a3, rfl, q0, q1, q2, q3⟩ := inv59 h
  have hw : wtL [.int .i64 a0, .str a1, .sl a2, .sl a3] = a1.length + wtR a2 + wtR a3 := by simp only [wtL, D.wt] <;> omega
  exact eq56 a0 a1 a2 a3 (eqs56 a2 q2.1 q2.2) (eq73 a3 q3.1 (fun x hx => ⟨len59 (q3.2 x hx), eqc59 m x (by have := wtL_lt a3 x hx; omega) (q3.2 x hx)⟩))
theorem sh_Gl (x : List D) (h : Sh Tryz.prog 59 x) : ∃ t, x = Gl.enc t := Gl.of_sh lv59 sh_Tm x h
theorem lv61 : leaves Tryz.prog 6 61 = some [.str, .int .i64, .int .i64, .int .i64, .str, .sl 103, .sl 59] := by kernel_rfl
theorem inv61 {x : List D} (h : Sh Tryz.prog 61 x) : ∃ a0 a1 a2 a3 a4 a5 a6, x = [.str a0, .int .i64 a1, .int .i64 a2, .int .i64 a3, .str a4, .sl a5, .sl a6] ∧ a0.length ≤ maxLen ∧ (Lit.int .i64 a1).wf = true ∧ (Lit.int .i64 a2).wf = true ∧ (Lit.int .i64 a3).wf = true ∧ a4.length ≤ maxLen ∧ (a5.length ≤ maxLen ∧ ∀ x, x ∈ a5 → Sh Tryz.prog 103 x) ∧ (a6.length ≤ maxLen ∧ ∀ x, x ∈ a6 → Sh Tryz.prog 59 x) := by
 obtain ⟨ls, h1, h2, h3⟩ := h
 rw [lv61] at h1
 cases h1
 match x, h2, h3 with
 | [c0, c1, c2, c3, c4, c5, c6], _, h3 =>
  have g0 := h3 0 _ _ rfl rfl
  have g1 := h3 1 _ _ rfl rfl
  have g2 := h3 2 _ _ rfl rfl
  have g3 := h3 3 _ _ rfl rfl
  have g4 := h3 4 _ _ rfl rfl
  have g5 := h3 5 _ _ rfl rfl
  have g6 := h3 6 _ _ rfl rfl
  obtain ⟨b0, rfl, q0⟩ := g0.str_inv
  obtain ⟨b1, rfl, q1⟩ := g1.int_inv
  obtain ⟨b2, rfl, q2⟩ := g2.int_inv
  obtain ⟨b3, rfl, q3⟩ := g3.int_inv
  obtain ⟨b4, rfl, q4⟩ := g4.str_inv
  obtain ⟨b5, rfl, q5⟩ := g5.elems
  obtain ⟨b6, rfl, q6⟩ := g6.elems
  exact ⟨_, _, _, _, _, _, _, rfl, q0, q1, q2, q3, q4, q5, q6⟩
theorem sz11 (xs : List (List D)) (hm : xs.length ≤ maxLen) (hx : ∀ x, x ∈ xs → x.length = 7 ∧ ∀ n : Int, 0 ≤ n → n ≤ 1048576 → Gives Tryz.prog 23 [.agg x, .int .i64 n] (.d (.int .i64 (szr n (wtL x)))))
  (n : Int) (h0 : 0 ≤ n) (h1 : n ≤ 1048576) : Gives Tryz.prog 11 [.sl xs, .int .i64 n] (.d (.int .i64 (szr n (wtR xs)))) := by
 have hm' : (xs.length : Int) ≤ 9223372036854775807 := by simp only [maxLen] at hm; omega
 have hs := sumW_all xs
 have hs0 := sumW_le xs 0
 simp only [sumW] at hs0
 refine ACalls.enter (fn := Tryz.f11) Tryz.func11 rfl (by show 2 ≤ _; decide) ?_
 refine run_sound Tryz.func11 mixed 100 _ _ (by kernel_rfl) ?_
 simp only [go_sem, seval]
 rw [wrap_ok (by omega) (by omega)]
 refine br_intro (fun h => ?_) (fun h => ?_)
 ·simp only [decide_eq_true_eq] at h
  simp only [go_sem, seval]
  rw [szr_neg (by omega)]
 simp only [decide_eq_false_iff_not, Int.not_lt] at h
 simp only [go_sem, seval]
 refine AW.loop_ind (fun i : Nat => ⟨[(5, .d (.int .i64 i)), (0, .d (.sl xs)), (1, .d (.int .i64 (n - xs.length - sumW xs i))), (4, .d (.int .i64 0))], []⟩) (fun i => i ≤ xs.length ∧ (sumW xs i : Int) ≤ n - xs.length) (fun i => xs.length - i) 0 ⟨by omega, by simp only [sumW]; omega⟩ ?_ ?_
 ·refine Weak.of (by simp) rfl ?_
  simp [Abs.get, sumW, C.refsLtT, C.refsLt, C.refsLt1]
 ·intro i hi hnext
  obtain ⟨hi1, hi2⟩ := hi
  refine run_sound Tryz.func11 mixed 100 _ _ (by kernel_rfl) ?_
  simp only [go_sem, seval]
  refine br_intro (fun h => ?_) (fun h => ?_)
  ·simp only [decide_eq_true_eq] at h
   have hi : i < xs.length := by omega
   obtain ⟨x, hxi⟩ : ∃ x, xs[i]? = some x := ⟨_, List.getElem?_eq_getElem hi⟩
   have hsum := sumW_at hxi
   have hle := sumW_le xs (i + 1)
   obtain ⟨e1, e2⟩ := hx x (List.mem_of_getElem? hxi)
   simp only [go_sem, seval, Int.toNat_natCast, hxi, idx_of hxi, e1]
   repeat refine And.intro (by omega) ?_
   refine (e2 _ (by omega) (by omega)).calls rfl ?_
   simp only [go_sem, seval]
   refine br_intro (fun h => ?_) (fun h => ?_)
   ·simp only [decide_eq_true_eq] at h
    have hg := szr_lt h
    simp only [go_sem, seval]
    rw [szr_neg (by omega)]
   ·simp only [decide_eq_false_iff_not] at h
    have hg := szr_ge h
    rw [szr_pos hg]
    simp only [go_sem, seval]
    rw [wrap_ok (by omega) (by omega)]
    refine hnext (i + 1) _ ⟨by omega, by omega⟩ (by omega) ?_
    refine Weak.of (by simp) rfl ?_
    simp [Abs.get, C.refsLtT, C.refsLt, C.refsLt1]
    omega
  ·simp only [decide_eq_false_iff_not] at h
   have : i = xs.length := by omega
   subst this
   simp only [go_sem, seval]
   rw [szr_pos (by omega)]
   all_goals (congr 2 <;> omega)
theorem sz23 (a0 : List UInt8) (a1 : Int) (a2 : Int) (a3 : Int) (a4 : List UInt8) (a5 : List (List D)) (a6 : List (List D)) (h0 : a0.length ≤ maxLen) (h3 : ∀ n : Int, 0 ≤ n → n ≤ 1048576 → Gives Tryz.prog 40 [.agg [.int .i64 a3, .str a4, .sl a5, .sl a6], .int .i64 n] (.d (.int .i64 (szr n (wtL [.int .i64 a3, .str a4, .sl a5, .sl a6])))))
  (n : Int) (g0 : 0 ≤ n) (g1 : n ≤ 1048576) : Gives Tryz.prog 23 [.agg [.str a0, .int .i64 a1, .int .i64 a2, .int .i64 a3, .str a4, .sl a5, .sl a6], .int .i64 n] (.d (.int .i64 (szr n (wtL [.str a0, .int .i64 a1, .int .i64 a2, .int .i64 a3, .str a4, .sl a5, .sl a6])))) := by
 have hw : wtL [.str a0, .int .i64 a1, .int .i64 a2, .int .i64 a3, .str a4, .sl a5, .sl a6] = a0.length + wtL [.int .i64 a3, .str a4, .sl a5, .sl a6] := by simp only [wtL, D.wt] <;> omega
 simp only [maxLen] at h0
 rw [hw]
 refine ACalls.enter (fn := Tryz.f23) Tryz.func23 rfl (by show 2 ≤ _; decide) ?_
 refine run_sound Tryz.func23 mixed 100 _ _ (by kernel_rfl) ?_
 simp only [go_sem, seval]
 rw [wrap_ok (by omega) (by omega)]
 refine br_intro (fun h => ?_) (fun h => ?_)
 ·simp only [decide_eq_true_eq] at h
  simp only [go_sem, seval]
  rw [szr_neg (by omega)]
 simp only [decide_eq_false_iff_not, Int.not_lt] at h
 simp only [go_sem, seval]
 refine (h3 _ (by omega) (by omega)).calls rfl ?_
 simp only [go_sem, seval]
 refine br_intro (fun h => ?_) (fun h => ?_)
 ·simp only [decide_eq_true_eq] at h
  have hg := szr_lt h
  simp only [go_sem, seval]
  rw [szr_neg (by omega)]
 simp only [decide_eq_false_iff_not] at h
 have hg := szr_ge h
 rw [szr_pos hg]
 clear h
 simp only [go_sem, seval]
 all_goals rw [szr_pos (by omega)]
 all_goals (congr 2 <;> omega)
theorem to16 (xs : List (List D)) (hl : xs.length ≤ 1048576) (hx : ∀ x, x ∈ xs → x.length = 7 ∧ Gives Tryz.prog 29 [.agg x] (.d (.agg x))) : Gives Tryz.prog 16 [.sl xs] (.d (.sl xs)) := by
 refine ACalls.enter (fn := Tryz.f16) Tryz.func16 rfl (by show 1 ≤ _; decide) ?_
 refine run_sound Tryz.func16 mixed 100 _ _ (by kernel_rfl) ?_
 simp only [go_sem, seval, Int.toNat_natCast]
 repeat refine And.intro (by first | omega | (simp only [maxLen]; omega)) ?_
 refine AW.loop_ind (fun i : Nat => ⟨[(4, .d (.int .i64 i)), (0, .d (.sl xs)), (3, .rsl 0 xs.length), (2, .nil0)], [.row 7 45 (xs.take i ++ List.replicate (xs.length - i) [.str [], .int .i64 0, .int .i64 0, .int .i64 0, .str [], .sl [], .sl []])]⟩) (fun i => i ≤ xs.length) (fun i => xs.length - i) 0 (by omega) ?_ ?_
 ·refine Weak.of (by simp) rfl ?_
  simp [Abs.get, C.refsLtT, C.refsLt, C.refsLt1]
 ·intro i hi hnext
  by_cases h : i < xs.length
  ·obtain ⟨x, hxi⟩ : ∃ x, xs[i]? = some x := ⟨_, List.getElem?_eq_getElem h⟩
   obtain ⟨e1, e2⟩ := hx x (List.mem_of_getElem? hxi)
   have hlt : ((i : Int) < (xs.length : Int)) = True := by simp; omega
   refine run_sound Tryz.func16 mixed 100 _ _ (by kernel_rfl) ?_
   simp only [go_sem, seval, Int.toNat_natCast, hlt, hxi, idx_of hxi, e1]
   repeat refine And.intro (by omega) ?_
   refine e2.calls rfl ?_
   simp only [go_sem, seval, Int.toNat_natCast, hlt, hxi, idx_of hxi, e1]
   repeat refine And.intro (by first | omega | (simp; omega) | (simp_all; done)) ?_
   rw [wrap_ok (by omega) (by omega)]
   first | rw [row_step (k := 7) hxi (by rfl)] | rw [row_step1 hxi (by rfl)]
   refine hnext (i + 1) _ (by omega) (by omega) ?_
   refine Weak.of (by simp) rfl ?_
   simp [Abs.get, C.refsLtT, C.refsLt, C.refsLt1]
  ·have hlt : ((i : Int) < (xs.length : Int)) = False := by simp; omega
   refine run_sound Tryz.func16 mixed 6 _ _ (by kernel_rfl) ?_
   simp only [go_sem, seval, Int.toNat_natCast, hlt]
   obtain rfl : i = xs.length := by omega
   rw [row_all]
   refine AW.freeze 3 0 rfl rfl rfl ?_
   refine run_sound Tryz.func16 mixed 100 _ _ (by kernel_rfl) ?_
   simp only [go_sem, seval]
theorem to29 (a0 : List UInt8) (a1 : Int) (a2 : Int) (a3 : Int) (a4 : List UInt8) (a5 : List (List D)) (a6 : List (List D)) (h3 : Gives Tryz.prog 47 [.agg [.int .i64 a3, .str a4, .sl a5, .sl a6]] (.d (.agg [.int .i64 a3, .str a4, .sl a5, .sl a6]))) : Gives Tryz.prog 29 [.agg [.str a0, .int .i64 a1, .int .i64 a2, .int .i64 a3, .str a4, .sl a5, .sl a6]] (.d (.agg [.str a0, .int .i64 a1, .int .i64 a2, .int .i64 a3, .str a4, .sl a5, .sl a6])) := by
 refine ACalls.enter (fn := Tryz.f29) Tryz.func29 rfl (by show 1 ≤ _; decide) ?_
 refine run_sound Tryz.func29 mixed 100 _ _ (by kernel_rfl) ?_
 simp only [go_sem, seval]
 refine h3.calls rfl ?_
 simp only [go_sem, seval]
theorem eq20 (xs : List (List D)) (hm : xs.length ≤ maxLen) (hx : ∀ x, x ∈ xs → x.length = 7 ∧ Gives Tryz.prog 34 [.agg x, .agg x] (.d (.bool true))) : Gives Tryz.prog 20 [.sl xs, .sl xs] (.d (.bool true)) := by
 have hm' : (xs.length : Int) ≤ 9223372036854775807 := by simp only [maxLen] at hm; omega
 refine ACalls.enter (fn := Tryz.f20) Tryz.func20 rfl (by show 2 ≤ _; decide) ?_
 refine run_sound Tryz.func20 mixed 100 _ _ (by kernel_rfl) ?_
 simp only [go_sem, seval, bne_self_eq_false]
 refine AW.loop_ind (fun i : Nat => ⟨[(5, .d (.int .i64 i)), (0, .d (.sl xs)), (1, .d (.sl xs)), (4, .d (.bool false))], []⟩) (fun i => i ≤ xs.length) (fun i => xs.length - i) 0 (by omega) ?_ ?_
 ·refine Weak.of (by simp) rfl ?_
  simp [Abs.get, C.refsLtT, C.refsLt, C.refsLt1]
 ·intro i hi hnext
  by_cases h : i < xs.length
  ·obtain ⟨x, hxi⟩ : ∃ x, xs[i]? = some x := ⟨_, List.getElem?_eq_getElem h⟩
   obtain ⟨e1, e2⟩ := hx x (List.mem_of_getElem? hxi)
   have hlt : ((i : Int) < (xs.length : Int)) = True := by simp; omega
   have h00 : (0 ≤ (i : Int)) = True := by simp
   refine run_sound Tryz.func20 mixed 100 _ _ (by kernel_rfl) ?_
   simp only [go_sem, seval, Int.toNat_natCast, hlt, hxi, idx_of hxi, e1, h00, bne_self_eq_false]
   refine e2.callQ rfl ?_
   simp only [go_sem, seval]
   rw [wrap_ok (by omega) (by omega)]
   refine hnext (i + 1) _ (by omega) (by omega) ?_
   refine Weak.of (by simp) rfl ?_
   simp [Abs.get, C.refsLtT, C.refsLt, C.refsLt1]
  ·have hlt : ((i : Int) < (xs.length : Int)) = False := by simp; omega
   refine run_sound Tryz.func20 mixed 100 _ _ (by kernel_rfl) ?_
   simp only [go_sem, seval, hlt]
theorem eq34 (a0 : List UInt8) (a1 : Int) (a2 : Int) (a3 : Int) (a4 : List UInt8) (a5 : List (List D)) (a6 : List (List D)) (h3 : Gives Tryz.prog 56 [.agg [.int .i64 a3, .str a4, .sl a5, .sl a6], .agg [.int .i64 a3, .str a4, .sl a5, .sl a6]] (.d (.bool true))) : Gives Tryz.prog 34 [.agg [.str a0, .int .i64 a1, .int .i64 a2, .int .i64 a3, .str a4, .sl a5, .sl a6], .agg [.str a0, .int .i64 a1, .int .i64 a2, .int .i64 a3, .str a4, .sl a5, .sl a6]] (.d (.bool true)) := by
 refine ACalls.enter (fn := Tryz.f34) Tryz.func34 rfl (by show 2 ≤ _; decide) ?_
 refine run_sound Tryz.func34 mixed 100 _ _ (by kernel_rfl) ?_
 simp only [go_sem, seval, bne_self_eq_false]
 refine h3.calls rfl ?_
 simp only [go_sem, seval, bne_self_eq_false]
theorem len61 {x : List D} (h : Sh Tryz.prog 61 x) : x.length = 7 := by
 obtain ⟨_, _, _, _, _, _, _, rfl, _⟩ := inv61 h
 rfl
theorem szc61 : ∀ (m : Nat) (x : List D), wtL x < m → Sh Tryz.prog 61 x → ∀ n : Int, 0 ≤ n → n ≤ 1048576 → Gives Tryz.prog 23 [.agg x, .int .i64 n] (.d (.int .i64 (szr n (wtL x))))
 | 0, _, hm, _ => by omega
 | m + 1, x, hm, h => by
  obtain ⟨a0, a1, a2, a3, a4, a5, a6, rfl, q0, q1, q2, q3, q4, q5, q6⟩ := inv61 h
  have hw : wtL [.str a0, .int .i64 a1, .int .i64 a2, .int .i64 a3, .str a4, .sl a5, .sl a6] = a0.length + wtL [.int .i64 a3, .str a4, .sl a5, .sl a6] := by simp only [wtL, D.wt] <;> omega
  exact fun n g0 g1 => sz23 a0 a1 a2 a3 a4 a5 a6 q0 (fun n g0 g1 => szc59 _ [.int .i64 a3, .str a4, .sl a5, .sl a6] (Nat.lt_succ_self _) (mk59 a3 a4 a5 a6 q3 q4 q5 q6) n g0 g1) n g0 g1
theorem toc61 : ∀ (m : Nat) (x : List D), wtL x < m → wtL x ≤ 1048576 → Sh Tryz.prog 61 x → Gives Tryz.prog 29 [.agg x] (.d (.agg x))
 | 0, _, hm, _, _ => by omega
 | m + 1, x, hm, hb, h => by
  obtain ⟨a0, a1, a2, a3, a4, a5, a6, rfl, q0, q1, q2, q3, q4, q5, q6⟩ := inv61 h
  have hw : wtL [.str a0, .int .i64 a1, .int .i64 a2, .int .i64 a3, .str a4, .sl a5, .sl a6] = a0.length + wtL [.int .i64 a3, .str a4, .sl a5, .sl a6] := by simp only [wtL, D.wt] <;> omega
  exact to29 a0 a1 a2 a3 a4 a5 a6 (toc59 _ [.int .i64 a3, .str a4, .sl a5, .sl a6] (Nat.lt_succ_self _) (by omega) (mk59 a3 a4 a5 a6 q3 q4 q5 q6))
theorem eqc61 : ∀ (m : Nat) (x : List D), wtL x < m → Sh Tryz.prog 61 x → Gives Tryz.prog 34 [.agg x, .agg x] (.d (.bool true))
 | 0, _, hm, _ => by omega
 | m + 1, x, hm, h => by
  obtain ⟨a0, a1, a2, a3, a4, a5, a6, rfl, q0, q1, q2, q3, q4, q5, q6⟩ := inv61 h
  have hw : wtL [.str a0, .int .i64 a1, .int .i64 a2, .int .i64 a3, .str a4, .sl a5, .sl a6] = a0.length + wtL [.int .i64 a3, .str a4, .sl a5, .sl a6] := by simp only [wtL, D.wt] <;> omega
  exact eq34 a0 a1 a2 a3 a4 a5 a6 (eqc59 _ [.int .i64 a3, .str a4, .sl a5, .sl a6] (Nat.lt_succ_self _) (mk59 a3 a4 a5 a6 q3 q4 q5 q6))
theorem sh_Rl (x : List D) (h : Sh Tryz.prog 61 x) : ∃ t, x = Rl.enc t := Rl.of_sh lv61 sh_Tm sh_Gl x h
theorem szs22 (xs : List (List D)) (hm : xs.length ≤ maxLen) (h : ∀ x, x ∈ xs → Sh Tryz.prog 61 x) (n : Int) (g0 : 0 ≤ n) (g1 : n ≤ 1048576) : Gives Tryz.prog 11 [.sl xs, .int .i64 n] (.d (.int .i64 (szr n (wtR xs)))) :=
 sz11 xs hm (fun x hx => ⟨len61 (h x hx), szc61 _ x (Nat.lt_succ_self _) (h x hx)⟩) n g0 g1
theorem tos22 (xs : List (List D)) (hb : wtR xs ≤ 1048576) (h : ∀ x, x ∈ xs → Sh Tryz.prog 61 x) : Gives Tryz.prog 16 [.sl xs] (.d (.sl xs)) :=
 to16 xs (by have := sumW_le xs 0; omega) (fun x hx => ⟨len61 (h x hx), toc61 _ x (Nat.lt_succ_self _) (by have := wtL_lt xs x hx; omega) (h x hx)⟩)
theorem eqs22 (xs : List (List D)) (hm : xs.length ≤ maxLen) (h : ∀ x, x ∈ xs → Sh Tryz.prog 61 x) : Gives Tryz.prog 20 [.sl xs, .sl xs] (.d (.bool true)) :=
 eq20 xs hm (fun x hx => ⟨len61 (h x hx), eqc61 _ x (Nat.lt_succ_self _) (h x hx)⟩)
theorem lv24 : leaves Tryz.prog 6 24 = some [.sl 61] := by kernel_rfl
theorem inv24 {x : List D} (h : Sh Tryz.prog 24 x) : ∃ a0, x = [.sl a0] ∧ (a0.length ≤ maxLen ∧ ∀ x, x ∈ a0 → Sh Tryz.prog 61 x) := by
 obtain ⟨ls, h1, h2, h3⟩ := h
 rw [lv24] at h1
 cases h1
 match x, h2, h3 with
 | [c0], _, h3 =>
  have g0 := h3 0 _ _ rfl rfl
  obtain ⟨b0, rfl, q0⟩ := g0.elems
  exact ⟨_, rfl, q0⟩
theorem sz4 (a0 : List (List D)) (h0 : ∀ n : Int, 0 ≤ n → n ≤ 1048576 → Gives Tryz.prog 11 [.sl a0, .int .i64 n] (.d (.int .i64 (szr n (wtR a0)))))
  (n : Int) (g0 : 0 ≤ n) (g1 : n ≤ 1048576) : Gives Tryz.prog 4 [.agg [.sl a0], .int .i64 n] (.d (.int .i64 (szr n (wtL [.sl a0])))) := by
 have hw : wtL [.sl a0] = wtR a0 := by simp only [wtL, D.wt] <;> omega
 rw [hw]
 refine ACalls.enter (fn := Tryz.f4) Tryz.func4 rfl (by show 2 ≤ _; decide) ?_
 refine run_sound Tryz.func4 mixed 100 _ _ (by kernel_rfl) ?_
 simp only [go_sem, seval]
 refine (h0 _ (by omega) (by omega)).calls rfl ?_
 simp only [go_sem, seval]
 refine br_intro (fun h => ?_) (fun h => ?_)
 ·simp only [decide_eq_true_eq] at h
  have hg := szr_lt h
  simp only [go_sem, seval]
  rw [szr_neg (by omega)]
 simp only [decide_eq_false_iff_not] at h
 have hg := szr_ge h
 rw [szr_pos hg]
 clear h
 simp only [go_sem, seval]
 all_goals rw [szr_pos (by omega)]
 all_goals (congr 2 <;> omega)
theorem to6 (a0 : List (List D)) (h0 : Gives Tryz.prog 16 [.sl a0] (.d (.sl a0))) : Gives Tryz.prog 6 [.agg [.sl a0]] (.d (.agg [.sl a0])) := by
 refine ACalls.enter (fn := Tryz.f6) Tryz.func6 rfl (by show 1 ≤ _; decide) ?_
 refine run_sound Tryz.func6 mixed 100 _ _ (by kernel_rfl) ?_
 simp only [go_sem, seval]
 refine h0.calls rfl ?_
 simp only [go_sem, seval]
theorem eq8 (a0 : List (List D)) (h0 : Gives Tryz.prog 20 [.sl a0, .sl a0] (.d (.bool true))) : Gives Tryz.prog 8 [.agg [.sl a0], .agg [.sl a0]] (.d (.bool true)) := by
 refine ACalls.enter (fn := Tryz.f8) Tryz.func8 rfl (by show 2 ≤ _; decide) ?_
 refine run_sound Tryz.func8 mixed 100 _ _ (by kernel_rfl) ?_
 simp only [go_sem, seval, bne_self_eq_false]
 refine h0.calls rfl ?_
 simp only [go_sem, seval, bne_self_eq_false]
theorem szc24 : ∀ (m : Nat) (x : List D), wtL x < m → Sh Tryz.prog 24 x → ∀ n : Int, 0 ≤ n → n ≤ 1048576 → Gives Tryz.prog 4 [.agg x, .int .i64 n] (.d (.int .i64 (szr n (wtL x))))
 | 0, _, hm, _ => by omega
 | m + 1, x, hm, h => by
  obtain ⟨a0, rfl, q0⟩ := inv24 h
  have hw : wtL [.sl a0] = wtR a0 := by simp only [wtL, D.wt] <;> omega
  exact fun n g0 g1 => sz4 a0 (fun n g0 g1 => szs22 a0 q0.1 q0.2 n g0 g1) n g0 g1
theorem toc24 : ∀ (m : Nat) (x : List D), wtL x < m → wtL x ≤ 1048576 → Sh Tryz.prog 24 x → Gives Tryz.prog 6 [.agg x] (.d (.agg x))
 | 0, _, hm, _, _ => by omega
 | m + 1, x, hm, hb, h => by
  obtain ⟨a0, rfl, q0⟩ := inv24 h
  have hw : wtL [.sl a0] = wtR a0 := by simp only [wtL, D.wt] <;> omega
  exact to6 a0 (tos22 a0 (by omega) q0.2)
theorem eqc24 : ∀ (m : Nat) (x : List D), wtL x < m → Sh Tryz.prog 24 x → Gives Tryz.prog 8 [.agg x, .agg x] (.d (.bool true))
 | 0, _, hm, _ => by omega
 | m + 1, x, hm, h => by
  obtain ⟨a0, rfl, q0⟩ := inv24 h
  have hw : wtL [.sl a0] = wtR a0 := by simp only [wtL, D.wt] <;> omega
  exact eq8 a0 (eqs22 a0 q0.1 q0.2)
theorem sh_Pg (x : List D) (h : Sh Tryz.prog 24 x) : ∃ t, x = Pg.enc t := Pg.of_sh lv24 sh_Rl x h
end Go.Proofs.YtfniakcjekooiaaGreat
