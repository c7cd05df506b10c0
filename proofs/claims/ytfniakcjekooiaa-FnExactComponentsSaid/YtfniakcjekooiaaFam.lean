import Derived.Test.YtfniakcjekooiaaFx
namespace Go.Proofs.Ytfniakcjekooiaa
open Go.Abs
set_option maxRecDepth 100000
set_option maxHeartbeats 4000000
set_option linter.unusedSimpArgs false
set_option linter.unusedVariables false
theorem lv111 : leaves Try.prog 6 111 = some [.int .i64, .int .i64, .str, .sl 111] := by kernel_rfl
theorem inv111 {x : List D} (h : Sh Try.prog 111 x) : ∃ a0 a1 a2 a3, x = [.int .i64 a0, .int .i64 a1, .str a2, .sl a3] ∧ (Lit.int .i64 a0).wf = true ∧ (Lit.int .i64 a1).wf = true ∧ a2.length ≤ maxLen ∧ (a3.length ≤ maxLen ∧ ∀ x, x ∈ a3 → Sh Try.prog 111 x) := by
 obtain ⟨ls, h1, h2, h3⟩ := h
 rw [lv111] at h1
 cases h1
 match x, h2, h3 with
 | [c0, c1, c2, c3], _, h3 =>
  have g0 := h3 0 _ _ rfl rfl
  have g1 := h3 1 _ _ rfl rfl
  have g2 := h3 2 _ _ rfl rfl
  have g3 := h3 3 _ _ rfl rfl
  obtain ⟨b0, rfl, q0⟩ := g0.int_inv
  obtain ⟨b1, rfl, q1⟩ := g1.int_inv
  obtain ⟨b2, rfl, q2⟩ := g2.str_inv
  obtain ⟨b3, rfl, q3⟩ := g3.elems
  exact ⟨_, _, _, _, rfl, q0, q1, q2, q3⟩
theorem sz67 (xs : List (List D)) (hm : xs.length ≤ maxLen) (hx : ∀ x, x ∈ xs → x.length = 4 ∧ ∀ n : Int, 0 ≤ n → n ≤ 1048576 → Gives Try.prog 81 [.agg x, .int .i64 n] (.d (.int .i64 (szr n (wtL x)))))
  (n : Int) (h0 : 0 ≤ n) (h1 : n ≤ 1048576) : Gives Try.prog 67 [.sl xs, .int .i64 n] (.d (.int .i64 (szr n (wtR xs)))) := by
 have hm' : (xs.length : Int) ≤ 9223372036854775807 := by simp only [maxLen] at hm; omega
 have hs := sumW_all xs
 have hs0 := sumW_le xs 0
 simp only [sumW] at hs0
 refine ACalls.enter (fn := Try.f67) Try.func67 rfl (by show 2 ≤ _; decide) ?_
 refine run_sound Try.func67 mixed 100 _ _ (by kernel_rfl) ?_
 simp only [go_sem, seval]
 rw [wrap_ok (by omega) (by omega)]
 refine br_intro (fun h => ?_) (fun h => ?_)
 ·simp only [decide_eq_true_eq] at h
  simp only [go_sem, seval]
  rw [szr_neg (by omega)]
 simp only [decide_eq_false_iff_not, Int.not_lt] at h
 simp only [go_sem, seval]
 refine AW.loop_ind (fun i : Nat => ⟨[(5, .d (.int .i64 i)), (0, .d (.sl xs)), (1, .d (.int .i64 (n - xs.length - sumW xs i))), (4, .d (.int .i64 0))], []⟩) (fun i => i ≤ xs.length ∧ (sumW xs i : Int) ≤ n - xs.length) (fun i => xs.length - i) 0 ⟨by omega, by simp only [sumW]; omega⟩ ?_ ?_
 ·refine Weak.of (by simp) rfl ?_
  simp [Abs.get, sumW, C.refsLtT, C.refsLt, C.refsLt1]
 ·intro i hi hnext
  obtain ⟨hi1, hi2⟩ := hi
  refine run_sound Try.func67 mixed 100 _ _ (by kernel_rfl) ?_
  simp only [go_sem, seval]
  refine br_intro (fun h => ?_) (fun h => ?_)
  ·simp only [decide_eq_true_eq] at h
   have hi : i < xs.length := by omega
   obtain ⟨x, hxi⟩ : ∃ x, xs[i]? = some x := ⟨_, List.getElem?_eq_getElem hi⟩
   have hsum := sumW_at hxi
   have hle := sumW_le xs (i + 1)
   obtain ⟨e1, e2⟩ := hx x (List.mem_of_getElem? hxi)
   simp only [go_sem, seval, Int.toNat_natCast, hxi, idx_of hxi, e1]
   repeat refine And.intro (by omega) ?_
   refine (e2 _ (by omega) (by omega)).calls rfl ?_
   simp only [go_sem, seval]
   refine br_intro (fun h => ?_) (fun h => ?_)
   ·simp only [decide_eq_true_eq] at h
    have hg := szr_lt h
    simp only [go_sem, seval]
    rw [szr_neg (by omega)]
   ·simp only [decide_eq_false_iff_not] at h
    have hg := szr_ge h
    rw [szr_pos hg]
    simp only [go_sem, seval]
    rw [wrap_ok (by omega) (by omega)]
    refine hnext (i + 1) _ ⟨by omega, by omega⟩ (by omega) ?_
    refine Weak.of (by simp) rfl ?_
    simp [Abs.get, C.refsLtT, C.refsLt, C.refsLt1]
    omega
  ·simp only [decide_eq_false_iff_not] at h
   have : i = xs.length := by omega
   subst this
   simp only [go_sem, seval]
   rw [szr_pos (by omega)]
   all_goals (congr 2 <;> omega)
theorem sz81 (a0 : Int) (a1 : Int) (a2 : List UInt8) (a3 : List (List D)) (h2 : a2.length ≤ maxLen) (h3 : ∀ n : Int, 0 ≤ n → n ≤ 1048576 → Gives Try.prog 67 [.sl a3, .int .i64 n] (.d (.int .i64 (szr n (wtR a3)))))
  (n : Int) (g0 : 0 ≤ n) (g1 : n ≤ 1048576) : Gives Try.prog 81 [.agg [.int .i64 a0, .int .i64 a1, .str a2, .sl a3], .int .i64 n] (.d (.int .i64 (szr n (wtL [.int .i64 a0, .int .i64 a1, .str a2, .sl a3])))) := by
 have hw : wtL [.int .i64 a0, .int .i64 a1, .str a2, .sl a3] = a2.length + wtR a3 := by simp only [wtL, D.wt] <;> omega
 simp only [maxLen] at h2
 rw [hw]
 refine ACalls.enter (fn := Try.f81) Try.func81 rfl (by show 2 ≤ _; decide) ?_
 refine run_sound Try.func81 mixed 100 _ _ (by kernel_rfl) ?_
 simp only [go_sem, seval]
 rw [wrap_ok (by omega) (by omega)]
 refine br_intro (fun h => ?_) (fun h => ?_)
 ·simp only [decide_eq_true_eq] at h
  simp only [go_sem, seval]
  rw [szr_neg (by omega)]
 simp only [decide_eq_false_iff_not, Int.not_lt] at h
 simp only [go_sem, seval]
 refine (h3 _ (by omega) (by omega)).calls rfl ?_
 simp only [go_sem, seval]
 refine br_intro (fun h => ?_) (fun h => ?_)
 ·simp only [decide_eq_true_eq] at h
  have hg := szr_lt h
  simp only [go_sem, seval]
  rw [szr_neg (by omega)]
 simp only [decide_eq_false_iff_not] at h
 have hg := szr_ge h
 rw [szr_pos hg]
 clear h
 simp only [go_sem, seval]
 all_goals rw [szr_pos (by omega)]
 all_goals (congr 2 <;> omega)
theorem to69 (xs : List (List D)) (hl : xs.length ≤ 1048576) (hx : ∀ x, x ∈ xs → x.length = 4 ∧ Gives Try.prog 82 [.agg x] (.d (.agg x))) : Gives Try.prog 69 [.sl xs] (.d (.sl xs)) := by
 refine ACalls.enter (fn := Try.f69) Try.func69 rfl (by show 1 ≤ _; decide) ?_
 refine run_sound Try.func69 mixed 100 _ _ (by kernel_rfl) ?_
 simp only [go_sem, seval, Int.toNat_natCast]
 repeat refine And.intro (by first | omega | (simp only [maxLen]; omega)) ?_
 refine AW.loop_ind (fun i : Nat => ⟨[(4, .d (.int .i64 i)), (0, .d (.sl xs)), (3, .rsl 0 xs.length), (2, .nil0)], [.row 4 93 (xs.take i ++ List.replicate (xs.length - i) [.int .i64 0, .int .i64 0, .str [], .sl []])]⟩) (fun i => i ≤ xs.length) (fun i => xs.length - i) 0 (by omega) ?_ ?_
 ·refine Weak.of (by simp) rfl ?_
  simp [Abs.get, C.refsLtT, C.refsLt, C.refsLt1]
 ·intro i hi hnext
  by_cases h : i < xs.length
  ·obtain ⟨x, hxi⟩ : ∃ x, xs[i]? = some x := ⟨_, List.getElem?_eq_getElem h⟩
   obtain ⟨e1, e2⟩ := hx x (List.mem_of_getElem? hxi)
   have hlt : ((i : Int) < (xs.length : Int)) = True := by simp; omega
   refine run_sound Try.func69 mixed 100 _ _ (by kernel_rfl) ?_
   simp only [go_sem, seval, Int.toNat_natCast, hlt, hxi, idx_of hxi, e1]
   repeat refine And.intro (by omega) ?_
   refine e2.calls rfl ?_
   simp only [go_sem, seval, Int.toNat_natCast, hlt, hxi, idx_of hxi, e1]
   repeat refine And.intro (by first | omega | (simp; omega) | (simp_all; done)) ?_
   rw [wrap_ok (by omega) (by omega)]
   first | rw [row_step (k := 4) hxi (by rfl)] | rw [row_step1 hxi (by rfl)]
   refine hnext (i + 1) _ (by omega) (by omega) ?_
   refine Weak.of (by simp) rfl ?_
   simp [Abs.get, C.refsLtT, C.refsLt, C.refsLt1]
  ·have hlt : ((i : Int) < (xs.length : Int)) = False := by simp; omega
   refine run_sound Try.func69 mixed 6 _ _ (by kernel_rfl) ?_
   simp only [go_sem, seval, Int.toNat_natCast, hlt]
   obtain rfl : i = xs.length := by omega
   rw [row_all]
   refine AW.freeze 3 0 rfl rfl rfl ?_
   refine run_sound Try.func69 mixed 100 _ _ (by kernel_rfl) ?_
   simp only [go_sem, seval]
theorem to82 (a0 : Int) (a1 : Int) (a2 : List UInt8) (a3 : List (List D)) (h3 : Gives Try.prog 69 [.sl a3] (.d (.sl a3))) : Gives Try.prog 82 [.agg [.int .i64 a0, .int .i64 a1, .str a2, .sl a3]] (.d (.agg [.int .i64 a0, .int .i64 a1, .str a2, .sl a3])) := by
 refine ACalls.enter (fn := Try.f82) Try.func82 rfl (by show 1 ≤ _; decide) ?_
 refine run_sound Try.func82 mixed 100 _ _ (by kernel_rfl) ?_
 simp only [go_sem, seval]
 refine h3.calls rfl ?_
 simp only [go_sem, seval]
theorem eq71 (xs : List (List D)) (hm : xs.length ≤ maxLen) (hx : ∀ x, x ∈ xs → x.length = 4 ∧ Gives Try.prog 83 [.agg x, .agg x] (.d (.bool true))) : Gives Try.prog 71 [.sl xs, .sl xs] (.d (.bool true)) := by
 have hm' : (xs.length : Int) ≤ 9223372036854775807 := by simp only [maxLen] at hm; omega
 refine ACalls.enter (fn := Try.f71) Try.func71 rfl (by show 2 ≤ _; decide) ?_
 refine run_sound Try.func71 mixed 100 _ _ (by kernel_rfl) ?_
 simp only [go_sem, seval, bne_self_eq_false]
 refine AW.loop_ind (fun i : Nat => ⟨[(5, .d (.int .i64 i)), (0, .d (.sl xs)), (1, .d (.sl xs)), (4, .d (.bool false))], []⟩) (fun i => i ≤ xs.length) (fun i => xs.length - i) 0 (by omega) ?_ ?_
 ·refine Weak.of (by simp) rfl ?_
  simp [Abs.get, C.refsLtT, C.refsLt, C.refsLt1]
 ·intro i hi hnext
  by_cases h : i < xs.length
  ·obtain ⟨x, hxi⟩ : ∃ x, xs[i]? = some x := ⟨_, List.getElem?_eq_getElem h⟩
   obtain ⟨e1, e2⟩ := hx x (List.mem_of_getElem? hxi)
   have hlt : ((i : Int) < (xs.length : Int)) = True := by simp; omega
   have h00 : (0 ≤ (i : Int)) = True := by simp
   refine run_sound Try.func71 mixed 100 _ _ (by kernel_rfl) ?_
   simp only [go_sem, seval, Int.toNat_natCast, hlt, hxi, idx_of hxi, e1, h00, bne_self_eq_false]
   refine e2.callQ rfl ?_
   simp only [go_sem, seval]
   rw [wrap_ok (by omega) (by omega)]
   refine hnext (i + 1) _ (by omega) (by omega) ?_
   refine Weak.of (by simp) rfl ?_
   simp [Abs.get, C.refsLtT, C.refsLt, C.refsLt1]
  ·have hlt : ((i : Int) < (xs.length : Int)) = False := by simp; omega
   refine run_sound Try.func71 mixed 100 _ _ (by kernel_rfl) ?_
   simp only [go_sem, seval, hlt]
theorem eq83 (a0 : Int) (a1 : Int) (a2 : List UInt8) (a3 : List (List D)) (h3 : Gives Try.prog 71 [.sl a3, .sl a3] (.d (.bool true))) : Gives Try.prog 83 [.agg [.int .i64 a0, .int .i64 a1, .str a2, .sl a3], .agg [.int .i64 a0, .int .i64 a1, .str a2, .sl a3]] (.d (.bool true)) := by
 refine ACalls.enter (fn := Try.f83) Try.func83 rfl (by show 2 ≤ _; decide) ?_
 refine run_sound Try.func83 mixed 100 _ _ (by kernel_rfl) ?_
 simp only [go_sem, seval, bne_self_eq_false]
 refine h3.calls rfl ?_
 simp only [go_sem, seval, bne_self_eq_false]
theorem len111 {x : List D} (h : Sh Try.prog 111 x) : x.length = 4 := by
 obtain ⟨_, _, _, _, rfl, _⟩ := inv111 h
 rfl
theorem szc111 : ∀ (m : Nat) (x : List D), wtL x < m → Sh Try.prog 111 x → ∀ n : Int, 0 ≤ n → n ≤ 1048576 → Gives Try.prog 81 [.agg x, .int .i64 n] (.d (.int .i64 (szr n (wtL x))))
 | 0, _, hm, _ => by omega
 | m + 1, x, hm, h => by
  obtain ⟨a0, a1, a2, a3, rfl, q0, q1, q2, q3⟩ := inv111 h
  have hw : wtL [.int .i64 a0, .int .i64 a1, .str a2, .sl a3] = a2.length + wtR a3 := by simp only [wtL, D.wt] <;> omega
  exact fun n g0 g1 => sz81 a0 a1 a2 a3 q2 (fun n g0 g1 => sz67 a3 q3.1 (fun x hx => ⟨len111 (q3.2 x hx), szc111 m x (by have := wtL_lt a3 x hx; omega) (q3.2 x hx)⟩) n g0 g1) n g0 g1
theorem toc111 : ∀ (m : Nat) (x : List D), wtL x < m → wtL x ≤ 1048576 → Sh Try.prog 111 x → Gives Try.prog 82 [.agg x] (.d (.agg x))
 | 0, _, hm, _, _ => by omega
 | m + 1, x, hm, hb, h => by
  obtain ⟨a0, a1, a2, a3, rfl, q0, q1, q2, q3⟩ := inv111 h
  have hw : wtL [.int .i64 a0, .int .i64 a1, .str a2, .sl a3] = a2.length + wtR a3 := by simp only [wtL, D.wt] <;> omega
  exact to82 a0 a1 a2 a3 (to69 a3 (by have := sumW_le a3 0; omega) (fun x hx => ⟨len111 (q3.2 x hx), toc111 m x (by have := wtL_lt a3 x hx; omega) (by have := wtL_lt a3 x hx; omega) (q3.2 x hx)⟩))
theorem eqc111 : ∀ (m : Nat) (x : List D), wtL x < m → Sh Try.prog 111 x → Gives Try.prog 83 [.agg x, .agg x] (.d (.bool true))
 | 0, _, hm, _ => by omega
 | m + 1, x, hm, h => by
  obtain ⟨a0, a1, a2, a3, rfl, q0, q1, q2, q3⟩ := inv111 h
  have hw : wtL [.int .i64 a0, .int .i64 a1, .str a2, .sl a3] = a2.length + wtR a3 := by simp only [wtL, D.wt] <;> omega
  exact eq83 a0 a1 a2 a3 (eq71 a3 q3.1 (fun x hx => ⟨len111 (q3.2 x hx), eqc111 m x (by have := wtL_lt a3 x hx; omega) (q3.2 x hx)⟩))
theorem sh_Tm (x : List D) (h : Sh Try.prog 111 x) : ∃ t, x = Tm.enc t := Tm.of_sh lv111 x h
theorem szs55 (xs : List (List D)) (hm : xs.length ≤ maxLen) (h : ∀ x, x ∈ xs → Sh Try.prog 111 x) (n : Int) (g0 : 0 ≤ n) (g1 : n ≤ 1048576) : Gives Try.prog 67 [.sl xs, .int .i64 n] (.d (.int .i64 (szr n (wtR xs)))) :=
 sz67 xs hm (fun x hx => ⟨len111 (h x hx), szc111 _ x (Nat.lt_succ_self _) (h x hx)⟩) n g0 g1
theorem tos55 (xs : List (List D)) (hb : wtR xs ≤ 1048576) (h : ∀ x, x ∈ xs → Sh Try.prog 111 x) : Gives Try.prog 69 [.sl xs] (.d (.sl xs)) :=
 to69 xs (by have := sumW_le xs 0; omega) (fun x hx => ⟨len111 (h x hx), toc111 _ x (Nat.lt_succ_self _) (by have := wtL_lt xs x hx; omega) (h x hx)⟩)
theorem eqs55 (xs : List (List D)) (hm : xs.length ≤ maxLen) (h : ∀ x, x ∈ xs → Sh Try.prog 111 x) : Gives Try.prog 71 [.sl xs, .sl xs] (.d (.bool true)) :=
 eq71 xs hm (fun x hx => ⟨len111 (h x hx), eqc111 _ x (Nat.lt_succ_self _) (h x hx)⟩)
theorem lv58 : leaves Try.prog 6 58 = some [.int .i64, .str, .sl 111, .sl 58] := by kernel_rfl
theorem inv58 {x : List D} (h : Sh Try.prog 58 x) : ∃ a0 a1 a2 a3, x = [.int .i64 a0, .str a1, .sl a2, .sl a3] ∧ (Lit.int .i64 a0).wf = true ∧ a1.length ≤ maxLen ∧ (a2.length ≤ maxLen ∧ ∀ x, x ∈ a2 → Sh Try.prog 111 x) ∧ (a3.length ≤ maxLen ∧ ∀ x, x ∈ a3 → Sh Try.prog 58 x) := by
 obtain ⟨ls, h1, h2, h3⟩ := h
 rw [lv58] at h1
 cases h1
 match x, h2, h3 with
 | [c0, c1, c2, c3], _, h3 =>
  have g0 := h3 0 _ _ rfl rfl
  have g1 := h3 1 _ _ rfl rfl
  have g2 := h3 2 _ _ rfl rfl
  have g3 := h3 3 _ _ rfl rfl
  obtain ⟨b0, rfl, q0⟩ := g0.int_inv
  obtain ⟨b1, rfl, q1⟩ := g1.str_inv
  obtain ⟨b2, rfl, q2⟩ := g2.elems
  obtain ⟨b3, rfl, q3⟩ := g3.elems
  exact ⟨_, _, _, _, rfl, q0, q1, q2, q3⟩
theorem sz68 (xs : List (List D)) (hm : xs.length ≤ maxLen) (hx : ∀ x, x ∈ xs → x.length = 4 ∧ ∀ n : Int, 0 ≤ n → n ≤ 1048576 → Gives Try.prog 53 [.agg x, .int .i64 n] (.d (.int .i64 (szr n (wtL x)))))
  (n : Int) (h0 : 0 ≤ n) (h1 : n ≤ 1048576) : Gives Try.prog 68 [.sl xs, .int .i64 n] (.d (.int .i64 (szr n (wtR xs)))) := by
 have hm' : (xs.length : Int) ≤ 9223372036854775807 := by simp only [maxLen] at hm; omega
 have hs := sumW_all xs
 have hs0 := sumW_le xs 0
 simp only [sumW] at hs0
 refine ACalls.enter (fn := Try.f68) Try.func68 rfl (by show 2 ≤ _; decide) ?_
 refine run_sound Try.func68 mixed 100 _ _ (by kernel_rfl) ?_
 simp only [go_sem, seval]
 rw [wrap_ok (by omega) (by omega)]
 refine br_intro (fun h => ?_) (fun h => ?_)
 ·simp only [decide_eq_true_eq] at h
  simp only [go_sem, seval]
  rw [szr_neg (by omega)]
 simp only [decide_eq_false_iff_not, Int.not_lt] at h
 simp only [go_sem, seval]
 refine AW.loop_ind (fun i : Nat => ⟨[(5, .d (.int .i64 i)), (0, .d (.sl xs)), (1, .d (.int .i64 (n - xs.length - sumW xs i))), (4, .d (.int .i64 0))], []⟩) (fun i => i ≤ xs.length ∧ (sumW xs i : Int) ≤ n - xs.length) (fun i => xs.length - i) 0 ⟨by omega, by simp only [sumW]; omega⟩ ?_ ?_
 ·refine Weak.of (by simp) rfl ?_
  simp [Abs.get, sumW, C.refsLtT, C.refsLt, C.refsLt1]
 ·intro i hi hnext
  obtain ⟨hi1, hi2⟩ := hi
  refine run_sound Try.func68 mixed 100 _ _ (by kernel_rfl) ?_
  simp only [go_sem, seval]
  refine br_intro (fun h => ?_) (fun h => ?_)
  ·simp only [decide_eq_true_eq] at h
   have hi : i < xs.length := by omega
   obtain ⟨x, hxi⟩ : ∃ x, xs[i]? = some x := ⟨_, List.getElem?_eq_getElem hi⟩
   have hsum := sumW_at hxi
   have hle := sumW_le xs (i + 1)
   obtain ⟨e1, e2⟩ := hx x (List.mem_of_getElem? hxi)
   simp only [go_sem, seval, Int.toNat_natCast, hxi, idx_of hxi, e1]
   repeat refine And.intro (by omega) ?_
   refine (e2 _ (by omega) (by omega)).calls rfl ?_
   simp only [go_sem, seval]
   refine br_intro (fun h => ?_) (fun h => ?_)
   ·simp only [decide_eq_true_eq] at h
    have hg := szr_lt h
    simp only [go_sem, seval]
    rw [szr_neg (by omega)]
   ·simp only [decide_eq_false_iff_not] at h
    have hg := szr_ge h
    rw [szr_pos hg]
    simp only [go_sem, seval]
    rw [wrap_ok (by omega) (by omega)]
    refine hnext (i + 1) _ ⟨by omega, by omega⟩ (by omega) ?_
    refine Weak.of (by simp) rfl ?_
    simp [Abs.get, C.refsLtT, C.refsLt, C.refsLt1]
    omega
  ·simp only [decide_eq_false_iff_not] at h
   have : i = xs.length := by omega
   subst this
   simp only [go_sem, seval]
   rw [szr_pos (by omega)]
   all_goals (congr 2 <;> omega)
theorem sz53 (a0 : Int) (a1 : List UInt8) (a2 : List (List D)) (a3 : List (List D)) (h1 : a1.length ≤ maxLen) (h2 : ∀ n : Int, 0 ≤ n → n ≤ 1048576 → Gives Try.prog 67 [.sl a2, .int .i64 n] (.d (.int .i64 (szr n (wtR a2))))) (h3 : ∀ n : Int, 0 ≤ n → n ≤ 1048576 → Gives Try.prog 68 [.sl a3, .int .i64 n] (.d (.int .i64 (szr n (wtR a3)))))
  (n : Int) (g0 : 0 ≤ n) (g1 : n ≤ 1048576) : Gives Try.prog 53 [.agg [.int .i64 a0, .str a1, .sl a2, .sl a3], .int .i64 n] (.d (.int .i64 (szr n (wtL [.int .i64 a0, .str a1, .sl a2, .sl a3])))) := by
 have hw : wtL [.int .i64 a0, .str a1, .sl a2, .sl a3] = a1.length + wtR a2 + wtR a3 := by simp only [wtL, D.wt] <;> omega
 simp only [maxLen] at h1
 rw [hw]
 refine ACalls.enter (fn := Try.f53) Try.func53 rfl (by show 2 ≤ _; decide) ?_
 refine run_sound Try.func53 mixed 100 _ _ (by kernel_rfl) ?_
 simp only [go_sem, seval]
 rw [wrap_ok (by omega) (by omega)]
 refine br_intro (fun h => ?_) (fun h => ?_)
 ·simp only [decide_eq_true_eq] at h
  simp only [go_sem, seval]
  rw [szr_neg (by omega)]
 simp only [decide_eq_false_iff_not, Int.not_lt] at h
 simp only [go_sem, seval]
 refine (h2 _ (by omega) (by omega)).calls rfl ?_
 simp only [go_sem, seval]
 refine br_intro (fun h => ?_) (fun h => ?_)
 ·simp only [decide_eq_true_eq] at h
  have hg := szr_lt h
  simp only [go_sem, seval]
  rw [szr_neg (by omega)]
 simp only [decide_eq_false_iff_not] at h
 have hg := szr_ge h
 rw [szr_pos hg]
 clear h
 simp only [go_sem, seval]
 refine (h3 _ (by omega) (by omega)).calls rfl ?_
 simp only [go_sem, seval]
 refine br_intro (fun h => ?_) (fun h => ?_)
 ·simp only [decide_eq_true_eq] at h
  have hg := szr_lt h
  simp only [go_sem, seval]
  rw [szr_neg (by omega)]
 simp only [decide_eq_false_iff_not] at h
 have hg := szr_ge h
 rw [szr_pos hg]
 clear h
 simp only [go_sem, seval]
 all_goals rw [szr_pos (by omega)]
 all_goals (congr 2 <;> omega)
theorem to70 (xs : List (List D)) (hl : xs.length ≤ 1048576) (hx : ∀ x, x ∈ xs → x.length = 4 ∧ Gives Try.prog 55 [.agg x] (.d (.agg x))) : Gives Try.prog 70 [.sl xs] (.d (.sl xs)) := by
 refine ACalls.enter (fn := Try.f70) Try.func70 rfl (by show 1 ≤ _; decide) ?_
 refine run_sound Try.func70 mixed 100 _ _ (by kernel_rfl) ?_
 simp only [go_sem, seval, Int.toNat_natCast]
 repeat refine And.intro (by first | omega | (simp only [maxLen]; omega)) ?_
 refine AW.loop_ind (fun i : Nat => ⟨[(4, .d (.int .i64 i)), (0, .d (.sl xs)), (3, .rsl 0 xs.length), (2, .nil0)], [.row 4 65 (xs.take i ++ List.replicate (xs.length - i) [.int .i64 0, .str [], .sl [], .sl []])]⟩) (fun i => i ≤ xs.length) (fun i => xs.length - i) 0 (by omega) ?_ ?_
 ·refine Weak.of (by simp) rfl ?_
  simp [Abs.get, C.refsLtT, C.refsLt, C.refsLt1]
 ·intro i hi hnext
  by_cases h : i < xs.length
  ·obtain ⟨x, hxi⟩ : ∃ x, xs[i]? = some x := ⟨_, List.getElem?_eq_getElem h⟩
   obtain ⟨e1, e2⟩ := hx x (List.mem_of_getElem? hxi)
   have hlt : ((i : Int) < (xs.length : Int)) = True := by simp; omega
   refine run_sound Try.func70 mixed 100 _ _ (by kernel_rfl) ?_
   simp only [go_sem, seval, Int.toNat_natCast, hlt, hxi, idx_of hxi, e1]
   repeat refine And.intro (by omega) ?_
   refine e2.calls rfl ?_
   simp only [go_sem, seval, Int.toNat_natCast, hlt, hxi, idx_of hxi, e1]
   repeat refine And.intro (by first | omega | (simp; omega) | (simp_all; done)) ?_
   rw [wrap_ok (by omega) (by omega)]
   first | rw [row_step (k := 4) hxi (by rfl)] | rw [row_step1 hxi (by rfl)]
   refine hnext (i + 1) _ (by omega) (by omega) ?_
   refine Weak.of (by simp) rfl ?_
   simp [Abs.get, C.refsLtT, C.refsLt, C.refsLt1]
  ·have hlt : ((i : Int) < (xs.length : Int)) = False := by simp; omega
   refine run_sound Try.func70 mixed 6 _ _ (by kernel_rfl) ?_
   simp only [go_sem, seval, Int.toNat_natCast, hlt]
   obtain rfl : i = xs.length := by omega
   rw [row_all]
   refine AW.freeze 3 0 rfl rfl rfl ?_
   refine run_sound Try.func70 mixed 100 _ _ (by kernel_rfl) ?_
   simp only [go_sem, seval]
theorem to55 (a0 : Int) (a1 : List UInt8) (a2 : List (List D)) (a3 : List (List D)) (h2 : Gives Try.prog 69 [.sl a2] (.d (.sl a2))) (h3 : Gives Try.prog 70 [.sl a3] (.d (.sl a3))) : Gives Try.prog 55 [.agg [.int .i64 a0, .str a1, .sl a2, .sl a3]] (.d (.agg [.int .i64 a0, .str a1, .sl a2, .sl a3])) := by
 refine ACalls.enter (fn := Try.f55) Try.func55 rfl (by show 1 ≤ _; decide) ?_
 refine run_sound Try.func55 mixed 100 _ _ (by kernel_rfl) ?_
 simp only [go_sem, seval]
 refine h2.calls rfl ?_
 simp only [go_sem, seval]
 refine h3.calls rfl ?_
 simp only [go_sem, seval]
theorem eq72 (xs : List (List D)) (hm : xs.length ≤ maxLen) (hx : ∀ x, x ∈ xs → x.length = 4 ∧ Gives Try.prog 56 [.agg x, .agg x] (.d (.bool true))) : Gives Try.prog 72 [.sl xs, .sl xs] (.d (.bool true)) := by
 have hm' : (xs.length : Int) ≤ 9223372036854775807 := by simp only [maxLen] at hm; omega
 refine ACalls.enter (fn := Try.f72) Try.func72 rfl (by show 2 ≤ _; decide) ?_
 refine run_sound Try.func72 mixed 100 _ _ (by kernel_rfl) ?_
 simp only [go_sem, seval, bne_self_eq_false]
 refine AW.loop_ind (fun i : Nat => ⟨[(5, .d (.int .i64 i)), (0, .d (.sl xs)), (1, .d (.sl xs)), (4, .d (.bool false))], []⟩) (fun i => i ≤ xs.length) (fun i => xs.length - i) 0 (by omega) ?_ ?_
 ·refine Weak.of (by simp) rfl ?_
  simp [Abs.get, C.refsLtT, C.refsLt, C.refsLt1]
 ·intro i hi hnext
  by_cases h : i < xs.length
  ·obtain ⟨x, hxi⟩ : ∃ x, xs[i]? = some x := ⟨_, List.getElem?_eq_getElem h⟩
   obtain ⟨e1, e2⟩ := hx x (List.mem_of_getElem? hxi)
   have hlt : ((i : Int) < (xs.length : Int)) = True := by simp; omega
   have h00 : (0 ≤ (i : Int)) = True := by simp
   refine run_sound Try.func72 mixed 100 _ _ (by kernel_rfl) ?_
   simp only [go_sem, seval, Int.toNat_natCast, hlt, hxi, idx_of hxi, e1, h00, bne_self_eq_false]
   refine e2.callQ rfl ?_
   simp only [go_sem, seval]
   rw [wrap_ok (by omega) (by omega)]
   refine hnext (i + 1) _ (by omega) (by omega) ?_
   refine Weak.of (by simp) rfl ?_
   simp [Abs.get, C.refsLtT, C.refsLt, C.refsLt1]
  ·have hlt : ((i : Int) < (xs.length : Int)) = False := by simp; omega
   refine run_sound Try.func72 mixed 100 _ _ (by kernel_rfl) ?_
   simp only [go_sem, seval, hlt]
theorem eq56 (a0 : Int) (a1 : List UInt8) (a2 : List (List D)) (a3 : List (List D)) (h2 : Gives Try.prog 71 [.sl a2, .sl a2] (.d (.bool true))) (h3 : Gives Try.prog 72 [.sl a3, .sl a3] (.d (.bool true))) : Gives Try.prog 56 [.agg [.int .i64 a0, .str a1, .sl a2, .sl a3], .agg [.int .i64 a0, .str a1, .sl a2, .sl a3]] (.d (.bool true)) := by
 refine ACalls.enter (fn := Try.f56) Try.func56 rfl (by show 2 ≤ _; decide) ?_
 refine run_sound Try.func56 mixed 100 _ _ (by kernel_rfl) ?_
 simp only [go_sem, seval, bne_self_eq_false]
 refine h2.calls rfl ?_
 simp only [go_sem, seval, bne_self_eq_false]
 refine h3.calls rfl ?_
 simp only [go_sem, seval, bne_self_eq_false]
theorem mk58 (a0 : Int) (a1 : List UInt8) (a2 : List (List D)) (a3 : List (List D)) (q0 : (Lit.int .i64 a0).wf = true) (q1 : a1.length ≤ maxLen) (q2 : a2.length ≤ maxLen ∧ ∀ x, x ∈ a2 → Sh Try.prog 111 x) (q3 : a3.length ≤ maxLen ∧ ∀ x, x ∈ a3 → Sh Try.prog 58 x) : Sh Try.prog 58 [.int .i64 a0, .str a1, .sl a2, .sl a3] := by
 refine ⟨_, lv58, rfl, fun i l c hl hc => ?_⟩
 match i with
 | 0 => simp at hl hc; subst hl hc; exact .int _ _ q0
 | 1 => simp at hl hc; subst hl hc; exact .str _ q1
 | 2 => simp at hl hc; subst hl hc; exact ShC.sl_of lv111 q2.1 q2.2
 | 3 => simp at hl hc; subst hl hc; exact ShC.sl_of lv58 q3.1 q3.2
 | i + 4 => simp at hl
theorem len58 {x : List D} (h : Sh Try.prog 58 x) : x.length = 4 := by
 obtain ⟨_, _, _, _, rfl, _⟩ := inv58 h
 rfl
theorem szc58 : ∀ (m : Nat) (x : List D), wtL x < m → Sh Try.prog 58 x → ∀ n : Int, 0 ≤ n → n ≤ 1048576 → Gives Try.prog 53 [.agg x, .int .i64 n] (.d (.int .i64 (szr n (wtL x))))
 | 0, _, hm, _ => by omega
 | m + 1, x, hm, h => by
  obtain ⟨a0, a1, a2, a3, rfl, q0, q1, q2, q3⟩ := inv58 h
  have hw : wtL [.int .i64 a0, .str a1, .sl a2, .sl a3] = a1.length + wtR a2 + wtR a3 := by simp only [wtL, D.wt] <;> omega
  exact fun n g0 g1 => sz53 a0 a1 a2 a3 q1 (fun n g0 g1 => szs55 a2 q2.1 q2.2 n g0 g1) (fun n g0 g1 => sz68 a3 q3.1 (fun x hx => ⟨len58 (q3.2 x hx), szc58 m x (by have := wtL_lt a3 x hx; omega) (q3.2 x hx)⟩) n g0 g1) n g0 g1
theorem toc58 : ∀ (m : Nat) (x : List D), wtL x < m → wtL x ≤ 1048576 → Sh Try.prog 58 x → Gives Try.prog 55 [.agg x] (.d (.agg x))
 | 0, _, hm, _, _ => by omega
 | m + 1, x, hm, hb, h => by
  obtain ⟨a0, a1, a2, a3, rfl, q0, q1, q2, q3⟩ := inv58 h
  have hw : wtL [.int .i64 a0, .str a1, .sl a2, .sl a3] = a1.length + wtR a2 + wtR a3 := by simp only [wtL, D.wt] <;> omega
  exact to55 a0 a1 a2 a3 (tos55 a2 (by omega) q2.2) (to70 a3 (by have := sumW_le a3 0; omega) (fun x hx => ⟨len58 (q3.2 x hx), toc58 m x (by have := wtL_lt a3 x hx; omega) (by have := wtL_lt a3 x hx; omega) (q3.2 x hx)⟩))
theorem eqc58 : ∀ (m : Nat) (x : List D), wtL x < m → Sh Try.prog 58 x → Gives Try.prog 56 [.agg x, .agg x] (.d (.bool true))
 | 0, _, hm, _ => by omega
 | m + 1, x, hm, h => by
  obtain ⟨a0, a1, a2, a3, rfl, q0, q1, q2, q3⟩ := inv58 h
  have hw : wtL [.int .i64 a0, .str a1, .sl a2, .sl a3] = a1.length + wtR a2 + wtR a3 := by simp only [wtL, D.wt] <;> omega
  exact eq56 a0 a1 a2 a3 (eqs55 a2 q2.1 q2.2) (eq72 a3 q3.1 (fun x hx => ⟨len58 (q3.2 x hx), eqc58 m x (by have := wtL_lt a3 x hx; omega) (q3.2 x hx)⟩))
theorem sh_Gl (x : List D) (h : Sh Try.prog 58 x) : ∃ t, x = Gl.enc t := Gl.of_sh lv58 sh_Tm x h
theorem lv60 : leaves Try.prog 6 60 = some [.str, .int .i64, .int .i64, .int .i64, .str, .sl 111, .sl 58] := by kernel_rfl
theorem inv60 {x : List D} (h : Sh Try.prog 60 x) : ∃ a0 a1 a2 a3 a4 a5 a6, x = [.str a0, .int .i64 a1, .int .i64 a2, .int .i64 a3, .str a4, .sl a5, .sl a6] ∧ a0.length ≤ maxLen ∧ (Lit.int .i64 a1).wf = true ∧ (Lit.int .i64 a2).wf = true ∧ (Lit.int .i64 a3).wf = true ∧ a4.length ≤ maxLen ∧ (a5.length ≤ maxLen ∧ ∀ x, x ∈ a5 → Sh Try.prog 111 x) ∧ (a6.length ≤ maxLen ∧ ∀ x, x ∈ a6 → Sh Try.prog 58 x) := by
 obtain ⟨ls, h1, h2, h3⟩ := h
 rw [lv60] at h1
 cases h1
 match x, h2, h3 with
 | [c0, c1, c2, c3, c4, c5, c6], _, h3 =>
  have g0 := h3 0 _ _ rfl rfl
  have g1 := h3 1 _ _ rfl rfl
  have g2 := h3 2 _ _ rfl rfl
  have g3 := h3 3 _ _ rfl rfl
  have g4 := h3 4 _ _ rfl rfl
  have g5 := h3 5 _ _ rfl rfl
  have g6 := h3 6 _ _ rfl rfl
  obtain ⟨b0, rfl, q0⟩ := g0.str_inv
  obtain ⟨b1, rfl, q1⟩ := g1.int_inv
  obtain ⟨b2, rfl, q2⟩ := g2.int_inv
  obtain ⟨b3, rfl, q3⟩ := g3.int_inv
  obtain ⟨b4, rfl, q4⟩ := g4.str_inv
  obtain ⟨b5, rfl, q5⟩ := g5.elems
  obtain ⟨b6, rfl, q6⟩ := g6.elems
  exact ⟨_, _, _, _, _, _, _, rfl, q0, q1, q2, q3, q4, q5, q6⟩
theorem sz16 (xs : List (List D)) (hm : xs.length ≤ maxLen) (hx : ∀ x, x ∈ xs → x.length = 7 ∧ ∀ n : Int, 0 ≤ n → n ≤ 1048576 → Gives Try.prog 32 [.agg x, .int .i64 n] (.d (.int .i64 (szr n (wtL x)))))
  (n : Int) (h0 : 0 ≤ n) (h1 : n ≤ 1048576) : Gives Try.prog 16 [.sl xs, .int .i64 n] (.d (.int .i64 (szr n (wtR xs)))) := by
 have hm' : (xs.length : Int) ≤ 9223372036854775807 := by simp only [maxLen] at hm; omega
 have hs := sumW_all xs
 have hs0 := sumW_le xs 0
 simp only [sumW] at hs0
 refine ACalls.enter (fn := Try.f16) Try.func16 rfl (by show 2 ≤ _; decide) ?_
 refine run_sound Try.func16 mixed 100 _ _ (by kernel_rfl) ?_
 simp only [go_sem, seval]
 rw [wrap_ok (by omega) (by omega)]
 refine br_intro (fun h => ?_) (fun h => ?_)
 ·simp only [decide_eq_true_eq] at h
  simp only [go_sem, seval]
  rw [szr_neg (by omega)]
 simp only [decide_eq_false_iff_not, Int.not_lt] at h
 simp only [go_sem, seval]
 refine AW.loop_ind (fun i : Nat => ⟨[(5, .d (.int .i64 i)), (0, .d (.sl xs)), (1, .d (.int .i64 (n - xs.length - sumW xs i))), (4, .d (.int .i64 0))], []⟩) (fun i => i ≤ xs.length ∧ (sumW xs i : Int) ≤ n - xs.length) (fun i => xs.length - i) 0 ⟨by omega, by simp only [sumW]; omega⟩ ?_ ?_
 ·refine Weak.of (by simp) rfl ?_
  simp [Abs.get, sumW, C.refsLtT, C.refsLt, C.refsLt1]
 ·intro i hi hnext
  obtain ⟨hi1, hi2⟩ := hi
  refine run_sound Try.func16 mixed 100 _ _ (by kernel_rfl) ?_
  simp only [go_sem, seval]
  refine br_intro (fun h => ?_) (fun h => ?_)
  ·simp only [decide_eq_true_eq] at h
   have hi : i < xs.length := by omega
   obtain ⟨x, hxi⟩ : ∃ x, xs[i]? = some x := ⟨_, List.getElem?_eq_getElem hi⟩
   have hsum := sumW_at hxi
   have hle := sumW_le xs (i + 1)
   obtain ⟨e1, e2⟩ := hx x (List.mem_of_getElem? hxi)
   simp only [go_sem, seval, Int.toNat_natCast, hxi, idx_of hxi, e1]
   repeat refine And.intro (by omega) ?_
   refine (e2 _ (by omega) (by omega)).calls rfl ?_
   simp only [go_sem, seval]
   refine br_intro (fun h => ?_) (fun h => ?_)
   ·simp only [decide_eq_true_eq] at h
    have hg := szr_lt h
    simp only [go_sem, seval]
    rw [szr_neg (by omega)]
   ·simp only [decide_eq_false_iff_not] at h
    have hg := szr_ge h
    rw [szr_pos hg]
    simp only [go_sem, seval]
    rw [wrap_ok (by omega) (by omega)]
    refine hnext (i + 1) _ ⟨by omega, by omega⟩ (by omega) ?_
    refine Weak.of (by simp) rfl ?_
    simp [Abs.get, C.refsLtT, C.refsLt, C.refsLt1]
    omega
  ·simp only [decide_eq_false_iff_not] at h
   have : i = xs.length := by omega
   subst this
   simp only [go_sem, seval]
   rw [szr_pos (by omega)]
   all_goals (congr 2 <;> omega)
theorem sz32 (a0 : List UInt8) (a1 : Int) (a2 : Int) (a3 : Int) (a4 : List UInt8) (a5 : List (List D)) (a6 : List (List D)) (h0 : a0.length ≤ maxLen) (h3 : ∀ n : Int, 0 ≤ n → n ≤ 1048576 → Gives Try.prog 53 [.agg [.int .i64 a3, .str a4, .sl a5, .sl a6], .int .i64 n] (.d (.int .i64 (szr n (wtL [.int .i64 a3, .str a4, .sl a5, .sl a6])))))
  (n : Int) (g0 : 0 ≤ n) (g1 : n ≤ 1048576) : Gives Try.prog 32 [.agg [.str a0, .int .i64 a1, .int .i64 a2, .int .i64 a3, .str a4, .sl a5, .sl a6], .int .i64 n] (.d (.int .i64 (szr n (wtL [.str a0, .int .i64 a1, .int .i64 a2, .int .i64 a3, .str a4, .sl a5, .sl a6])))) := by
 have hw : wtL [.str a0, .int .i64 a1, .int .i64 a2, .int .i64 a3, .str a4, .sl a5, .sl a6] = a0.length + wtL [.int .i64 a3, .str a4, .sl a5, .sl a6] := by simp only [wtL, D.wt] <;> omega
 simp only [maxLen] at h0
 rw [hw]
 refine ACalls.enter (fn := Try.f32) Try.func32 rfl (by show 2 ≤ _; decide) ?_
 refine run_sound Try.func32 mixed 100 _ _ (by kernel_rfl) ?_
 simp only [go_sem, seval]
 rw [wrap_ok (by omega) (by omega)]
 refine br_intro (fun h => ?_) (fun h => ?_)
 ·simp only [decide_eq_true_eq] at h
  simp only [go_sem, seval]
  rw [szr_neg (by omega)]
 simp only [decide_eq_false_iff_not, Int.not_lt] at h
 simp only [go_sem, seval]
 refine (h3 _ (by omega) (by omega)).calls rfl ?_
 simp only [go_sem, seval]
 refine br_intro (fun h => ?_) (fun h => ?_)
 ·simp only [decide_eq_true_eq] at h
  have hg := szr_lt h
  simp only [go_sem, seval]
  rw [szr_neg (by omega)]
 simp only [decide_eq_false_iff_not] at h
 have hg := szr_ge h
 rw [szr_pos hg]
 clear h
 simp only [go_sem, seval]
 all_goals rw [szr_pos (by omega)]
 all_goals (congr 2 <;> omega)
theorem to20 (xs : List (List D)) (hl : xs.length ≤ 1048576) (hx : ∀ x, x ∈ xs → x.length = 7 ∧ Gives Try.prog 36 [.agg x] (.d (.agg x))) : Gives Try.prog 20 [.sl xs] (.d (.sl xs)) := by
 refine ACalls.enter (fn := Try.f20) Try.func20 rfl (by show 1 ≤ _; decide) ?_
 refine run_sound Try.func20 mixed 100 _ _ (by kernel_rfl) ?_
 simp only [go_sem, seval, Int.toNat_natCast]
 repeat refine And.intro (by first | omega | (simp only [maxLen]; omega)) ?_
 refine AW.loop_ind (fun i : Nat => ⟨[(4, .d (.int .i64 i)), (0, .d (.sl xs)), (3, .rsl 0 xs.length), (2, .nil0)], [.row 7 67 (xs.take i ++ List.replicate (xs.length - i) [.str [], .int .i64 0, .int .i64 0, .int .i64 0, .str [], .sl [], .sl []])]⟩) (fun i => i ≤ xs.length) (fun i => xs.length - i) 0 (by omega) ?_ ?_
 ·refine Weak.of (by simp) rfl ?_
  simp [Abs.get, C.refsLtT, C.refsLt, C.refsLt1]
 ·intro i hi hnext
  by_cases h : i < xs.length
  ·obtain ⟨x, hxi⟩ : ∃ x, xs[i]? = some x := ⟨_, List.getElem?_eq_getElem h⟩
   obtain ⟨e1, e2⟩ := hx x (List.mem_of_getElem? hxi)
   have hlt : ((i : Int) < (xs.length : Int)) = True := by simp; omega
   refine run_sound Try.func20 mixed 100 _ _ (by kernel_rfl) ?_
   simp only [go_sem, seval, Int.toNat_natCast, hlt, hxi, idx_of hxi, e1]
   repeat refine And.intro (by omega) ?_
   refine e2.calls rfl ?_
   simp only [go_sem, seval, Int.toNat_natCast, hlt, hxi, idx_of hxi, e1]
   repeat refine And.intro (by first | omega | (simp; omega) | (simp_all; done)) ?_
   rw [wrap_ok (by omega) (by omega)]
   first | rw [row_step (k := 7) hxi (by rfl)] | rw [row_step1 hxi (by rfl)]
   refine hnext (i + 1) _ (by omega) (by omega) ?_
   refine Weak.of (by simp) rfl ?_
   simp [Abs.get, C.refsLtT, C.refsLt, C.refsLt1]
  ·have hlt : ((i : Int) < (xs.length : Int)) = False := by simp; omega
   refine run_sound Try.func20 mixed 6 _ _ (by kernel_rfl) ?_
   simp only [go_sem, seval, Int.toNat_natCast, hlt]
   obtain rfl : i = xs.length := by omega
   rw [row_all]
   refine AW.freeze 3 0 rfl rfl rfl ?_
   refine run_sound Try.func20 mixed 100 _ _ (by kernel_rfl) ?_
   simp only [go_sem, seval]
theorem to36 (a0 : List UInt8) (a1 : Int) (a2 : Int) (a3 : Int) (a4 : List UInt8) (a5 : List (List D)) (a6 : List (List D)) (h3 : Gives Try.prog 55 [.agg [.int .i64 a3, .str a4, .sl a5, .sl a6]] (.d (.agg [.int .i64 a3, .str a4, .sl a5, .sl a6]))) : Gives Try.prog 36 [.agg [.str a0, .int .i64 a1, .int .i64 a2, .int .i64 a3, .str a4, .sl a5, .sl a6]] (.d (.agg [.str a0, .int .i64 a1, .int .i64 a2, .int .i64 a3, .str a4, .sl a5, .sl a6])) := by
 refine ACalls.enter (fn := Try.f36) Try.func36 rfl (by show 1 ≤ _; decide) ?_
 refine run_sound Try.func36 mixed 100 _ _ (by kernel_rfl) ?_
 simp only [go_sem, seval]
 refine h3.calls rfl ?_
 simp only [go_sem, seval]
theorem eq23 (xs : List (List D)) (hm : xs.length ≤ maxLen) (hx : ∀ x, x ∈ xs → x.length = 7 ∧ Gives Try.prog 38 [.agg x, .agg x] (.d (.bool true))) : Gives Try.prog 23 [.sl xs, .sl xs] (.d (.bool true)) := by
 have hm' : (xs.length : Int) ≤ 9223372036854775807 := by simp only [maxLen] at hm; omega
 refine ACalls.enter (fn := Try.f23) Try.func23 rfl (by show 2 ≤ _; decide) ?_
 refine run_sound Try.func23 mixed 100 _ _ (by kernel_rfl) ?_
 simp only [go_sem, seval, bne_self_eq_false]
 refine AW.loop_ind (fun i : Nat => ⟨[(5, .d (.int .i64 i)), (0, .d (.sl xs)), (1, .d (.sl xs)), (4, .d (.bool false))], []⟩) (fun i => i ≤ xs.length) (fun i => xs.length - i) 0 (by omega) ?_ ?_
 ·refine Weak.of (by simp) rfl ?_
  simp [Abs.get, C.refsLtT, C.refsLt, C.refsLt1]
 ·intro i hi hnext
  by_cases h : i < xs.length
  ·obtain ⟨x, hxi⟩ : ∃ x, xs[i]? = some x := ⟨_, List.getElem?_eq_getElem h⟩
   obtain ⟨e1, e2⟩ := hx x (List.mem_of_getElem? hxi)
   have hlt : ((i : Int) < (xs.length : Int)) = True := by simp; omega
   have h00 : (0 ≤ (i : Int)) = True := by simp
   refine run_sound Try.func23 mixed 100 _ _ (by kernel_rfl) ?_
   simp only [go_sem, seval, Int.toNat_natCast, hlt, hxi, idx_of hxi, e1, h00, bne_self_eq_false]
   refine e2.callQ rfl ?_
   simp only [go_sem, seval]
   rw [wrap_ok (by omega) (by omega)]
   refine hnext (i + 1) _ (by omega) (by omega) ?_
   refine Weak.of (by simp) rfl ?_
   simp [Abs.get, C.refsLtT, C.refsLt, C.refsLt1]
  ·have hlt : ((i : Int) < (xs.length : Int)) = False := by simp; omega
   refine run_sound Try.func23 mixed 100 _ _ (by kernel_rfl) ?_
   simp only [go_sem, seval, hlt]
theorem eq38 (a0 : List UInt8) (a1 : Int) (a2 : Int) (a3 : Int) (a4 : List UInt8) (a5 : List (List D)) (a6 : List (List D)) (h3 : Gives Try.prog 56 [.agg [.int .i64 a3, .str a4, .sl a5, .sl a6], .agg [.int .i64 a3, .str a4, .sl a5, .sl a6]] (.d (.bool true))) : Gives Try.prog 38 [.agg [.str a0, .int .i64 a1, .int .i64 a2, .int .i64 a3, .str a4, .sl a5, .sl a6], .agg [.str a0, .int .i64 a1, .int .i64 a2, .int .i64 a3, .str a4, .sl a5, .sl a6]] (.d (.bool true)) := by
 refine ACalls.enter (fn := Try.f38) Try.func38 rfl (by show 2 ≤ _; decide) ?_
 refine run_sound Try.func38 mixed 100 _ _ (by kernel_rfl) ?_
 simp only [go_sem, seval, bne_self_eq_false]
 refine h3.calls rfl ?_
 simp only [go_sem, seval, bne_self_eq_false]
theorem len60 {x : List D} (h : Sh Try.prog 60 x) : x.length = 7 := by
 obtain ⟨_, _, _, _, _, _, _, rfl, _⟩ := inv60 h
 rfl
theorem szc60 : ∀ (m : Nat) (x : List D), wtL x < m → Sh Try.prog 60 x → ∀ n : Int, 0 ≤ n → n ≤ 1048576 → Gives Try.prog 32 [.agg x, .int .i64 n] (.d (.int .i64 (szr n (wtL x))))
 | 0, _, hm, _ => by omega
 | m + 1, x, hm, h => by
  obtain ⟨a0, a1, a2, a3, a4, a5, a6, rfl, q0, q1, q2, q3, q4, q5, q6⟩ := inv60 h
  have hw : wtL [.str a0, .int .i64 a1, .int .i64 a2, .int .i64 a3, .str a4, .sl a5, .sl a6] = a0.length + wtL [.int .i64 a3, .str a4, .sl a5, .sl a6] := by simp only [wtL, D.wt] <;> omega
  exact fun n g0 g1 => sz32 a0 a1 a2 a3 a4 a5 a6 q0 (fun n g0 g1 => szc58 _ [.int .i64 a3, .str a4, .sl a5, .sl a6] (Nat.lt_succ_self _) (mk58 a3 a4 a5 a6 q3 q4 q5 q6) n g0 g1) n g0 g1
theorem toc60 : ∀ (m : Nat) (x : List D), wtL x < m → wtL x ≤ 1048576 → Sh Try.prog 60 x → Gives Try.prog 36 [.agg x] (.d (.agg x))
 | 0, _, hm, _, _ => by omega
 | m + 1, x, hm, hb, h => by
  obtain ⟨a0, a1, a2, a3, a4, a5, a6, rfl, q0, q1, q2, q3, q4, q5, q6⟩ := inv60 h
  have hw : wtL [.str a0, .int .i64 a1, .int .i64 a2, .int .i64 a3, .str a4, .sl a5, .sl a6] = a0.length + wtL [.int .i64 a3, .str a4, .sl a5, .sl a6] := by simp only [wtL, D.wt] <;> omega
  exact to36 a0 a1 a2 a3 a4 a5 a6 (toc58 _ [.int .i64 a3, .str a4, .sl a5, .sl a6] (Nat.lt_succ_self _) (by omega) (mk58 a3 a4 a5 a6 q3 q4 q5 q6))
theorem eqc60 : ∀ (m : Nat) (x : List D), wtL x < m → Sh Try.prog 60 x → Gives Try.prog 38 [.agg x, .agg x] (.d (.bool true))
 | 0, _, hm, _ => by omega
 | m + 1, x, hm, h => by
  obtain ⟨a0, a1, a2, a3, a4, a5, a6, rfl, q0, q1, q2, q3, q4, q5, q6⟩ := inv60 h
  have hw : wtL [.str a0, .int .i64 a1, .int .i64 a2, .int .i64 a3, .str a4, .sl a5, .sl a6] = a0.length + wtL [.int .i64 a3, .str a4, .sl a5, .sl a6] := by simp only [wtL, D.wt] <;> omega
  exact eq38 a0 a1 a2 a3 a4 a5 a6 (eqc58 _ [.int .i64 a3, .str a4, .sl a5, .sl a6] (Nat.lt_succ_self _) (mk58 a3 a4 a5 a6 q3 q4 q5 q6))
theorem sh_Rl (x : List D) (h : Sh Try.prog 60 x) : ∃ t, x = Rl.enc t := Rl.of_sh lv60 sh_Tm sh_Gl x h
theorem szs22 (xs : List (List D)) (hm : xs.length ≤ maxLen) (h : ∀ x, x ∈ xs → Sh Try.prog 60 x) (n : Int) (g0 : 0 ≤ n) (g1 : n ≤ 1048576) : Gives Try.prog 16 [.sl xs, .int .i64 n] (.d (.int .i64 (szr n (wtR xs)))) :=
 sz16 xs hm (fun x hx => ⟨len60 (h x hx), szc60 _ x (Nat.lt_succ_self _) (h x hx)⟩) n g0 g1
theorem tos22 (xs : List (List D)) (hb : wtR xs ≤ 1048576) (h : ∀ x, x ∈ xs → Sh Try.prog 60 x) : Gives Try.prog 20 [.sl xs] (.d (.sl xs)) :=
 to20 xs (by have := sumW_le xs 0; omega) (fun x hx => ⟨len60 (h x hx), toc60 _ x (Nat.lt_succ_self _) (by have := wtL_lt xs x hx; omega) (h x hx)⟩)
theorem eqs22 (xs : List (List D)) (hm : xs.length ≤ maxLen) (h : ∀ x, x ∈ xs → Sh Try.prog 60 x) : Gives Try.prog 23 [.sl xs, .sl xs] (.d (.bool true)) :=
 eq23 xs hm (fun x hx => ⟨len60 (h x hx), eqc60 _ x (Nat.lt_succ_self _) (h x hx)⟩)
theorem lv24 : leaves Try.prog 6 24 = some [.sl 60] := by kernel_rfl
theorem inv24 {x : List D} (h : Sh Try.prog 24 x) : ∃ a0, x = [.sl a0] ∧ (a0.length ≤ maxLen ∧ ∀ x, x ∈ a0 → Sh Try.prog 60 x) := by
 obtain ⟨ls, h1, h2, h3⟩ := h
 rw [lv24] at h1
 cases h1
 match x, h2, h3 with
 | [c0], _, h3 =>
  have g0 := h3 0 _ _ rfl rfl
  obtain ⟨b0, rfl, q0⟩ := g0.elems
  exact ⟨_, rfl, q0⟩
theorem sz5 (a0 : List (List D)) (h0 : ∀ n : Int, 0 ≤ n → n ≤ 1048576 → Gives Try.prog 16 [.sl a0, .int .i64 n] (.d (.int .i64 (szr n (wtR a0)))))
  (n : Int) (g0 : 0 ≤ n) (g1 : n ≤ 1048576) : Gives Try.prog 5 [.agg [.sl a0], .int .i64 n] (.d (.int .i64 (szr n (wtL [.sl a0])))) := by
 have hw : wtL [.sl a0] = wtR a0 := by simp only [wtL, D.wt] <;> omega
 rw [hw]
 refine ACalls.enter (fn := Try.f5) Try.func5 rfl (by show 2 ≤ _; decide) ?_
 refine run_sound Try.func5 mixed 100 _ _ (by kernel_rfl) ?_
 simp only [go_sem, seval]
 refine (h0 _ (by omega) (by omega)).calls rfl ?_
 simp only [go_sem, seval]
 refine br_intro (fun h => ?_) (fun h => ?_)
 ·simp only [decide_eq_true_eq] at h
  have hg := szr_lt h
  simp only [go_sem, seval]
  rw [szr_neg (by omega)]
 simp only [decide_eq_false_iff_not] at h
 have hg := szr_ge h
 rw [szr_pos hg]
 clear h
 simp only [go_sem, seval]
 all_goals rw [szr_pos (by omega)]
 all_goals (congr 2 <;> omega)
theorem to7 (a0 : List (List D)) (h0 : Gives Try.prog 20 [.sl a0] (.d (.sl a0))) : Gives Try.prog 7 [.agg [.sl a0]] (.d (.agg [.sl a0])) := by
 refine ACalls.enter (fn := Try.f7) Try.func7 rfl (by show 1 ≤ _; decide) ?_
 refine run_sound Try.func7 mixed 100 _ _ (by kernel_rfl) ?_
 simp only [go_sem, seval]
 refine h0.calls rfl ?_
 simp only [go_sem, seval]
theorem eq9 (a0 : List (List D)) (h0 : Gives Try.prog 23 [.sl a0, .sl a0] (.d (.bool true))) : Gives Try.prog 9 [.agg [.sl a0], .agg [.sl a0]] (.d (.bool true)) := by
 refine ACalls.enter (fn := Try.f9) Try.func9 rfl (by show 2 ≤ _; decide) ?_
 refine run_sound Try.func9 mixed 100 _ _ (by kernel_rfl) ?_
 simp only [go_sem, seval, bne_self_eq_false]
 refine h0.calls rfl ?_
 simp only [go_sem, seval, bne_self_eq_false]
theorem szc24 : ∀ (m : Nat) (x : List D), wtL x < m → Sh Try.prog 24 x → ∀ n : Int, 0 ≤ n → n ≤ 1048576 → Gives Try.prog 5 [.agg x, .int .i64 n] (.d (.int .i64 (szr n (wtL x))))
 | 0, _, hm, _ => by omega
 | m + 1, x, hm, h => by
  obtain ⟨a0, rfl, q0⟩ := inv24 h
  have hw : wtL [.sl a0] = wtR a0 := by simp only [wtL, D.wt] <;> omega
  exact fun n g0 g1 => sz5 a0 (fun n g0 g1 => szs22 a0 q0.1 q0.2 n g0 g1) n g0 g1
theorem toc24 : ∀ (m : Nat) (x : List D), wtL x < m → wtL x ≤ 1048576 → Sh Try.prog 24 x → Gives Try.prog 7 [.agg x] (.d (.agg x))
 | 0, _, hm, _, _ => by omega
 | m + 1, x, hm, hb, h => by
  obtain ⟨a0, rfl, q0⟩ := inv24 h
  have hw : wtL [.sl a0] = wtR a0 := by simp only [wtL, D.wt] <;> omega
  exact to7 a0 (tos22 a0 (by omega) q0.2)
theorem eqc24 : ∀ (m : Nat) (x : List D), wtL x < m → Sh Try.prog 24 x → Gives Try.prog 9 [.agg x, .agg x] (.d (.bool true))
 | 0, _, hm, _ => by omega
 | m + 1, x, hm, h => by
  obtain ⟨a0, rfl, q0⟩ := inv24 h
  have hw : wtL [.sl a0] = wtR a0 := by simp only [wtL, D.wt] <;> omega
  exact eq9 a0 (eqs22 a0 q0.1 q0.2)
theorem sh_Pg (x : List D) (h : Sh Try.prog 24 x) : ∃ t, x = Pg.enc t := Pg.of_sh lv24 sh_Rl x h
theorem eq28 (xs : List (List D)) (hm : xs.length ≤ maxLen) (hx : ∀ x, x ∈ xs → ∃ y : Int, x = [.int .i64 y]) : Gives Try.prog 28 [.sl xs, .sl xs] (.d (.bool true)) := by
 have hm' : (xs.length : Int) ≤ 9223372036854775807 := by simp only [maxLen] at hm; omega
 refine ACalls.enter (fn := Try.f28) Try.func28 rfl (by show 2 ≤ _; decide) ?_
 refine run_sound Try.func28 mixed 100 _ _ (by kernel_rfl) ?_
 simp only [go_sem, seval, bne_self_eq_false]
 refine AW.loop_ind (fun i : Nat => ⟨[(5, .d (.int .i64 i)), (0, .d (.sl xs)), (1, .d (.sl xs)), (4, .d (.bool false))], []⟩) (fun i => i ≤ xs.length) (fun i => xs.length - i) 0 (by omega) ?_ ?_
 ·refine Weak.of (by simp) rfl ?_
  simp [Abs.get, C.refsLtT, C.refsLt, C.refsLt1]
 ·intro i hi hnext
  by_cases h : i < xs.length
  ·obtain ⟨x, hxi⟩ : ∃ x, xs[i]? = some x := ⟨_, List.getElem?_eq_getElem h⟩
   obtain ⟨y, e1⟩ := hx x (List.mem_of_getElem? hxi)
   subst e1
   have hlt : ((i : Int) < (xs.length : Int)) = True := by simp; omega
   have h00 : (0 ≤ (i : Int)) = True := by simp
   refine run_sound Try.func28 mixed 100 _ _ (by kernel_rfl) ?_
   simp only [go_sem, seval, Int.toNat_natCast, hlt, hxi, idx_of hxi, h00, bne_self_eq_false]
   rw [wrap_ok (by omega) (by omega)]
   refine hnext (i + 1) _ (by omega) (by omega) ?_
   refine Weak.of (by simp) rfl ?_
   simp [Abs.get, C.refsLtT, C.refsLt, C.refsLt1]
  ·have hlt : ((i : Int) < (xs.length : Int)) = False := by simp; omega
   refine run_sound Try.func28 mixed 100 _ _ (by kernel_rfl) ?_
   simp only [go_sem, seval, hlt]
theorem eq12 (xs : List (List D)) (hm : xs.length ≤ maxLen) (hx : ∀ x, x ∈ xs → ∃ y, x = [.sl y] ∧ Gives Try.prog 28 [.sl y, .sl y] (.d (.bool true))) : Gives Try.prog 12 [.sl xs, .sl xs] (.d (.bool true)) := by
 have hm' : (xs.length : Int) ≤ 9223372036854775807 := by simp only [maxLen] at hm; omega
 refine ACalls.enter (fn := Try.f12) Try.func12 rfl (by show 2 ≤ _; decide) ?_
 refine run_sound Try.func12 mixed 100 _ _ (by kernel_rfl) ?_
 simp only [go_sem, seval, bne_self_eq_false]
 refine AW.loop_ind (fun i : Nat => ⟨[(5, .d (.int .i64 i)), (0, .d (.sl xs)), (1, .d (.sl xs)), (4, .d (.bool false))], []⟩) (fun i => i ≤ xs.length) (fun i => xs.length - i) 0 (by omega) ?_ ?_
 ·refine Weak.of (by simp) rfl ?_
  simp [Abs.get, C.refsLtT, C.refsLt, C.refsLt1]
 ·intro i hi hnext
  by_cases h : i < xs.length
  ·obtain ⟨x, hxi⟩ : ∃ x, xs[i]? = some x := ⟨_, List.getElem?_eq_getElem h⟩
   obtain ⟨y, e1, e2⟩ := hx x (List.mem_of_getElem? hxi)
   subst e1
   have hlt : ((i : Int) < (xs.length : Int)) = True := by simp; omega
   have h00 : (0 ≤ (i : Int)) = True := by simp
   refine run_sound Try.func12 mixed 100 _ _ (by kernel_rfl) ?_
   simp only [go_sem, seval, Int.toNat_natCast, hlt, hxi, idx_of hxi, h00, bne_self_eq_false]
   refine e2.callQ rfl ?_
   simp only [go_sem, seval]
   rw [wrap_ok (by omega) (by omega)]
   refine hnext (i + 1) _ (by omega) (by omega) ?_
   refine Weak.of (by simp) rfl ?_
   simp [Abs.get, C.refsLtT, C.refsLt, C.refsLt1]
  ·have hlt : ((i : Int) < (xs.length : Int)) = False := by simp; omega
   refine run_sound Try.func12 mixed 100 _ _ (by kernel_rfl) ?_
   simp only [go_sem, seval, hlt]
end Go.Proofs.Ytfniakcjekooiaa
