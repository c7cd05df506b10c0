/- The laws' size, copy and comparison functions, walked on plain data. -/
import Derived.Test.YtljdpohdfnileaaFx
namespace Go.Proofs.Ytljdpohdfnileaa
open Go.Abs
set_option maxRecDepth 100000
set_option maxHeartbeats 4000000
set_option linter.unusedSimpArgs false
set_option linter.unusedVariables false

theorem lv118 : leaves Try.prog 6 118 = some [.int .i64, .int .i64, .str, .sl 118] := by kernel_rfl
theorem inv118 {x : List D} (h : Sh Try.prog 118 x) : ∃ a0 a1 a2 a3, x = [.int .i64 a0, .int .i64 a1, .str a2, .sl a3] ∧ (Lit.int .i64 a0).wf = true ∧ (Lit.int .i64 a1).wf = true ∧ a2.length ≤ maxLen ∧ (a3.length ≤ maxLen ∧ ∀ x, x ∈ a3 → Sh Try.prog 118 x) := by
  obtain ⟨ls, h1, h2, h3⟩ := h
  rw [lv118] at h1
  cases h1
  match x, h2, h3 with
  | [c0, c1, c2, c3], _, h3 =>
    have g0 := h3 0 _ _ rfl rfl
    have g1 := h3 1 _ _ rfl rfl
    have g2 := h3 2 _ _ rfl rfl
    have g3 := h3 3 _ _ rfl rfl
    obtain ⟨b0, rfl, q0⟩ := g0.int_inv
    obtain ⟨b1, rfl, q1⟩ := g1.int_inv
    obtain ⟨b2, rfl, q2⟩ := g2.str_inv
    obtain ⟨b3, rfl, q3⟩ := g3.elems
    exact ⟨_, _, _, _, rfl, q0, q1, q2, q3⟩

theorem sz51 (xs : List (List D)) (hm : xs.length ≤ maxLen) (hx : ∀ x, x ∈ xs → x.length = 4 ∧ ∀ n : Int, 0 ≤ n → n ≤ 1048576 → Gives Try.prog 91 [.agg x, .int .i64 n] (.d (.int .i64 (szr n (wtL x)))))
    (n : Int) (h0 : 0 ≤ n) (h1 : n ≤ 1048576) : Gives Try.prog 51 [.sl xs, .int .i64 n] (.d (.int .i64 (szr n (wtR xs)))) := by
  have hm' : (xs.length : Int) ≤ 9223372036854775807 := by simp only [maxLen] at hm; omega
  have hs := sumW_all xs
  have hs0 := sumW_le xs 0
  simp only [sumW] at hs0
  refine ACalls.enter (fn := Try.f51) Try.func51 rfl (by show 2 ≤ _; decide) ?_
  refine run_sound Try.func51 mixed 100 _ _ (by kernel_rfl) ?_
  simp only [go_sem, seval]
  rw [wrap_ok (by omega) (by omega)]
  refine br_intro (fun h => ?_) (fun h => ?_)
  · simp only [decide_eq_true_eq] at h
    simp only [go_sem, seval]
    rw [szr_neg (by omega)]
  simp only [decide_eq_false_iff_not, Int.not_lt] at h
  simp only [go_sem, seval]
  refine AW.loop_ind (fun i : Nat => ⟨[(5, .d (.int .i64 i)), (0, .d (.sl xs)), (1, .d (.int .i64 (n - xs.length - sumW xs i))), (4, .d (.int .i64 0))], []⟩) (fun i => i ≤ xs.length ∧ (sumW xs i : Int) ≤ n - xs.length) (fun i => xs.length - i) 0 ⟨by omega, by simp only [sumW]; omega⟩ ?_ ?_
  · refine Weak.of (by simp) rfl ?_
    simp [Abs.get, sumW, C.refsLtT, C.refsLt, C.refsLt1]
  · intro i hi hnext
    obtain ⟨hi1, hi2⟩ := hi
    refine run_sound Try.func51 mixed 100 _ _ (by kernel_rfl) ?_
    simp only [go_sem, seval]
    refine br_intro (fun h => ?_) (fun h => ?_)
    · simp only [decide_eq_true_eq] at h
      have hi : i < xs.length := by omega
      obtain ⟨x, hxi⟩ : ∃ x, xs[i]? = some x := ⟨_, List.getElem?_eq_getElem hi⟩
      have hsum := sumW_at hxi
      have hle := sumW_le xs (i + 1)
      obtain ⟨e1, e2⟩ := hx x (List.mem_of_getElem? hxi)
      simp only [go_sem, seval, Int.toNat_natCast, hxi, idx_of hxi, e1]
      repeat refine And.intro (by omega) ?_
      refine (e2 _ (by omega) (by omega)).calls rfl ?_
      simp only [go_sem, seval]
      refine br_intro (fun h => ?_) (fun h => ?_)
      · simp only [decide_eq_true_eq] at h
        have hg := szr_lt h
        simp only [go_sem, seval]
        rw [szr_neg (by omega)]
      · simp only [decide_eq_false_iff_not] at h
        have hg := szr_ge h
        rw [szr_pos hg]
        simp only [go_sem, seval]
        rw [wrap_ok (by omega) (by omega)]
        refine hnext (i + 1) _ ⟨by omega, by omega⟩ (by omega) ?_
        refine Weak.of (by simp) rfl ?_
        simp [Abs.get, C.refsLtT, C.refsLt, C.refsLt1]
        omega
    · simp only [decide_eq_false_iff_not] at h
      have : i = xs.length := by omega
      subst this
      simp only [go_sem, seval]
      rw [szr_pos (by omega)]
      all_goals (congr 2 <;> omega)

theorem sz91 (a0 : Int) (a1 : Int) (a2 : List UInt8) (a3 : List (List D)) (h2 : a2.length ≤ maxLen) (h3 : ∀ n : Int, 0 ≤ n → n ≤ 1048576 → Gives Try.prog 51 [.sl a3, .int .i64 n] (.d (.int .i64 (szr n (wtR a3)))))
    (n : Int) (g0 : 0 ≤ n) (g1 : n ≤ 1048576) : Gives Try.prog 91 [.agg [.int .i64 a0, .int .i64 a1, .str a2, .sl a3], .int .i64 n] (.d (.int .i64 (szr n (wtL [.int .i64 a0, .int .i64 a1, .str a2, .sl a3])))) := by
  have hw : wtL [.int .i64 a0, .int .i64 a1, .str a2, .sl a3] = a2.length + wtR a3 := by simp only [wtL, D.wt] <;> omega
  simp only [maxLen] at h2
  rw [hw]
  refine ACalls.enter (fn := Try.f91) Try.func91 rfl (by show 2 ≤ _; decide) ?_
  refine run_sound Try.func91 mixed 100 _ _ (by kernel_rfl) ?_
  simp only [go_sem, seval]
  rw [wrap_ok (by omega) (by omega)]
  refine br_intro (fun h => ?_) (fun h => ?_)
  · simp only [decide_eq_true_eq] at h
    simp only [go_sem, seval]
    rw [szr_neg (by omega)]
  simp only [decide_eq_false_iff_not, Int.not_lt] at h
  simp only [go_sem, seval]
  refine (h3 _ (by omega) (by omega)).calls rfl ?_
  simp only [go_sem, seval]
  refine br_intro (fun h => ?_) (fun h => ?_)
  · simp only [decide_eq_true_eq] at h
    have hg := szr_lt h
    simp only [go_sem, seval]
    rw [szr_neg (by omega)]
  simp only [decide_eq_false_iff_not] at h
  have hg := szr_ge h
  rw [szr_pos hg]
  clear h
  simp only [go_sem, seval]
  all_goals rw [szr_pos (by omega)]
  all_goals (congr 2 <;> omega)

theorem to55 (xs : List (List D)) (hl : xs.length ≤ 1048576) (hx : ∀ x, x ∈ xs → x.length = 4 ∧ Gives Try.prog 94 [.agg x] (.d (.agg x))) : Gives Try.prog 55 [.sl xs] (.d (.sl xs)) := by
  refine ACalls.enter (fn := Try.f55) Try.func55 rfl (by show 1 ≤ _; decide) ?_
  refine run_sound Try.func55 mixed 100 _ _ (by kernel_rfl) ?_
  simp only [go_sem, seval, Int.toNat_natCast]
  repeat refine And.intro (by first | omega | (simp only [maxLen]; omega)) ?_
  refine AW.loop_ind (fun i : Nat => ⟨[(4, .d (.int .i64 i)), (0, .d (.sl xs)), (3, .rsl 0 xs.length), (2, .nil0)], [.row 4 120 (xs.take i ++ List.replicate (xs.length - i) [.int .i64 0, .int .i64 0, .str [], .sl []])]⟩) (fun i => i ≤ xs.length) (fun i => xs.length - i) 0 (by omega) ?_ ?_
  · refine Weak.of (by simp) rfl ?_
    simp [Abs.get, C.refsLtT, C.refsLt, C.refsLt1]
  · intro i hi hnext
    by_cases h : i < xs.length
    · obtain ⟨x, hxi⟩ : ∃ x, xs[i]? = some x := ⟨_, List.getElem?_eq_getElem h⟩
      obtain ⟨e1, e2⟩ := hx x (List.mem_of_getElem? hxi)
      have hlt : ((i : Int) < (xs.length : Int)) = True := by simp; omega
      refine run_sound Try.func55 mixed 100 _ _ (by kernel_rfl) ?_
      simp only [go_sem, seval, Int.toNat_natCast, hlt, hxi, idx_of hxi, e1]
      repeat refine And.intro (by omega) ?_
      refine e2.calls rfl ?_
      simp only [go_sem, seval, Int.toNat_natCast, hlt, hxi, idx_of hxi, e1]
      repeat refine And.intro (by first | omega | (simp; omega) | (simp_all; done)) ?_
      rw [wrap_ok (by omega) (by omega)]
      first | rw [row_step (k := 4) hxi (by rfl)] | rw [row_step1 hxi (by rfl)]
      refine hnext (i + 1) _ (by omega) (by omega) ?_
      refine Weak.of (by simp) rfl ?_
      simp [Abs.get, C.refsLtT, C.refsLt, C.refsLt1]
    · have hlt : ((i : Int) < (xs.length : Int)) = False := by simp; omega
      refine run_sound Try.func55 mixed 6 _ _ (by kernel_rfl) ?_
      simp only [go_sem, seval, Int.toNat_natCast, hlt]
      obtain rfl : i = xs.length := by omega
      rw [row_all]
      refine AW.freeze 3 0 rfl rfl rfl ?_
      refine run_sound Try.func55 mixed 100 _ _ (by kernel_rfl) ?_
      simp only [go_sem, seval]

theorem to94 (a0 : Int) (a1 : Int) (a2 : List UInt8) (a3 : List (List D)) (h3 : Gives Try.prog 55 [.sl a3] (.d (.sl a3))) : Gives Try.prog 94 [.agg [.int .i64 a0, .int .i64 a1, .str a2, .sl a3]] (.d (.agg [.int .i64 a0, .int .i64 a1, .str a2, .sl a3])) := by
  refine ACalls.enter (fn := Try.f94) Try.func94 rfl (by show 1 ≤ _; decide) ?_
  refine run_sound Try.func94 mixed 100 _ _ (by kernel_rfl) ?_
  simp only [go_sem, seval]
  refine h3.calls rfl ?_
  simp only [go_sem, seval]

theorem eq59 (xs : List (List D)) (hm : xs.length ≤ maxLen) (hx : ∀ x, x ∈ xs → x.length = 4 ∧ Gives Try.prog 96 [.agg x, .agg x] (.d (.bool true))) : Gives Try.prog 59 [.sl xs, .sl xs] (.d (.bool true)) := by
  have hm' : (xs.length : Int) ≤ 9223372036854775807 := by simp only [maxLen] at hm; omega
  refine ACalls.enter (fn := Try.f59) Try.func59 rfl (by show 2 ≤ _; decide) ?_
  refine run_sound Try.func59 mixed 100 _ _ (by kernel_rfl) ?_
  simp only [go_sem, seval, bne_self_eq_false]
  refine AW.loop_ind (fun i : Nat => ⟨[(5, .d (.int .i64 i)), (0, .d (.sl xs)), (1, .d (.sl xs)), (4, .d (.bool false))], []⟩) (fun i => i ≤ xs.length) (fun i => xs.length - i) 0 (by omega) ?_ ?_
  · refine Weak.of (by simp) rfl ?_
    simp [Abs.get, C.refsLtT, C.refsLt, C.refsLt1]
  · intro i hi hnext
    by_cases h : i < xs.length
    · obtain ⟨x, hxi⟩ : ∃ x, xs[i]? = some x := ⟨_, List.getElem?_eq_getElem h⟩
      obtain ⟨e1, e2⟩ := hx x (List.mem_of_getElem? hxi)
      have hlt : ((i : Int) < (xs.length : Int)) = True := by simp; omega
      have h00 : (0 ≤ (i : Int)) = True := by simp
      refine run_sound Try.func59 mixed 100 _ _ (by kernel_rfl) ?_
      simp only [go_sem, seval, Int.toNat_natCast, hlt, hxi, idx_of hxi, e1, h00, bne_self_eq_false]
      refine e2.callQ rfl ?_
      simp only [go_sem, seval]
      rw [wrap_ok (by omega) (by omega)]
      refine hnext (i + 1) _ (by omega) (by omega) ?_
      refine Weak.of (by simp) rfl ?_
      simp [Abs.get, C.refsLtT, C.refsLt, C.refsLt1]
    · have hlt : ((i : Int) < (xs.length : Int)) = False := by simp; omega
      refine run_sound Try.func59 mixed 100 _ _ (by kernel_rfl) ?_
      simp only [go_sem, seval, hlt]

theorem eq96 (a0 : Int) (a1 : Int) (a2 : List UInt8) (a3 : List (List D)) (h3 : Gives Try.prog 59 [.sl a3, .sl a3] (.d (.bool true))) : Gives Try.prog 96 [.agg [.int .i64 a0, .int .i64 a1, .str a2, .sl a3], .agg [.int .i64 a0, .int .i64 a1, .str a2, .sl a3]] (.d (.bool true)) := by
  refine ACalls.enter (fn := Try.f96) Try.func96 rfl (by show 2 ≤ _; decide) ?_
  refine run_sound Try.func96 mixed 100 _ _ (by kernel_rfl) ?_
  simp only [go_sem, seval, bne_self_eq_false]
  refine h3.calls rfl ?_
  simp only [go_sem, seval, bne_self_eq_false]

theorem mk118 (a0 : Int) (a1 : Int) (a2 : List UInt8) (a3 : List (List D)) (q0 : (Lit.int .i64 a0).wf = true) (q1 : (Lit.int .i64 a1).wf = true) (q2 : a2.length ≤ maxLen) (q3 : a3.length ≤ maxLen ∧ ∀ x, x ∈ a3 → Sh Try.prog 118 x) : Sh Try.prog 118 [.int .i64 a0, .int .i64 a1, .str a2, .sl a3] := by
  refine ⟨_, lv118, rfl, fun i l c hl hc => ?_⟩
  match i with
  | 0 => simp at hl hc; subst hl hc; exact .int _ _ q0
  | 1 => simp at hl hc; subst hl hc; exact .int _ _ q1
  | 2 => simp at hl hc; subst hl hc; exact .str _ q2
  | 3 => simp at hl hc; subst hl hc; exact ShC.sl_of lv118 q3.1 q3.2
  | i + 4 => simp at hl

theorem len118 {x : List D} (h : Sh Try.prog 118 x) : x.length = 4 := by
  obtain ⟨_, _, _, _, rfl, _⟩ := inv118 h
  rfl
theorem szc118 : ∀ (m : Nat) (x : List D), wtL x < m → Sh Try.prog 118 x → ∀ n : Int, 0 ≤ n → n ≤ 1048576 → Gives Try.prog 91 [.agg x, .int .i64 n] (.d (.int .i64 (szr n (wtL x))))
  | 0, _, hm, _ => by omega
  | m + 1, x, hm, h => by
    obtain ⟨a0, a1, a2, a3, rfl, q0, q1, q2, q3⟩ := inv118 h
    have hw : wtL [.int .i64 a0, .int .i64 a1, .str a2, .sl a3] = a2.length + wtR a3 := by simp only [wtL, D.wt] <;> omega
    exact fun n g0 g1 => sz91 a0 a1 a2 a3 q2 (fun n g0 g1 => sz51 a3 q3.1 (fun x hx => ⟨len118 (q3.2 x hx), szc118 m x (by have := wtL_lt a3 x hx; omega) (q3.2 x hx)⟩) n g0 g1) n g0 g1
theorem toc118 : ∀ (m : Nat) (x : List D), wtL x < m → wtL x ≤ 1048576 → Sh Try.prog 118 x → Gives Try.prog 94 [.agg x] (.d (.agg x))
  | 0, _, hm, _, _ => by omega
  | m + 1, x, hm, hb, h => by
    obtain ⟨a0, a1, a2, a3, rfl, q0, q1, q2, q3⟩ := inv118 h
    have hw : wtL [.int .i64 a0, .int .i64 a1, .str a2, .sl a3] = a2.length + wtR a3 := by simp only [wtL, D.wt] <;> omega
    exact to94 a0 a1 a2 a3 (to55 a3 (by have := sumW_le a3 0; omega) (fun x hx => ⟨len118 (q3.2 x hx), toc118 m x (by have := wtL_lt a3 x hx; omega) (by have := wtL_lt a3 x hx; omega) (q3.2 x hx)⟩))
theorem eqc118 : ∀ (m : Nat) (x : List D), wtL x < m → Sh Try.prog 118 x → Gives Try.prog 96 [.agg x, .agg x] (.d (.bool true))
  | 0, _, hm, _ => by omega
  | m + 1, x, hm, h => by
    obtain ⟨a0, a1, a2, a3, rfl, q0, q1, q2, q3⟩ := inv118 h
    have hw : wtL [.int .i64 a0, .int .i64 a1, .str a2, .sl a3] = a2.length + wtR a3 := by simp only [wtL, D.wt] <;> omega
    exact eq96 a0 a1 a2 a3 (eq59 a3 q3.1 (fun x hx => ⟨len118 (q3.2 x hx), eqc118 m x (by have := wtL_lt a3 x hx; omega) (q3.2 x hx)⟩))

theorem sh_Tm (x : List D) (h : Sh Try.prog 118 x) : ∃ t, x = Tm.enc t := Tm.of_sh lv118 x h
theorem sl_22 {x : D} (h : Sh Try.prog 22 [x]) : ∃ l : List Tm, x = .sl (l.map Tm.enc) := shL (by kernel_rfl) sh_Tm h

theorem szs22 (xs : List (List D)) (hm : xs.length ≤ maxLen) (h : ∀ x, x ∈ xs → Sh Try.prog 118 x) (n : Int) (g0 : 0 ≤ n) (g1 : n ≤ 1048576) : Gives Try.prog 51 [.sl xs, .int .i64 n] (.d (.int .i64 (szr n (wtR xs)))) :=
  sz51 xs hm (fun x hx => ⟨len118 (h x hx), szc118 _ x (Nat.lt_succ_self _) (h x hx)⟩) n g0 g1
theorem tos22 (xs : List (List D)) (hb : wtR xs ≤ 1048576) (h : ∀ x, x ∈ xs → Sh Try.prog 118 x) : Gives Try.prog 55 [.sl xs] (.d (.sl xs)) :=
  to55 xs (by have := sumW_le xs 0; omega) (fun x hx => ⟨len118 (h x hx), toc118 _ x (Nat.lt_succ_self _) (by have := wtL_lt xs x hx; omega) (h x hx)⟩)
theorem eqs22 (xs : List (List D)) (hm : xs.length ≤ maxLen) (h : ∀ x, x ∈ xs → Sh Try.prog 118 x) : Gives Try.prog 59 [.sl xs, .sl xs] (.d (.bool true)) :=
  eq59 xs hm (fun x hx => ⟨len118 (h x hx), eqc118 _ x (Nat.lt_succ_self _) (h x hx)⟩)

theorem lv25 : leaves Try.prog 6 25 = some [.int .i64, .str, .sl 118, .sl 25] := by kernel_rfl
theorem inv25 {x : List D} (h : Sh Try.prog 25 x) : ∃ a0 a1 a2 a3, x = [.int .i64 a0, .str a1, .sl a2, .sl a3] ∧ (Lit.int .i64 a0).wf = true ∧ a1.length ≤ maxLen ∧ (a2.length ≤ maxLen ∧ ∀ x, x ∈ a2 → Sh Try.prog 118 x) ∧ (a3.length ≤ maxLen ∧ ∀ x, x ∈ a3 → Sh Try.prog 25 x) := by
  obtain ⟨ls, h1, h2, h3⟩ := h
  rw [lv25] at h1
  cases h1
  match x, h2, h3 with
  | [c0, c1, c2, c3], _, h3 =>
    have g0 := h3 0 _ _ rfl rfl
    have g1 := h3 1 _ _ rfl rfl
    have g2 := h3 2 _ _ rfl rfl
    have g3 := h3 3 _ _ rfl rfl
    obtain ⟨b0, rfl, q0⟩ := g0.int_inv
    obtain ⟨b1, rfl, q1⟩ := g1.str_inv
    obtain ⟨b2, rfl, q2⟩ := g2.elems
    obtain ⟨b3, rfl, q3⟩ := g3.elems
    exact ⟨_, _, _, _, rfl, q0, q1, q2, q3⟩

theorem sz52 (xs : List (List D)) (hm : xs.length ≤ maxLen) (hx : ∀ x, x ∈ xs → x.length = 4 ∧ ∀ n : Int, 0 ≤ n → n ≤ 1048576 → Gives Try.prog 11 [.agg x, .int .i64 n] (.d (.int .i64 (szr n (wtL x)))))
    (n : Int) (h0 : 0 ≤ n) (h1 : n ≤ 1048576) : Gives Try.prog 52 [.sl xs, .int .i64 n] (.d (.int .i64 (szr n (wtR xs)))) := by
  have hm' : (xs.length : Int) ≤ 9223372036854775807 := by simp only [maxLen] at hm; omega
  have hs := sumW_all xs
  have hs0 := sumW_le xs 0
  simp only [sumW] at hs0
  refine ACalls.enter (fn := Try.f52) Try.func52 rfl (by show 2 ≤ _; decide) ?_
  refine run_sound Try.func52 mixed 100 _ _ (by kernel_rfl) ?_
  simp only [go_sem, seval]
  rw [wrap_ok (by omega) (by omega)]
  refine br_intro (fun h => ?_) (fun h => ?_)
  · simp only [decide_eq_true_eq] at h
    simp only [go_sem, seval]
    rw [szr_neg (by omega)]
  simp only [decide_eq_false_iff_not, Int.not_lt] at h
  simp only [go_sem, seval]
  refine AW.loop_ind (fun i : Nat => ⟨[(5, .d (.int .i64 i)), (0, .d (.sl xs)), (1, .d (.int .i64 (n - xs.length - sumW xs i))), (4, .d (.int .i64 0))], []⟩) (fun i => i ≤ xs.length ∧ (sumW xs i : Int) ≤ n - xs.length) (fun i => xs.length - i) 0 ⟨by omega, by simp only [sumW]; omega⟩ ?_ ?_
  · refine Weak.of (by simp) rfl ?_
    simp [Abs.get, sumW, C.refsLtT, C.refsLt, C.refsLt1]
  · intro i hi hnext
    obtain ⟨hi1, hi2⟩ := hi
    refine run_sound Try.func52 mixed 100 _ _ (by kernel_rfl) ?_
    simp only [go_sem, seval]
    refine br_intro (fun h => ?_) (fun h => ?_)
    · simp only [decide_eq_true_eq] at h
      have hi : i < xs.length := by omega
      obtain ⟨x, hxi⟩ : ∃ x, xs[i]? = some x := ⟨_, List.getElem?_eq_getElem hi⟩
      have hsum := sumW_at hxi
      have hle := sumW_le xs (i + 1)
      obtain ⟨e1, e2⟩ := hx x (List.mem_of_getElem? hxi)
      simp only [go_sem, seval, Int.toNat_natCast, hxi, idx_of hxi, e1]
      repeat refine And.intro (by omega) ?_
      refine (e2 _ (by omega) (by omega)).calls rfl ?_
      simp only [go_sem, seval]
      refine br_intro (fun h => ?_) (fun h => ?_)
      · simp only [decide_eq_true_eq] at h
        have hg := szr_lt h
        simp only [go_sem, seval]
        rw [szr_neg (by omega)]
      · simp only [decide_eq_false_iff_not] at h
        have hg := szr_ge h
        rw [szr_pos hg]
        simp only [go_sem, seval]
        rw [wrap_ok (by omega) (by omega)]
        refine hnext (i + 1) _ ⟨by omega, by omega⟩ (by omega) ?_
        refine Weak.of (by simp) rfl ?_
        simp [Abs.get, C.refsLtT, C.refsLt, C.refsLt1]
        omega
    · simp only [decide_eq_false_iff_not] at h
      have : i = xs.length := by omega
      subst this
      simp only [go_sem, seval]
      rw [szr_pos (by omega)]
      all_goals (congr 2 <;> omega)

theorem sz11 (a0 : Int) (a1 : List UInt8) (a2 : List (List D)) (a3 : List (List D)) (h1 : a1.length ≤ maxLen) (h2 : ∀ n : Int, 0 ≤ n → n ≤ 1048576 → Gives Try.prog 51 [.sl a2, .int .i64 n] (.d (.int .i64 (szr n (wtR a2))))) (h3 : ∀ n : Int, 0 ≤ n → n ≤ 1048576 → Gives Try.prog 52 [.sl a3, .int .i64 n] (.d (.int .i64 (szr n (wtR a3)))))
    (n : Int) (g0 : 0 ≤ n) (g1 : n ≤ 1048576) : Gives Try.prog 11 [.agg [.int .i64 a0, .str a1, .sl a2, .sl a3], .int .i64 n] (.d (.int .i64 (szr n (wtL [.int .i64 a0, .str a1, .sl a2, .sl a3])))) := by
  have hw : wtL [.int .i64 a0, .str a1, .sl a2, .sl a3] = a1.length + wtR a2 + wtR a3 := by simp only [wtL, D.wt] <;> omega
  simp only [maxLen] at h1
  rw [hw]
  refine ACalls.enter (fn := Try.f11) Try.func11 rfl (by show 2 ≤ _; decide) ?_
  refine run_sound Try.func11 mixed 100 _ _ (by kernel_rfl) ?_
  simp only [go_sem, seval]
  rw [wrap_ok (by omega) (by omega)]
  refine br_intro (fun h => ?_) (fun h => ?_)
  · simp only [decide_eq_true_eq] at h
    simp only [go_sem, seval]
    rw [szr_neg (by omega)]
  simp only [decide_eq_false_iff_not, Int.not_lt] at h
  simp only [go_sem, seval]
  refine (h2 _ (by omega) (by omega)).calls rfl ?_
  simp only [go_sem, seval]
  refine br_intro (fun h => ?_) (fun h => ?_)
  · simp only [decide_eq_true_eq] at h
    have hg := szr_lt h
    simp only [go_sem, seval]
    rw [szr_neg (by omega)]
  simp only [decide_eq_false_iff_not] at h
  have hg := szr_ge h
  rw [szr_pos hg]
  clear h
  simp only [go_sem, seval]
  refine (h3 _ (by omega) (by omega)).calls rfl ?_
  simp only [go_sem, seval]
  refine br_intro (fun h => ?_) (fun h => ?_)
  · simp only [decide_eq_true_eq] at h
    have hg := szr_lt h
    simp only [go_sem, seval]
    rw [szr_neg (by omega)]
  simp only [decide_eq_false_iff_not] at h
  have hg := szr_ge h
  rw [szr_pos hg]
  clear h
  simp only [go_sem, seval]
  all_goals rw [szr_pos (by omega)]
  all_goals (congr 2 <;> omega)

theorem to56 (xs : List (List D)) (hl : xs.length ≤ 1048576) (hx : ∀ x, x ∈ xs → x.length = 4 ∧ Gives Try.prog 13 [.agg x] (.d (.agg x))) : Gives Try.prog 56 [.sl xs] (.d (.sl xs)) := by
  refine ACalls.enter (fn := Try.f56) Try.func56 rfl (by show 1 ≤ _; decide) ?_
  refine run_sound Try.func56 mixed 100 _ _ (by kernel_rfl) ?_
  simp only [go_sem, seval, Int.toNat_natCast]
  repeat refine And.intro (by first | omega | (simp only [maxLen]; omega)) ?_
  refine AW.loop_ind (fun i : Nat => ⟨[(4, .d (.int .i64 i)), (0, .d (.sl xs)), (3, .rsl 0 xs.length), (2, .nil0)], [.row 4 32 (xs.take i ++ List.replicate (xs.length - i) [.int .i64 0, .str [], .sl [], .sl []])]⟩) (fun i => i ≤ xs.length) (fun i => xs.length - i) 0 (by omega) ?_ ?_
  · refine Weak.of (by simp) rfl ?_
    simp [Abs.get, C.refsLtT, C.refsLt, C.refsLt1]
  · intro i hi hnext
    by_cases h : i < xs.length
    · obtain ⟨x, hxi⟩ : ∃ x, xs[i]? = some x := ⟨_, List.getElem?_eq_getElem h⟩
      obtain ⟨e1, e2⟩ := hx x (List.mem_of_getElem? hxi)
      have hlt : ((i : Int) < (xs.length : Int)) = True := by simp; omega
      refine run_sound Try.func56 mixed 100 _ _ (by kernel_rfl) ?_
      simp only [go_sem, seval, Int.toNat_natCast, hlt, hxi, idx_of hxi, e1]
      repeat refine And.intro (by omega) ?_
      refine e2.calls rfl ?_
      simp only [go_sem, seval, Int.toNat_natCast, hlt, hxi, idx_of hxi, e1]
      repeat refine And.intro (by first | omega | (simp; omega) | (simp_all; done)) ?_
      rw [wrap_ok (by omega) (by omega)]
      first | rw [row_step (k := 4) hxi (by rfl)] | rw [row_step1 hxi (by rfl)]
      refine hnext (i + 1) _ (by omega) (by omega) ?_
      refine Weak.of (by simp) rfl ?_
      simp [Abs.get, C.refsLtT, C.refsLt, C.refsLt1]
    · have hlt : ((i : Int) < (xs.length : Int)) = False := by simp; omega
      refine run_sound Try.func56 mixed 6 _ _ (by kernel_rfl) ?_
      simp only [go_sem, seval, Int.toNat_natCast, hlt]
      obtain rfl : i = xs.length := by omega
      rw [row_all]
      refine AW.freeze 3 0 rfl rfl rfl ?_
      refine run_sound Try.func56 mixed 100 _ _ (by kernel_rfl) ?_
      simp only [go_sem, seval]

theorem to13 (a0 : Int) (a1 : List UInt8) (a2 : List (List D)) (a3 : List (List D)) (h2 : Gives Try.prog 55 [.sl a2] (.d (.sl a2))) (h3 : Gives Try.prog 56 [.sl a3] (.d (.sl a3))) : Gives Try.prog 13 [.agg [.int .i64 a0, .str a1, .sl a2, .sl a3]] (.d (.agg [.int .i64 a0, .str a1, .sl a2, .sl a3])) := by
  refine ACalls.enter (fn := Try.f13) Try.func13 rfl (by show 1 ≤ _; decide) ?_
  refine run_sound Try.func13 mixed 100 _ _ (by kernel_rfl) ?_
  simp only [go_sem, seval]
  refine h2.calls rfl ?_
  simp only [go_sem, seval]
  refine h3.calls rfl ?_
  simp only [go_sem, seval]

theorem eq60 (xs : List (List D)) (hm : xs.length ≤ maxLen) (hx : ∀ x, x ∈ xs → x.length = 4 ∧ Gives Try.prog 16 [.agg x, .agg x] (.d (.bool true))) : Gives Try.prog 60 [.sl xs, .sl xs] (.d (.bool true)) := by
  have hm' : (xs.length : Int) ≤ 9223372036854775807 := by simp only [maxLen] at hm; omega
  refine ACalls.enter (fn := Try.f60) Try.func60 rfl (by show 2 ≤ _; decide) ?_
  refine run_sound Try.func60 mixed 100 _ _ (by kernel_rfl) ?_
  simp only [go_sem, seval, bne_self_eq_false]
  refine AW.loop_ind (fun i : Nat => ⟨[(5, .d (.int .i64 i)), (0, .d (.sl xs)), (1, .d (.sl xs)), (4, .d (.bool false))], []⟩) (fun i => i ≤ xs.length) (fun i => xs.length - i) 0 (by omega) ?_ ?_
  · refine Weak.of (by simp) rfl ?_
    simp [Abs.get, C.refsLtT, C.refsLt, C.refsLt1]
  · intro i hi hnext
    by_cases h : i < xs.length
    · obtain ⟨x, hxi⟩ : ∃ x, xs[i]? = some x := ⟨_, List.getElem?_eq_getElem h⟩
      obtain ⟨e1, e2⟩ := hx x (List.mem_of_getElem? hxi)
      have hlt : ((i : Int) < (xs.length : Int)) = True := by simp; omega
      have h00 : (0 ≤ (i : Int)) = True := by simp
      refine run_sound Try.func60 mixed 100 _ _ (by kernel_rfl) ?_
      simp only [go_sem, seval, Int.toNat_natCast, hlt, hxi, idx_of hxi, e1, h00, bne_self_eq_false]
      refine e2.callQ rfl ?_
      simp only [go_sem, seval]
      rw [wrap_ok (by omega) (by omega)]
      refine hnext (i + 1) _ (by omega) (by omega) ?_
      refine Weak.of (by simp) rfl ?_
      simp [Abs.get, C.refsLtT, C.refsLt, C.refsLt1]
    · have hlt : ((i : Int) < (xs.length : Int)) = False := by simp; omega
      refine run_sound Try.func60 mixed 100 _ _ (by kernel_rfl) ?_
      simp only [go_sem, seval, hlt]

theorem eq16 (a0 : Int) (a1 : List UInt8) (a2 : List (List D)) (a3 : List (List D)) (h2 : Gives Try.prog 59 [.sl a2, .sl a2] (.d (.bool true))) (h3 : Gives Try.prog 60 [.sl a3, .sl a3] (.d (.bool true))) : Gives Try.prog 16 [.agg [.int .i64 a0, .str a1, .sl a2, .sl a3], .agg [.int .i64 a0, .str a1, .sl a2, .sl a3]] (.d (.bool true)) := by
  refine ACalls.enter (fn := Try.f16) Try.func16 rfl (by show 2 ≤ _; decide) ?_
  refine run_sound Try.func16 mixed 100 _ _ (by kernel_rfl) ?_
  simp only [go_sem, seval, bne_self_eq_false]
  refine h2.calls rfl ?_
  simp only [go_sem, seval, bne_self_eq_false]
  refine h3.calls rfl ?_
  simp only [go_sem, seval, bne_self_eq_false]

theorem mk25 (a0 : Int) (a1 : List UInt8) (a2 : List (List D)) (a3 : List (List D)) (q0 : (Lit.int .i64 a0).wf = true) (q1 : a1.length ≤ maxLen) (q2 : a2.length ≤ maxLen ∧ ∀ x, x ∈ a2 → Sh Try.prog 118 x) (q3 : a3.length ≤ maxLen ∧ ∀ x, x ∈ a3 → Sh Try.prog 25 x) : Sh Try.prog 25 [.int .i64 a0, .str a1, .sl a2, .sl a3] := by
  refine ⟨_, lv25, rfl, fun i l c hl hc => ?_⟩
  match i with
  | 0 => simp at hl hc; subst hl hc; exact .int _ _ q0
  | 1 => simp at hl hc; subst hl hc; exact .str _ q1
  | 2 => simp at hl hc; subst hl hc; exact ShC.sl_of lv118 q2.1 q2.2
  | 3 => simp at hl hc; subst hl hc; exact ShC.sl_of lv25 q3.1 q3.2
  | i + 4 => simp at hl

theorem len25 {x : List D} (h : Sh Try.prog 25 x) : x.length = 4 := by
  obtain ⟨_, _, _, _, rfl, _⟩ := inv25 h
  rfl
theorem szc25 : ∀ (m : Nat) (x : List D), wtL x < m → Sh Try.prog 25 x → ∀ n : Int, 0 ≤ n → n ≤ 1048576 → Gives Try.prog 11 [.agg x, .int .i64 n] (.d (.int .i64 (szr n (wtL x))))
  | 0, _, hm, _ => by omega
  | m + 1, x, hm, h => by
    obtain ⟨a0, a1, a2, a3, rfl, q0, q1, q2, q3⟩ := inv25 h
    have hw : wtL [.int .i64 a0, .str a1, .sl a2, .sl a3] = a1.length + wtR a2 + wtR a3 := by simp only [wtL, D.wt] <;> omega
    exact fun n g0 g1 => sz11 a0 a1 a2 a3 q1 (fun n g0 g1 => szs22 a2 q2.1 q2.2 n g0 g1) (fun n g0 g1 => sz52 a3 q3.1 (fun x hx => ⟨len25 (q3.2 x hx), szc25 m x (by have := wtL_lt a3 x hx; omega) (q3.2 x hx)⟩) n g0 g1) n g0 g1
theorem toc25 : ∀ (m : Nat) (x : List D), wtL x < m → wtL x ≤ 1048576 → Sh Try.prog 25 x → Gives Try.prog 13 [.agg x] (.d (.agg x))
  | 0, _, hm, _, _ => by omega
  | m + 1, x, hm, hb, h => by
    obtain ⟨a0, a1, a2, a3, rfl, q0, q1, q2, q3⟩ := inv25 h
    have hw : wtL [.int .i64 a0, .str a1, .sl a2, .sl a3] = a1.length + wtR a2 + wtR a3 := by simp only [wtL, D.wt] <;> omega
    exact to13 a0 a1 a2 a3 (tos22 a2 (by omega) q2.2) (to56 a3 (by have := sumW_le a3 0; omega) (fun x hx => ⟨len25 (q3.2 x hx), toc25 m x (by have := wtL_lt a3 x hx; omega) (by have := wtL_lt a3 x hx; omega) (q3.2 x hx)⟩))
theorem eqc25 : ∀ (m : Nat) (x : List D), wtL x < m → Sh Try.prog 25 x → Gives Try.prog 16 [.agg x, .agg x] (.d (.bool true))
  | 0, _, hm, _ => by omega
  | m + 1, x, hm, h => by
    obtain ⟨a0, a1, a2, a3, rfl, q0, q1, q2, q3⟩ := inv25 h
    have hw : wtL [.int .i64 a0, .str a1, .sl a2, .sl a3] = a1.length + wtR a2 + wtR a3 := by simp only [wtL, D.wt] <;> omega
    exact eq16 a0 a1 a2 a3 (eqs22 a2 q2.1 q2.2) (eq60 a3 q3.1 (fun x hx => ⟨len25 (q3.2 x hx), eqc25 m x (by have := wtL_lt a3 x hx; omega) (q3.2 x hx)⟩))

theorem sh_Gl (x : List D) (h : Sh Try.prog 25 x) : ∃ t, x = Gl.enc t := Gl.of_sh lv25 sh_Tm x h
theorem sl_23 {x : D} (h : Sh Try.prog 23 [x]) : ∃ l : List Gl, x = .sl (l.map Gl.enc) := shL (by kernel_rfl) sh_Gl h

theorem szs23 (xs : List (List D)) (hm : xs.length ≤ maxLen) (h : ∀ x, x ∈ xs → Sh Try.prog 25 x) (n : Int) (g0 : 0 ≤ n) (g1 : n ≤ 1048576) : Gives Try.prog 52 [.sl xs, .int .i64 n] (.d (.int .i64 (szr n (wtR xs)))) :=
  sz52 xs hm (fun x hx => ⟨len25 (h x hx), szc25 _ x (Nat.lt_succ_self _) (h x hx)⟩) n g0 g1
theorem tos23 (xs : List (List D)) (hb : wtR xs ≤ 1048576) (h : ∀ x, x ∈ xs → Sh Try.prog 25 x) : Gives Try.prog 56 [.sl xs] (.d (.sl xs)) :=
  to56 xs (by have := sumW_le xs 0; omega) (fun x hx => ⟨len25 (h x hx), toc25 _ x (Nat.lt_succ_self _) (by have := wtL_lt xs x hx; omega) (h x hx)⟩)
theorem eqs23 (xs : List (List D)) (hm : xs.length ≤ maxLen) (h : ∀ x, x ∈ xs → Sh Try.prog 25 x) : Gives Try.prog 60 [.sl xs, .sl xs] (.d (.bool true)) :=
  eq60 xs hm (fun x hx => ⟨len25 (h x hx), eqc25 _ x (Nat.lt_succ_self _) (h x hx)⟩)

theorem lv137 : leaves Try.prog 6 137 = some [.str, .int .i64, .int .i64, .int .i64, .str, .sl 118, .sl 25] := by kernel_rfl
theorem inv137 {x : List D} (h : Sh Try.prog 137 x) : ∃ a0 a1 a2 a3 a4 a5 a6, x = [.str a0, .int .i64 a1, .int .i64 a2, .int .i64 a3, .str a4, .sl a5, .sl a6] ∧ a0.length ≤ maxLen ∧ (Lit.int .i64 a1).wf = true ∧ (Lit.int .i64 a2).wf = true ∧ (Lit.int .i64 a3).wf = true ∧ a4.length ≤ maxLen ∧ (a5.length ≤ maxLen ∧ ∀ x, x ∈ a5 → Sh Try.prog 118 x) ∧ (a6.length ≤ maxLen ∧ ∀ x, x ∈ a6 → Sh Try.prog 25 x) := by
  obtain ⟨ls, h1, h2, h3⟩ := h
  rw [lv137] at h1
  cases h1
  match x, h2, h3 with
  | [c0, c1, c2, c3, c4, c5, c6], _, h3 =>
    have g0 := h3 0 _ _ rfl rfl
    have g1 := h3 1 _ _ rfl rfl
    have g2 := h3 2 _ _ rfl rfl
    have g3 := h3 3 _ _ rfl rfl
    have g4 := h3 4 _ _ rfl rfl
    have g5 := h3 5 _ _ rfl rfl
    have g6 := h3 6 _ _ rfl rfl
    obtain ⟨b0, rfl, q0⟩ := g0.str_inv
    obtain ⟨b1, rfl, q1⟩ := g1.int_inv
    obtain ⟨b2, rfl, q2⟩ := g2.int_inv
    obtain ⟨b3, rfl, q3⟩ := g3.int_inv
    obtain ⟨b4, rfl, q4⟩ := g4.str_inv
    obtain ⟨b5, rfl, q5⟩ := g5.elems
    obtain ⟨b6, rfl, q6⟩ := g6.elems
    exact ⟨_, _, _, _, _, _, _, rfl, q0, q1, q2, q3, q4, q5, q6⟩

theorem sz80 (xs : List (List D)) (hm : xs.length ≤ maxLen) (hx : ∀ x, x ∈ xs → x.length = 7 ∧ ∀ n : Int, 0 ≤ n → n ≤ 1048576 → Gives Try.prog 106 [.agg x, .int .i64 n] (.d (.int .i64 (szr n (wtL x)))))
    (n : Int) (h0 : 0 ≤ n) (h1 : n ≤ 1048576) : Gives Try.prog 80 [.sl xs, .int .i64 n] (.d (.int .i64 (szr n (wtR xs)))) := by
  have hm' : (xs.length : Int) ≤ 9223372036854775807 := by simp only [maxLen] at hm; omega
  have hs := sumW_all xs
  have hs0 := sumW_le xs 0
  simp only [sumW] at hs0
  refine ACalls.enter (fn := Try.f80) Try.func80 rfl (by show 2 ≤ _; decide) ?_
  refine run_sound Try.func80 mixed 100 _ _ (by kernel_rfl) ?_
  simp only [go_sem, seval]
  rw [wrap_ok (by omega) (by omega)]
  refine br_intro (fun h => ?_) (fun h => ?_)
  · simp only [decide_eq_true_eq] at h
    simp only [go_sem, seval]
    rw [szr_neg (by omega)]
  simp only [decide_eq_false_iff_not, Int.not_lt] at h
  simp only [go_sem, seval]
  refine AW.loop_ind (fun i : Nat => ⟨[(5, .d (.int .i64 i)), (0, .d (.sl xs)), (1, .d (.int .i64 (n - xs.length - sumW xs i))), (4, .d (.int .i64 0))], []⟩) (fun i => i ≤ xs.length ∧ (sumW xs i : Int) ≤ n - xs.length) (fun i => xs.length - i) 0 ⟨by omega, by simp only [sumW]; omega⟩ ?_ ?_
  · refine Weak.of (by simp) rfl ?_
    simp [Abs.get, sumW, C.refsLtT, C.refsLt, C.refsLt1]
  · intro i hi hnext
    obtain ⟨hi1, hi2⟩ := hi
    refine run_sound Try.func80 mixed 100 _ _ (by kernel_rfl) ?_
    simp only [go_sem, seval]
    refine br_intro (fun h => ?_) (fun h => ?_)
    · simp only [decide_eq_true_eq] at h
      have hi : i < xs.length := by omega
      obtain ⟨x, hxi⟩ : ∃ x, xs[i]? = some x := ⟨_, List.getElem?_eq_getElem hi⟩
      have hsum := sumW_at hxi
      have hle := sumW_le xs (i + 1)
      obtain ⟨e1, e2⟩ := hx x (List.mem_of_getElem? hxi)
      simp only [go_sem, seval, Int.toNat_natCast, hxi, idx_of hxi, e1]
      repeat refine And.intro (by omega) ?_
      refine (e2 _ (by omega) (by omega)).calls rfl ?_
      simp only [go_sem, seval]
      refine br_intro (fun h => ?_) (fun h => ?_)
      · simp only [decide_eq_true_eq] at h
        have hg := szr_lt h
        simp only [go_sem, seval]
        rw [szr_neg (by omega)]
      · simp only [decide_eq_false_iff_not] at h
        have hg := szr_ge h
        rw [szr_pos hg]
        simp only [go_sem, seval]
        rw [wrap_ok (by omega) (by omega)]
        refine hnext (i + 1) _ ⟨by omega, by omega⟩ (by omega) ?_
        refine Weak.of (by simp) rfl ?_
        simp [Abs.get, C.refsLtT, C.refsLt, C.refsLt1]
        omega
    · simp only [decide_eq_false_iff_not] at h
      have : i = xs.length := by omega
      subst this
      simp only [go_sem, seval]
      rw [szr_pos (by omega)]
      all_goals (congr 2 <;> omega)

theorem sz106 (a0 : List UInt8) (a1 : Int) (a2 : Int) (a3 : Int) (a4 : List UInt8) (a5 : List (List D)) (a6 : List (List D)) (h0 : a0.length ≤ maxLen) (h3 : ∀ n : Int, 0 ≤ n → n ≤ 1048576 → Gives Try.prog 11 [.agg [.int .i64 a3, .str a4, .sl a5, .sl a6], .int .i64 n] (.d (.int .i64 (szr n (wtL [.int .i64 a3, .str a4, .sl a5, .sl a6])))))
    (n : Int) (g0 : 0 ≤ n) (g1 : n ≤ 1048576) : Gives Try.prog 106 [.agg [.str a0, .int .i64 a1, .int .i64 a2, .int .i64 a3, .str a4, .sl a5, .sl a6], .int .i64 n] (.d (.int .i64 (szr n (wtL [.str a0, .int .i64 a1, .int .i64 a2, .int .i64 a3, .str a4, .sl a5, .sl a6])))) := by
  have hw : wtL [.str a0, .int .i64 a1, .int .i64 a2, .int .i64 a3, .str a4, .sl a5, .sl a6] = a0.length + wtL [.int .i64 a3, .str a4, .sl a5, .sl a6] := by simp only [wtL, D.wt] <;> omega
  simp only [maxLen] at h0
  rw [hw]
  refine ACalls.enter (fn := Try.f106) Try.func106 rfl (by show 2 ≤ _; decide) ?_
  refine run_sound Try.func106 mixed 100 _ _ (by kernel_rfl) ?_
  simp only [go_sem, seval]
  rw [wrap_ok (by omega) (by omega)]
  refine br_intro (fun h => ?_) (fun h => ?_)
  · simp only [decide_eq_true_eq] at h
    simp only [go_sem, seval]
    rw [szr_neg (by omega)]
  simp only [decide_eq_false_iff_not, Int.not_lt] at h
  simp only [go_sem, seval]
  refine (h3 _ (by omega) (by omega)).calls rfl ?_
  simp only [go_sem, seval]
  refine br_intro (fun h => ?_) (fun h => ?_)
  · simp only [decide_eq_true_eq] at h
    have hg := szr_lt h
    simp only [go_sem, seval]
    rw [szr_neg (by omega)]
  simp only [decide_eq_false_iff_not] at h
  have hg := szr_ge h
  rw [szr_pos hg]
  clear h
  simp only [go_sem, seval]
  all_goals rw [szr_pos (by omega)]
  all_goals (congr 2 <;> omega)

theorem to84 (xs : List (List D)) (hl : xs.length ≤ 1048576) (hx : ∀ x, x ∈ xs → x.length = 7 ∧ Gives Try.prog 110 [.agg x] (.d (.agg x))) : Gives Try.prog 84 [.sl xs] (.d (.sl xs)) := by
  refine ACalls.enter (fn := Try.f84) Try.func84 rfl (by show 1 ≤ _; decide) ?_
  refine run_sound Try.func84 mixed 100 _ _ (by kernel_rfl) ?_
  simp only [go_sem, seval, Int.toNat_natCast]
  repeat refine And.intro (by first | omega | (simp only [maxLen]; omega)) ?_
  refine AW.loop_ind (fun i : Nat => ⟨[(4, .d (.int .i64 i)), (0, .d (.sl xs)), (3, .rsl 0 xs.length), (2, .nil0)], [.row 7 109 (xs.take i ++ List.replicate (xs.length - i) [.str [], .int .i64 0, .int .i64 0, .int .i64 0, .str [], .sl [], .sl []])]⟩) (fun i => i ≤ xs.length) (fun i => xs.length - i) 0 (by omega) ?_ ?_
  · refine Weak.of (by simp) rfl ?_
    simp [Abs.get, C.refsLtT, C.refsLt, C.refsLt1]
  · intro i hi hnext
    by_cases h : i < xs.length
    · obtain ⟨x, hxi⟩ : ∃ x, xs[i]? = some x := ⟨_, List.getElem?_eq_getElem h⟩
      obtain ⟨e1, e2⟩ := hx x (List.mem_of_getElem? hxi)
      have hlt : ((i : Int) < (xs.length : Int)) = True := by simp; omega
      refine run_sound Try.func84 mixed 100 _ _ (by kernel_rfl) ?_
      simp only [go_sem, seval, Int.toNat_natCast, hlt, hxi, idx_of hxi, e1]
      repeat refine And.intro (by omega) ?_
      refine e2.calls rfl ?_
      simp only [go_sem, seval, Int.toNat_natCast, hlt, hxi, idx_of hxi, e1]
      repeat refine And.intro (by first | omega | (simp; omega) | (simp_all; done)) ?_
      rw [wrap_ok (by omega) (by omega)]
      first | rw [row_step (k := 7) hxi (by rfl)] | rw [row_step1 hxi (by rfl)]
      refine hnext (i + 1) _ (by omega) (by omega) ?_
      refine Weak.of (by simp) rfl ?_
      simp [Abs.get, C.refsLtT, C.refsLt, C.refsLt1]
    · have hlt : ((i : Int) < (xs.length : Int)) = False := by simp; omega
      refine run_sound Try.func84 mixed 6 _ _ (by kernel_rfl) ?_
      simp only [go_sem, seval, Int.toNat_natCast, hlt]
      obtain rfl : i = xs.length := by omega
      rw [row_all]
      refine AW.freeze 3 0 rfl rfl rfl ?_
      refine run_sound Try.func84 mixed 100 _ _ (by kernel_rfl) ?_
      simp only [go_sem, seval]

theorem to110 (a0 : List UInt8) (a1 : Int) (a2 : Int) (a3 : Int) (a4 : List UInt8) (a5 : List (List D)) (a6 : List (List D)) (h3 : Gives Try.prog 13 [.agg [.int .i64 a3, .str a4, .sl a5, .sl a6]] (.d (.agg [.int .i64 a3, .str a4, .sl a5, .sl a6]))) : Gives Try.prog 110 [.agg [.str a0, .int .i64 a1, .int .i64 a2, .int .i64 a3, .str a4, .sl a5, .sl a6]] (.d (.agg [.str a0, .int .i64 a1, .int .i64 a2, .int .i64 a3, .str a4, .sl a5, .sl a6])) := by
  refine ACalls.enter (fn := Try.f110) Try.func110 rfl (by show 1 ≤ _; decide) ?_
  refine run_sound Try.func110 mixed 100 _ _ (by kernel_rfl) ?_
  simp only [go_sem, seval]
  refine h3.calls rfl ?_
  simp only [go_sem, seval]

theorem eq87 (xs : List (List D)) (hm : xs.length ≤ maxLen) (hx : ∀ x, x ∈ xs → x.length = 7 ∧ Gives Try.prog 114 [.agg x, .agg x] (.d (.bool true))) : Gives Try.prog 87 [.sl xs, .sl xs] (.d (.bool true)) := by
  have hm' : (xs.length : Int) ≤ 9223372036854775807 := by simp only [maxLen] at hm; omega
  refine ACalls.enter (fn := Try.f87) Try.func87 rfl (by show 2 ≤ _; decide) ?_
  refine run_sound Try.func87 mixed 100 _ _ (by kernel_rfl) ?_
  simp only [go_sem, seval, bne_self_eq_false]
  refine AW.loop_ind (fun i : Nat => ⟨[(5, .d (.int .i64 i)), (0, .d (.sl xs)), (1, .d (.sl xs)), (4, .d (.bool false))], []⟩) (fun i => i ≤ xs.length) (fun i => xs.length - i) 0 (by omega) ?_ ?_
  · refine Weak.of (by simp) rfl ?_
    simp [Abs.get, C.refsLtT, C.refsLt, C.refsLt1]
  · intro i hi hnext
    by_cases h : i < xs.length
    · obtain ⟨x, hxi⟩ : ∃ x, xs[i]? = some x := ⟨_, List.getElem?_eq_getElem h⟩
      obtain ⟨e1, e2⟩ := hx x (List.mem_of_getElem? hxi)
      have hlt : ((i : Int) < (xs.length : Int)) = True := by simp; omega
      have h00 : (0 ≤ (i : Int)) = True := by simp
      refine run_sound Try.func87 mixed 100 _ _ (by kernel_rfl) ?_
      simp only [go_sem, seval, Int.toNat_natCast, hlt, hxi, idx_of hxi, e1, h00, bne_self_eq_false]
      refine e2.callQ rfl ?_
      simp only [go_sem, seval]
      rw [wrap_ok (by omega) (by omega)]
      refine hnext (i + 1) _ (by omega) (by omega) ?_
      refine Weak.of (by simp) rfl ?_
      simp [Abs.get, C.refsLtT, C.refsLt, C.refsLt1]
    · have hlt : ((i : Int) < (xs.length : Int)) = False := by simp; omega
      refine run_sound Try.func87 mixed 100 _ _ (by kernel_rfl) ?_
      simp only [go_sem, seval, hlt]

theorem eq114 (a0 : List UInt8) (a1 : Int) (a2 : Int) (a3 : Int) (a4 : List UInt8) (a5 : List (List D)) (a6 : List (List D)) (h3 : Gives Try.prog 16 [.agg [.int .i64 a3, .str a4, .sl a5, .sl a6], .agg [.int .i64 a3, .str a4, .sl a5, .sl a6]] (.d (.bool true))) : Gives Try.prog 114 [.agg [.str a0, .int .i64 a1, .int .i64 a2, .int .i64 a3, .str a4, .sl a5, .sl a6], .agg [.str a0, .int .i64 a1, .int .i64 a2, .int .i64 a3, .str a4, .sl a5, .sl a6]] (.d (.bool true)) := by
  refine ACalls.enter (fn := Try.f114) Try.func114 rfl (by show 2 ≤ _; decide) ?_
  refine run_sound Try.func114 mixed 100 _ _ (by kernel_rfl) ?_
  simp only [go_sem, seval, bne_self_eq_false]
  refine h3.calls rfl ?_
  simp only [go_sem, seval, bne_self_eq_false]

theorem mk137 (a0 : List UInt8) (a1 : Int) (a2 : Int) (a3 : Int) (a4 : List UInt8) (a5 : List (List D)) (a6 : List (List D)) (q0 : a0.length ≤ maxLen) (q1 : (Lit.int .i64 a1).wf = true) (q2 : (Lit.int .i64 a2).wf = true) (q3 : (Lit.int .i64 a3).wf = true) (q4 : a4.length ≤ maxLen) (q5 : a5.length ≤ maxLen ∧ ∀ x, x ∈ a5 → Sh Try.prog 118 x) (q6 : a6.length ≤ maxLen ∧ ∀ x, x ∈ a6 → Sh Try.prog 25 x) : Sh Try.prog 137 [.str a0, .int .i64 a1, .int .i64 a2, .int .i64 a3, .str a4, .sl a5, .sl a6] := by
  refine ⟨_, lv137, rfl, fun i l c hl hc => ?_⟩
  match i with
  | 0 => simp at hl hc; subst hl hc; exact .str _ q0
  | 1 => simp at hl hc; subst hl hc; exact .int _ _ q1
  | 2 => simp at hl hc; subst hl hc; exact .int _ _ q2
  | 3 => simp at hl hc; subst hl hc; exact .int _ _ q3
  | 4 => simp at hl hc; subst hl hc; exact .str _ q4
  | 5 => simp at hl hc; subst hl hc; exact ShC.sl_of lv118 q5.1 q5.2
  | 6 => simp at hl hc; subst hl hc; exact ShC.sl_of lv25 q6.1 q6.2
  | i + 7 => simp at hl

theorem len137 {x : List D} (h : Sh Try.prog 137 x) : x.length = 7 := by
  obtain ⟨_, _, _, _, _, _, _, rfl, _⟩ := inv137 h
  rfl
theorem szc137 : ∀ (m : Nat) (x : List D), wtL x < m → Sh Try.prog 137 x → ∀ n : Int, 0 ≤ n → n ≤ 1048576 → Gives Try.prog 106 [.agg x, .int .i64 n] (.d (.int .i64 (szr n (wtL x))))
  | 0, _, hm, _ => by omega
  | m + 1, x, hm, h => by
    obtain ⟨a0, a1, a2, a3, a4, a5, a6, rfl, q0, q1, q2, q3, q4, q5, q6⟩ := inv137 h
    have hw : wtL [.str a0, .int .i64 a1, .int .i64 a2, .int .i64 a3, .str a4, .sl a5, .sl a6] = a0.length + wtL [.int .i64 a3, .str a4, .sl a5, .sl a6] := by simp only [wtL, D.wt] <;> omega
    exact fun n g0 g1 => sz106 a0 a1 a2 a3 a4 a5 a6 q0 (fun n g0 g1 => szc25 _ [.int .i64 a3, .str a4, .sl a5, .sl a6] (Nat.lt_succ_self _) (mk25 a3 a4 a5 a6 q3 q4 q5 q6) n g0 g1) n g0 g1
theorem toc137 : ∀ (m : Nat) (x : List D), wtL x < m → wtL x ≤ 1048576 → Sh Try.prog 137 x → Gives Try.prog 110 [.agg x] (.d (.agg x))
  | 0, _, hm, _, _ => by omega
  | m + 1, x, hm, hb, h => by
    obtain ⟨a0, a1, a2, a3, a4, a5, a6, rfl, q0, q1, q2, q3, q4, q5, q6⟩ := inv137 h
    have hw : wtL [.str a0, .int .i64 a1, .int .i64 a2, .int .i64 a3, .str a4, .sl a5, .sl a6] = a0.length + wtL [.int .i64 a3, .str a4, .sl a5, .sl a6] := by simp only [wtL, D.wt] <;> omega
    exact to110 a0 a1 a2 a3 a4 a5 a6 (toc25 _ [.int .i64 a3, .str a4, .sl a5, .sl a6] (Nat.lt_succ_self _) (by omega) (mk25 a3 a4 a5 a6 q3 q4 q5 q6))
theorem eqc137 : ∀ (m : Nat) (x : List D), wtL x < m → Sh Try.prog 137 x → Gives Try.prog 114 [.agg x, .agg x] (.d (.bool true))
  | 0, _, hm, _ => by omega
  | m + 1, x, hm, h => by
    obtain ⟨a0, a1, a2, a3, a4, a5, a6, rfl, q0, q1, q2, q3, q4, q5, q6⟩ := inv137 h
    have hw : wtL [.str a0, .int .i64 a1, .int .i64 a2, .int .i64 a3, .str a4, .sl a5, .sl a6] = a0.length + wtL [.int .i64 a3, .str a4, .sl a5, .sl a6] := by simp only [wtL, D.wt] <;> omega
    exact eq114 a0 a1 a2 a3 a4 a5 a6 (eqc25 _ [.int .i64 a3, .str a4, .sl a5, .sl a6] (Nat.lt_succ_self _) (mk25 a3 a4 a5 a6 q3 q4 q5 q6))

theorem sh_Rl (x : List D) (h : Sh Try.prog 137 x) : ∃ t, x = Rl.enc t := Rl.of_sh lv137 sh_Tm sh_Gl x h
theorem sl_61 {x : D} (h : Sh Try.prog 61 [x]) : ∃ l : List Rl, x = .sl (l.map Rl.enc) := shL (by kernel_rfl) sh_Rl h

theorem szs61 (xs : List (List D)) (hm : xs.length ≤ maxLen) (h : ∀ x, x ∈ xs → Sh Try.prog 137 x) (n : Int) (g0 : 0 ≤ n) (g1 : n ≤ 1048576) : Gives Try.prog 80 [.sl xs, .int .i64 n] (.d (.int .i64 (szr n (wtR xs)))) :=
  sz80 xs hm (fun x hx => ⟨len137 (h x hx), szc137 _ x (Nat.lt_succ_self _) (h x hx)⟩) n g0 g1
theorem tos61 (xs : List (List D)) (hb : wtR xs ≤ 1048576) (h : ∀ x, x ∈ xs → Sh Try.prog 137 x) : Gives Try.prog 84 [.sl xs] (.d (.sl xs)) :=
  to84 xs (by have := sumW_le xs 0; omega) (fun x hx => ⟨len137 (h x hx), toc137 _ x (Nat.lt_succ_self _) (by have := wtL_lt xs x hx; omega) (h x hx)⟩)
theorem eqs61 (xs : List (List D)) (hm : xs.length ≤ maxLen) (h : ∀ x, x ∈ xs → Sh Try.prog 137 x) : Gives Try.prog 87 [.sl xs, .sl xs] (.d (.bool true)) :=
  eq87 xs hm (fun x hx => ⟨len137 (h x hx), eqc137 _ x (Nat.lt_succ_self _) (h x hx)⟩)

theorem lv63 : leaves Try.prog 6 63 = some [.sl 137] := by kernel_rfl
theorem inv63 {x : List D} (h : Sh Try.prog 63 x) : ∃ a0, x = [.sl a0] ∧ (a0.length ≤ maxLen ∧ ∀ x, x ∈ a0 → Sh Try.prog 137 x) := by
  obtain ⟨ls, h1, h2, h3⟩ := h
  rw [lv63] at h1
  cases h1
  match x, h2, h3 with
  | [c0], _, h3 =>
    have g0 := h3 0 _ _ rfl rfl
    obtain ⟨b0, rfl, q0⟩ := g0.elems
    exact ⟨_, rfl, q0⟩

theorem sz40 (a0 : List (List D)) (h0 : ∀ n : Int, 0 ≤ n → n ≤ 1048576 → Gives Try.prog 80 [.sl a0, .int .i64 n] (.d (.int .i64 (szr n (wtR a0)))))
    (n : Int) (g0 : 0 ≤ n) (g1 : n ≤ 1048576) : Gives Try.prog 40 [.agg [.sl a0], .int .i64 n] (.d (.int .i64 (szr n (wtL [.sl a0])))) := by
  have hw : wtL [.sl a0] = wtR a0 := by simp only [wtL, D.wt] <;> omega
  rw [hw]
  refine ACalls.enter (fn := Try.f40) Try.func40 rfl (by show 2 ≤ _; decide) ?_
  refine run_sound Try.func40 mixed 100 _ _ (by kernel_rfl) ?_
  simp only [go_sem, seval]
  refine (h0 _ (by omega) (by omega)).calls rfl ?_
  simp only [go_sem, seval]
  refine br_intro (fun h => ?_) (fun h => ?_)
  · simp only [decide_eq_true_eq] at h
    have hg := szr_lt h
    simp only [go_sem, seval]
    rw [szr_neg (by omega)]
  simp only [decide_eq_false_iff_not] at h
  have hg := szr_ge h
  rw [szr_pos hg]
  clear h
  simp only [go_sem, seval]
  all_goals rw [szr_pos (by omega)]
  all_goals (congr 2 <;> omega)

theorem to42 (a0 : List (List D)) (h0 : Gives Try.prog 84 [.sl a0] (.d (.sl a0))) : Gives Try.prog 42 [.agg [.sl a0]] (.d (.agg [.sl a0])) := by
  refine ACalls.enter (fn := Try.f42) Try.func42 rfl (by show 1 ≤ _; decide) ?_
  refine run_sound Try.func42 mixed 100 _ _ (by kernel_rfl) ?_
  simp only [go_sem, seval]
  refine h0.calls rfl ?_
  simp only [go_sem, seval]

theorem eq44 (a0 : List (List D)) (h0 : Gives Try.prog 87 [.sl a0, .sl a0] (.d (.bool true))) : Gives Try.prog 44 [.agg [.sl a0], .agg [.sl a0]] (.d (.bool true)) := by
  refine ACalls.enter (fn := Try.f44) Try.func44 rfl (by show 2 ≤ _; decide) ?_
  refine run_sound Try.func44 mixed 100 _ _ (by kernel_rfl) ?_
  simp only [go_sem, seval, bne_self_eq_false]
  refine h0.calls rfl ?_
  simp only [go_sem, seval, bne_self_eq_false]

theorem mk63 (a0 : List (List D)) (q0 : a0.length ≤ maxLen ∧ ∀ x, x ∈ a0 → Sh Try.prog 137 x) : Sh Try.prog 63 [.sl a0] := by
  refine ⟨_, lv63, rfl, fun i l c hl hc => ?_⟩
  match i with
  | 0 => simp at hl hc; subst hl hc; exact ShC.sl_of lv137 q0.1 q0.2
  | i + 1 => simp at hl

theorem len63 {x : List D} (h : Sh Try.prog 63 x) : x.length = 1 := by
  obtain ⟨_, rfl, _⟩ := inv63 h
  rfl
theorem szc63 : ∀ (m : Nat) (x : List D), wtL x < m → Sh Try.prog 63 x → ∀ n : Int, 0 ≤ n → n ≤ 1048576 → Gives Try.prog 40 [.agg x, .int .i64 n] (.d (.int .i64 (szr n (wtL x))))
  | 0, _, hm, _ => by omega
  | m + 1, x, hm, h => by
    obtain ⟨a0, rfl, q0⟩ := inv63 h
    have hw : wtL [.sl a0] = wtR a0 := by simp only [wtL, D.wt] <;> omega
    exact fun n g0 g1 => sz40 a0 (fun n g0 g1 => szs61 a0 q0.1 q0.2 n g0 g1) n g0 g1
theorem toc63 : ∀ (m : Nat) (x : List D), wtL x < m → wtL x ≤ 1048576 → Sh Try.prog 63 x → Gives Try.prog 42 [.agg x] (.d (.agg x))
  | 0, _, hm, _, _ => by omega
  | m + 1, x, hm, hb, h => by
    obtain ⟨a0, rfl, q0⟩ := inv63 h
    have hw : wtL [.sl a0] = wtR a0 := by simp only [wtL, D.wt] <;> omega
    exact to42 a0 (tos61 a0 (by omega) q0.2)
theorem eqc63 : ∀ (m : Nat) (x : List D), wtL x < m → Sh Try.prog 63 x → Gives Try.prog 44 [.agg x, .agg x] (.d (.bool true))
  | 0, _, hm, _ => by omega
  | m + 1, x, hm, h => by
    obtain ⟨a0, rfl, q0⟩ := inv63 h
    have hw : wtL [.sl a0] = wtR a0 := by simp only [wtL, D.wt] <;> omega
    exact eq44 a0 (eqs61 a0 q0.1 q0.2)

theorem sh_Pg (x : List D) (h : Sh Try.prog 63 x) : ∃ t, x = Pg.enc t := Pg.of_sh lv63 sh_Rl x h

theorem eq30 (xs : List (List D)) (hm : xs.length ≤ maxLen) (hx : ∀ x, x ∈ xs → ∃ y : Int, x = [.int .i64 y]) : Gives Try.prog 30 [.sl xs, .sl xs] (.d (.bool true)) := by
  have hm' : (xs.length : Int) ≤ 9223372036854775807 := by simp only [maxLen] at hm; omega
  refine ACalls.enter (fn := Try.f30) Try.func30 rfl (by show 2 ≤ _; decide) ?_
  refine run_sound Try.func30 mixed 100 _ _ (by kernel_rfl) ?_
  simp only [go_sem, seval, bne_self_eq_false]
  refine AW.loop_ind (fun i : Nat => ⟨[(5, .d (.int .i64 i)), (0, .d (.sl xs)), (1, .d (.sl xs)), (4, .d (.bool false))], []⟩) (fun i => i ≤ xs.length) (fun i => xs.length - i) 0 (by omega) ?_ ?_
  · refine Weak.of (by simp) rfl ?_
    simp [Abs.get, C.refsLtT, C.refsLt, C.refsLt1]
  · intro i hi hnext
    by_cases h : i < xs.length
    · obtain ⟨x, hxi⟩ : ∃ x, xs[i]? = some x := ⟨_, List.getElem?_eq_getElem h⟩
      obtain ⟨y, e1⟩ := hx x (List.mem_of_getElem? hxi)
      subst e1
      have hlt : ((i : Int) < (xs.length : Int)) = True := by simp; omega
      have h00 : (0 ≤ (i : Int)) = True := by simp
      refine run_sound Try.func30 mixed 100 _ _ (by kernel_rfl) ?_
      simp only [go_sem, seval, Int.toNat_natCast, hlt, hxi, idx_of hxi, h00, bne_self_eq_false]
      rw [wrap_ok (by omega) (by omega)]
      refine hnext (i + 1) _ (by omega) (by omega) ?_
      refine Weak.of (by simp) rfl ?_
      simp [Abs.get, C.refsLtT, C.refsLt, C.refsLt1]
    · have hlt : ((i : Int) < (xs.length : Int)) = False := by simp; omega
      refine run_sound Try.func30 mixed 100 _ _ (by kernel_rfl) ?_
      simp only [go_sem, seval, hlt]

theorem lv3 : leaves Try.prog 6 3 = some [.int .i64] := by kernel_rfl

end Go.Proofs.Ytljdpohdfnileaa