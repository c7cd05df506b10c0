/- The law FnExactClauseGoal: both texts answer alike on every input. -/
import Derived.Test.YtljdpohdfnileaaW28
import Derived.Test.YtljdpohdfnileaaW29
import Derived.Test.YtljdpohdfnileaaFam
namespace Go.Proofs.Ytljdpohdfnileaa
open Go.Abs
set_option maxRecDepth 100000
set_option maxHeartbeats 4000000
set_option linter.unusedSimpArgs false
set_option linter.unusedVariables false

theorem eqTm_fn : ∀ t : Tm, wtL t.enc ≤ 1048576 → Gives Try.prog 96 [.agg t.enc, .agg t.enc] (.d (.bool true)) := by
  intro t
  induction t using Tm.ind' with
  | h t ih =>
    intro hw
    have hmx : maxLen = 9223372036854775807 := rfl
    have hl : t.args.length ≤ 1048576 := by
      have h1 : wtR (t.args.map Tm.enc) ≤ 1048576 := by simp only [Tm.enc_eq t, wtL, D.wt] at hw; omega
      have := sumW_le (t.args.map Tm.enc) 0; simp [sumW] at this; omega
    rw [Tm.enc_eq t]
    refine eq96 _ _ _ _ (eq59 _ (by rw [List.length_map]; omega) (fun x hx => ?_))
    obtain ⟨y, hy, rfl⟩ := List.mem_map.1 hx
    exact ⟨Tm.enc_len y, ih y hy (by have := wt_args hy; omega)⟩
theorem eqGl_fn : ∀ t : Gl, wtL t.enc ≤ 1048576 → Gives Try.prog 16 [.agg t.enc, .agg t.enc] (.d (.bool true)) := by
  intro t
  induction t using Gl.ind' with
  | h t ih =>
    intro hw
    have hmx : maxLen = 9223372036854775807 := rfl
    have hl1 : t.terms.length ≤ 1048576 := by
      have h1 : wtR (t.terms.map Tm.enc) ≤ 1048576 := by simp only [Gl.enc_eq t, wtL, D.wt] at hw; omega
      have := sumW_le (t.terms.map Tm.enc) 0; simp [sumW] at this; omega
    have hl2 : t.goals.length ≤ 1048576 := by
      have h1 : wtR (t.goals.map Gl.enc) ≤ 1048576 := by simp only [Gl.enc_eq t, wtL, D.wt] at hw; omega
      have := sumW_le (t.goals.map Gl.enc) 0; simp [sumW] at this; omega
    rw [Gl.enc_eq t]
    refine eq16 _ _ _ _ (eq59 _ (by rw [List.length_map]; omega) (fun x hx => ?_)) (eq60 _ (by rw [List.length_map]; omega) (fun x hx => ?_))
    · obtain ⟨y, hy, rfl⟩ := List.mem_map.1 hx
      exact ⟨Tm.enc_len y, eqTm_fn y (by have := Gl.wt_terms hy; omega)⟩
    · obtain ⟨y, hy, rfl⟩ := List.mem_map.1 hx
      exact ⟨Gl.enc_len y, ih y hy (by have := Gl.wt_goals hy; omega)⟩
theorem mcnts_wt : ∀ l : List Gl, Gl.mcnts l ≤ 3 * wtR (l.map Gl.enc)
  | [] => by simp [Gl.mcnts]
  | t :: r => by
    have h1 := mcnts_wt r
    have h2 := Gl.mcnt_wt t
    simp only [Gl.mcnts, List.map_cons, wtR]; omega
theorem mcntSS_wt : ∀ l : List (List Gl), Gl.mcntSS l ≤ 3 * wtR (l.map encL)
  | [] => by simp [Gl.mcntSS]
  | c :: r => by
    have h1 := mcntSS_wt r
    have h2 := mcnts_wt c
    simp only [Gl.mcntSS, List.map_cons, wtR, encL_eq, wtL, D.wt]; omega
theorem wt_mkC : ∀ l : List (List Gl), wtR ((l.map mkC).map Gl.enc) = wtR (l.map encL)
  | [] => rfl
  | c :: r => by
    have h1 := wt_mkC r
    simp only [List.map_cons, wtR, mkC_enc, encL_eq, wtL, D.wt, List.length_nil]; omega
theorem wt_in : ∀ {l : List (List Gl)} {c : List Gl}, c ∈ l → wtR (c.map Gl.enc) + 1 ≤ wtR (l.map encL)
  | c' :: r, c, h => by
    simp only [List.map_cons, wtR, encL_eq, wtL, D.wt]
    rcases List.mem_cons.1 h with rfl | h
    · omega
    · have := wt_in h; omega
theorem lawFnExactClauseGoal (a0 : List (List Gl)) (ha0 : Sh Try.prog 39 [.sl (a0.map (Go.Abs.encL Gl.enc))]) : Gives Try.prog 4 [.sl (a0.map (Go.Abs.encL Gl.enc))] (.d (.bool true)) := by
  have hesa0 := shS (by kernel_rfl : leaves Try.prog 6 39 = some [.sl 23]) ha0
  have hsza0 := szs39 _ hesa0.1 hesa0.2
  have htoa0 := fun hb => tos39 _ hb hesa0.2
  have heqa0 := eqs39 _ hesa0.1 hesa0.2
  have heL : a0.map (Go.Abs.encL Gl.enc) = a0.map encL := rfl
  rw [heL] at hsza0 htoa0 heqa0 ⊢
  have heG : encG = encL := rfl
  refine ACalls.enter (fn := Try.f4) Try.func4 rfl (by show 1 ≤ _; decide) ?_
  refine AW.hole ?_
  refine AW.hole ?_
  refine AW.hole ?_
  refine run_sound Try.func4 mixed 200 _ _ (by kernel_rfl) ?_
  simp only [go_sem, ↓reduceIte, Nat.reduceEqDiff, Nat.reduceLT, Nat.reduceLeDiff, Nat.reduceAdd, Nat.reduceMul, Nat.reduceSub, Int.reduceToNat, Int.reduceLT, Int.reduceLE, Int.reduceEq, Int.reduceNeg, Int.reduceAdd, Int.reduceSub, reduceCtorEq]
  refine (hsza0 _ (by omega) (by omega)).calls rfl ?_
  simp only [go_sem, ↓reduceIte, Nat.reduceEqDiff, Nat.reduceLT, Nat.reduceLeDiff, Nat.reduceAdd, Nat.reduceMul, Nat.reduceSub, Int.reduceToNat, Int.reduceLT, Int.reduceLE, Int.reduceEq, Int.reduceNeg, Int.reduceAdd, Int.reduceSub, reduceCtorEq]
  refine br_intro (fun hq => ?_) (fun hq => ?_)
  · simp only [go_sem, ↓reduceIte, Nat.reduceEqDiff, Nat.reduceLT, Nat.reduceLeDiff, Nat.reduceAdd, Nat.reduceMul, Nat.reduceSub, Int.reduceToNat, Int.reduceLT, Int.reduceLE, Int.reduceEq, Int.reduceNeg, Int.reduceAdd, Int.reduceSub, reduceCtorEq]
  simp only [decide_eq_false_iff_not] at hq
  have hwa0 := szr_ge hq
  rw [szr_pos hwa0]
  clear hq
  simp only [go_sem, ↓reduceIte, Nat.reduceEqDiff, Nat.reduceLT, Nat.reduceLeDiff, Nat.reduceAdd, Nat.reduceMul, Nat.reduceSub, Int.reduceToNat, Int.reduceLT, Int.reduceLE, Int.reduceEq, Int.reduceNeg, Int.reduceAdd, Int.reduceSub, reduceCtorEq]
  have hmx : maxLen = 9223372036854775807 := rfl
  have hla : a0.length ≤ 1048576 := by
    have := sumW_le (a0.map encL) 0; simp [sumW] at this; omega
  have hcl : ∀ c, c ∈ a0 → c.length ≤ 1048576 ∧ wtR (c.map Gl.enc) ≤ 1048576 ∧ ∀ x, x ∈ c → wtL x.enc ≤ 1048576 := fun c hc => by
    have h1 := wt_in hc
    refine ⟨?_, by omega, fun x hx => ?_⟩
    · have := sumW_le (c.map Gl.enc) 0; simp [sumW] at this; omega
    · have := wtL_lt (c.map Gl.enc) x.enc (List.mem_map.2 ⟨x, hx, rfl⟩); omega
  have hx := toGoalSS_T a0 hla (fun c hc => (hcl c hc).2.1)
  rw [heG] at hx
  have hg := clauseGoal_T a0 (fun c hc => (hcl c hc).2.2)
  have hw0 := sClauseGoal_fn a0 hla (fun c hc => (hcl c hc).1) (fun c hc => (hcl c hc).2.2)
  have hGw : wtR (((cgV a0).map mkC).map Gl.enc) ≤ 1048576 := by
    rw [wt_mkC]
    unfold cgV
    split
    · omega
    · simp [wtR]
  have hmS := mcntSS_wt a0
  have hmG := mcnts_wt ((cgV a0).map mkC)
  generalize (cgV a0).map mkC = V at hg hw0 hGw hmG
  generalize cgK a0 = kd at hg hw0
  generalize cgOk a0 = ok at hg hw0
  have hei := eqGl_fn (.mk kd [] [] V) (by rw [Gl.enc_eq]; simp only [Gl.kind, Gl.name, Gl.terms, Gl.goals, List.map_nil, wtL, D.wt, wtR, List.length_nil]; omega)
  rw [Gl.enc_eq] at hei
  simp only [Gl.kind, Gl.name, Gl.terms, Gl.goals, List.map_nil] at hei
  have hmk := fun q e B => markGoalSS_T a0 1 q e B (by omega) (by omega) (by omega)
  rw [heG] at hmk
  have hmi := fun q e B => markGoal_N kd [] V 1 q e B (by omega) (by omega)
  have hhd := heldGoal_N kd [] V 1 (by omega) (by omega)
  refine (htoa0 (by omega)).calls rfl ?_
  simp only [go_sem, ↓reduceIte, Nat.reduceEqDiff, Nat.reduceLT, Nat.reduceLeDiff, Nat.reduceAdd, Nat.reduceMul, Nat.reduceSub, Int.reduceToNat, Int.reduceLT, Int.reduceLE, Int.reduceEq, Int.reduceNeg, Int.reduceAdd, Int.reduceSub, reduceCtorEq]
  refine hw0.calls rfl ?_
  simp only [go_sem, ↓reduceIte, Nat.reduceEqDiff, Nat.reduceLT, Nat.reduceLeDiff, Nat.reduceAdd, Nat.reduceMul, Nat.reduceSub, Int.reduceToNat, Int.reduceLT, Int.reduceLE, Int.reduceEq, Int.reduceNeg, Int.reduceAdd, Int.reduceSub, reduceCtorEq]
  refine ACalls.fresh (ds := [.sl (a0.map encL)]) (m := 1) hx [1] rfl rfl (by simp) (by simp) ?_
  rintro c H' ⟨rfl, e1, B1, rfl⟩ _
  refine ⟨rfl, rfl, ?_⟩
  simp only [go_sem, ↓reduceIte, Nat.reduceEqDiff, Nat.reduceLT, Nat.reduceLeDiff, Nat.reduceAdd, Nat.reduceMul, Nat.reduceSub, Int.reduceToNat, Int.reduceLT, Int.reduceLE, Int.reduceEq, Int.reduceNeg, Int.reduceAdd, Int.reduceSub, reduceCtorEq]
  refine ACalls.fresh (ds := [.sl (a0.map encL)]) (m := 1) hg [0] rfl rfl (by simp) (by simp) ?_
  rintro c H' ⟨rfl, e2, B2, rfl⟩ _
  refine ⟨rfl, rfl, ?_⟩
  simp only [go_sem, ↓reduceIte, Nat.reduceEqDiff, Nat.reduceLT, Nat.reduceLeDiff, Nat.reduceAdd, Nat.reduceMul, Nat.reduceSub, Int.reduceToNat, Int.reduceLT, Int.reduceLE, Int.reduceEq, Int.reduceNeg, Int.reduceAdd, Int.reduceSub, reduceCtorEq]
  refine hei.lend rfl (by simp only [go_sem, ↓reduceIte, Nat.reduceEqDiff, Nat.reduceLT, Nat.reduceLeDiff, Nat.reduceAdd, Nat.reduceMul, Nat.reduceSub, Int.reduceToNat, Int.reduceLT, Int.reduceLE, Int.reduceEq, Int.reduceNeg, Int.reduceAdd, Int.reduceSub, reduceCtorEq]) ?_
  simp only [go_sem, ↓reduceIte, Nat.reduceEqDiff, Nat.reduceLT, Nat.reduceLeDiff, Nat.reduceAdd, Nat.reduceMul, Nat.reduceSub, Int.reduceToNat, Int.reduceLT, Int.reduceLE, Int.reduceEq, Int.reduceNeg, Int.reduceAdd, Int.reduceSub, reduceCtorEq]
  refine (htoa0 (by omega)).calls rfl ?_
  simp only [go_sem, ↓reduceIte, Nat.reduceEqDiff, Nat.reduceLT, Nat.reduceLeDiff, Nat.reduceAdd, Nat.reduceMul, Nat.reduceSub, Int.reduceToNat, Int.reduceLT, Int.reduceLE, Int.reduceEq, Int.reduceNeg, Int.reduceAdd, Int.reduceSub, reduceCtorEq]
  refine heqa0.lend rfl (by simp only [go_sem, ↓reduceIte, Nat.reduceEqDiff, Nat.reduceLT, Nat.reduceLeDiff, Nat.reduceAdd, Nat.reduceMul, Nat.reduceSub, Int.reduceToNat, Int.reduceLT, Int.reduceLE, Int.reduceEq, Int.reduceNeg, Int.reduceAdd, Int.reduceSub, reduceCtorEq]) ?_
  simp only [go_sem, ↓reduceIte, Nat.reduceEqDiff, Nat.reduceLT, Nat.reduceLeDiff, Nat.reduceAdd, Nat.reduceMul, Nat.reduceSub, Int.reduceToNat, Int.reduceLT, Int.reduceLE, Int.reduceEq, Int.reduceNeg, Int.reduceAdd, Int.reduceSub, reduceCtorEq]
  refine (hmk 1 _ _).at1 rfl 1 rfl rfl ?_
  rintro c o' ⟨rfl, B3, ho⟩
  cases ho
  refine ⟨rfl, rfl, ?_⟩
  simp only [go_sem, ↓reduceIte, Nat.reduceEqDiff, Nat.reduceLT, Nat.reduceLeDiff, Nat.reduceAdd, Nat.reduceMul, Nat.reduceSub, Int.reduceToNat, Int.reduceLT, Int.reduceLE, Int.reduceEq, Int.reduceNeg, Int.reduceAdd, Int.reduceSub, reduceCtorEq, C.at1]
  repeat' (first
    | (refine br_intro (fun hq => ?_) (fun hq => ?_) <;> (try simp only [decide_eq_true_eq, decide_eq_false_iff_not, bne_iff_ne, beq_iff_eq, beq_eq_false_iff_ne, bne_eq_false_iff_eq, Bool.not_eq_true, Bool.not_eq_false, ne_eq, Decidable.not_not, Int.not_lt, Int.not_le, Bool.not_eq_eq_eq_not, Bool.not_true, Bool.not_false, gt_iff_lt, ge_iff_le, Bool.and_eq_true, Bool.or_eq_true, Bool.or_eq_false_iff, Bool.and_eq_false_imp] at hq) <;> (try simp only [go_sem, ↓reduceIte, Nat.reduceEqDiff, Nat.reduceLT, Nat.reduceLeDiff, Nat.reduceAdd, Nat.reduceMul, Nat.reduceSub, Int.reduceToNat, Int.reduceLT, Int.reduceLE, Int.reduceEq, Int.reduceNeg, Int.reduceAdd, Int.reduceSub, reduceCtorEq, C.at1, hq]))
    | (refine idx_intro (fun x hx => ?_) <;> (try simp only [go_sem, ↓reduceIte, Nat.reduceEqDiff, Nat.reduceLT, Nat.reduceLeDiff, Nat.reduceAdd, Nat.reduceMul, Nat.reduceSub, Int.reduceToNat, Int.reduceLT, Int.reduceLE, Int.reduceEq, Int.reduceNeg, Int.reduceAdd, Int.reduceSub, reduceCtorEq, C.at1, hx]))
    | (simp (disch := omega) only [wrap_ok])
    | (refine hei.lend rfl (by simp only [go_sem, ↓reduceIte, Nat.reduceEqDiff, Nat.reduceLT, Nat.reduceLeDiff, Nat.reduceAdd, Nat.reduceMul, Nat.reduceSub, Int.reduceToNat, Int.reduceLT, Int.reduceLE, Int.reduceEq, Int.reduceNeg, Int.reduceAdd, Int.reduceSub, reduceCtorEq]) ?_ <;> (try simp only [go_sem, ↓reduceIte, Nat.reduceEqDiff, Nat.reduceLT, Nat.reduceLeDiff, Nat.reduceAdd, Nat.reduceMul, Nat.reduceSub, Int.reduceToNat, Int.reduceLT, Int.reduceLE, Int.reduceEq, Int.reduceNeg, Int.reduceAdd, Int.reduceSub, reduceCtorEq, C.at1]))
    | (refine ⟨by first | omega | assumption | (simp; done) | (simp; omega), ?_⟩ <;> (try simp only [go_sem, ↓reduceIte, Nat.reduceEqDiff, Nat.reduceLT, Nat.reduceLeDiff, Nat.reduceAdd, Nat.reduceMul, Nat.reduceSub, Int.reduceToNat, Int.reduceLT, Int.reduceLE, Int.reduceEq, Int.reduceNeg, Int.reduceAdd, Int.reduceSub, reduceCtorEq, C.at1]))
    | assumption)
  all_goals first | (exfalso; omega) | skip
  refine ((hmi 1 _ _).frame (X := [_, _, _, _]) rfl rfl ?_)
  rintro c H' ⟨rfl, B5, rfl⟩ _
  simp only [go_sem, ↓reduceIte, Nat.reduceEqDiff, Nat.reduceLT, Nat.reduceLeDiff, Nat.reduceAdd, Nat.reduceMul, Nat.reduceSub, Int.reduceToNat, Int.reduceLT, Int.reduceLE, Int.reduceEq, Int.reduceNeg, Int.reduceAdd, Int.reduceSub, reduceCtorEq]
  refine hhd.lend rfl (by simp only [go_sem, ↓reduceIte, Nat.reduceEqDiff, Nat.reduceLT, Nat.reduceLeDiff, Nat.reduceAdd, Nat.reduceMul, Nat.reduceSub, Int.reduceToNat, Int.reduceLT, Int.reduceLE, Int.reduceEq, Int.reduceNeg, Int.reduceAdd, Int.reduceSub, reduceCtorEq]) ?_
  simp only [go_sem, ↓reduceIte, Nat.reduceEqDiff, Nat.reduceLT, Nat.reduceLeDiff, Nat.reduceAdd, Nat.reduceMul, Nat.reduceSub, Int.reduceToNat, Int.reduceLT, Int.reduceLE, Int.reduceEq, Int.reduceNeg, Int.reduceAdd, Int.reduceSub, reduceCtorEq]
  repeat' (first
    | (refine br_intro (fun hq => ?_) (fun hq => ?_) <;> (try simp only [decide_eq_true_eq, decide_eq_false_iff_not, bne_iff_ne, beq_iff_eq, beq_eq_false_iff_ne, bne_eq_false_iff_eq, Bool.not_eq_true, Bool.not_eq_false, ne_eq, Decidable.not_not, Int.not_lt, Int.not_le, Bool.not_eq_eq_eq_not, Bool.not_true, Bool.not_false, gt_iff_lt, ge_iff_le, Bool.and_eq_true, Bool.or_eq_true, Bool.or_eq_false_iff, Bool.and_eq_false_imp] at hq) <;> (try simp only [go_sem, ↓reduceIte, Nat.reduceEqDiff, Nat.reduceLT, Nat.reduceLeDiff, Nat.reduceAdd, Nat.reduceMul, Nat.reduceSub, Int.reduceToNat, Int.reduceLT, Int.reduceLE, Int.reduceEq, Int.reduceNeg, Int.reduceAdd, Int.reduceSub, reduceCtorEq, hq]))
    | (refine idx_intro (fun x hx => ?_) <;> (try simp only [go_sem, ↓reduceIte, Nat.reduceEqDiff, Nat.reduceLT, Nat.reduceLeDiff, Nat.reduceAdd, Nat.reduceMul, Nat.reduceSub, Int.reduceToNat, Int.reduceLT, Int.reduceLE, Int.reduceEq, Int.reduceNeg, Int.reduceAdd, Int.reduceSub, reduceCtorEq, hx]))
    | (simp (disch := omega) only [wrap_ok])
    | (refine ⟨by first | omega | assumption | (simp; done) | (simp; omega), ?_⟩ <;> (try simp only [go_sem, ↓reduceIte, Nat.reduceEqDiff, Nat.reduceLT, Nat.reduceLeDiff, Nat.reduceAdd, Nat.reduceMul, Nat.reduceSub, Int.reduceToNat, Int.reduceLT, Int.reduceLE, Int.reduceEq, Int.reduceNeg, Int.reduceAdd, Int.reduceSub, reduceCtorEq]))
    | assumption)
  all_goals first | (exfalso; omega) | skip
  refine (htoa0 (by omega)).calls rfl ?_
  simp only [go_sem, ↓reduceIte, Nat.reduceEqDiff, Nat.reduceLT, Nat.reduceLeDiff, Nat.reduceAdd, Nat.reduceMul, Nat.reduceSub, Int.reduceToNat, Int.reduceLT, Int.reduceLE, Int.reduceEq, Int.reduceNeg, Int.reduceAdd, Int.reduceSub, reduceCtorEq]
  refine ACalls.fresh (ds := [.sl (a0.map encL)]) (m := 1) hg [2] rfl rfl (by simp) (by simp) ?_
  rintro c H' ⟨rfl, e6, B6, rfl⟩ _
  refine ⟨rfl, rfl, ?_⟩
  simp only [go_sem, ↓reduceIte, Nat.reduceEqDiff, Nat.reduceLT, Nat.reduceLeDiff, Nat.reduceAdd, Nat.reduceMul, Nat.reduceSub, Int.reduceToNat, Int.reduceLT, Int.reduceLE, Int.reduceEq, Int.reduceNeg, Int.reduceAdd, Int.reduceSub, reduceCtorEq]
  refine hei.lend rfl (by simp only [go_sem, ↓reduceIte, Nat.reduceEqDiff, Nat.reduceLT, Nat.reduceLeDiff, Nat.reduceAdd, Nat.reduceMul, Nat.reduceSub, Int.reduceToNat, Int.reduceLT, Int.reduceLE, Int.reduceEq, Int.reduceNeg, Int.reduceAdd, Int.reduceSub, reduceCtorEq]) ?_
  simp only [go_sem, ↓reduceIte, Nat.reduceEqDiff, Nat.reduceLT, Nat.reduceLeDiff, Nat.reduceAdd, Nat.reduceMul, Nat.reduceSub, Int.reduceToNat, Int.reduceLT, Int.reduceLE, Int.reduceEq, Int.reduceNeg, Int.reduceAdd, Int.reduceSub, reduceCtorEq]
  refine hhd.lend rfl (by simp only [go_sem, ↓reduceIte, Nat.reduceEqDiff, Nat.reduceLT, Nat.reduceLeDiff, Nat.reduceAdd, Nat.reduceMul, Nat.reduceSub, Int.reduceToNat, Int.reduceLT, Int.reduceLE, Int.reduceEq, Int.reduceNeg, Int.reduceAdd, Int.reduceSub, reduceCtorEq]) ?_
  simp only [go_sem, ↓reduceIte, Nat.reduceEqDiff, Nat.reduceLT, Nat.reduceLeDiff, Nat.reduceAdd, Nat.reduceMul, Nat.reduceSub, Int.reduceToNat, Int.reduceLT, Int.reduceLE, Int.reduceEq, Int.reduceNeg, Int.reduceAdd, Int.reduceSub, reduceCtorEq]
  repeat' (first
    | (refine br_intro (fun hq => ?_) (fun hq => ?_) <;> (try simp only [decide_eq_true_eq, decide_eq_false_iff_not, bne_iff_ne, beq_iff_eq, beq_eq_false_iff_ne, bne_eq_false_iff_eq, Bool.not_eq_true, Bool.not_eq_false, ne_eq, Decidable.not_not, Int.not_lt, Int.not_le, Bool.not_eq_eq_eq_not, Bool.not_true, Bool.not_false, gt_iff_lt, ge_iff_le, Bool.and_eq_true, Bool.or_eq_true, Bool.or_eq_false_iff, Bool.and_eq_false_imp] at hq) <;> (try simp only [go_sem, ↓reduceIte, Nat.reduceEqDiff, Nat.reduceLT, Nat.reduceLeDiff, Nat.reduceAdd, Nat.reduceMul, Nat.reduceSub, Int.reduceToNat, Int.reduceLT, Int.reduceLE, Int.reduceEq, Int.reduceNeg, Int.reduceAdd, Int.reduceSub, reduceCtorEq, hq]))
    | (refine idx_intro (fun x hx => ?_) <;> (try simp only [go_sem, ↓reduceIte, Nat.reduceEqDiff, Nat.reduceLT, Nat.reduceLeDiff, Nat.reduceAdd, Nat.reduceMul, Nat.reduceSub, Int.reduceToNat, Int.reduceLT, Int.reduceLE, Int.reduceEq, Int.reduceNeg, Int.reduceAdd, Int.reduceSub, reduceCtorEq, hx]))
    | (simp (disch := omega) only [wrap_ok])
    | (refine ⟨by first | omega | assumption | (simp; done) | (simp; omega), ?_⟩ <;> (try simp only [go_sem, ↓reduceIte, Nat.reduceEqDiff, Nat.reduceLT, Nat.reduceLeDiff, Nat.reduceAdd, Nat.reduceMul, Nat.reduceSub, Int.reduceToNat, Int.reduceLT, Int.reduceLE, Int.reduceEq, Int.reduceNeg, Int.reduceAdd, Int.reduceSub, reduceCtorEq]))
    | assumption)
  all_goals first | (exfalso; omega) | skip
end Go.Proofs.Ytljdpohdfnileaa

