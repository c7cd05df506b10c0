/- The choices that lead to a clause: the reference's. -/
import Derived.Test.YtljdpohdfnileaaW22
import Derived.Test.YtljdpohdfnileaaW25
import Derived.Test.YtljdpohdfnileaaA8
namespace Go.Proofs.Ytljdpohdfnileaa
open Go.Abs
set_option maxRecDepth 100000
set_option maxHeartbeats 4000000
set_option linter.unusedSimpArgs false
set_option linter.unusedVariables false

/-- The reference appends the choices to a list. -/
def lcT (t : Gl) : Prop := ∀ (i q : Nat) (l : List Int) (B : Nat → Prop), i < t.clsS.length → t.clsS.length ≤ 64 → l.length + t.cnt ≤ 100000000 →
  ACalls Try.prog 74 [.d (.agg [.sl []]), .d (.agg t.enc), .d (.int .i64 i), .d (.sl []), .own 0 q] [.tree q 1 3 (intsD l) B none] fun c H' => ∃ q' B', c = .tup [.own 0 q', .d (.sl [])] ∧ H' = [.tree q' 1 3 (intsD (l ++ t.chI i)) B' none]
theorem l26Choices_T : ∀ t : Gl, wtL t.enc ≤ 1048576 → lcT t := by
  intro t
  induction t using Gl.ind' with
  | h t ih =>
    intro hw i q l B hi hl hln
    have hmx : maxLen = 9223372036854775807 := rfl
    have z0 : ((0 : Nat) : Int) = 0 := rfl
    have hcn := Gl.cnt_eq t
    have hgl : t.goals.length ≤ 1048576 := by
      have hwg : wtR (t.goals.map Gl.enc) ≤ 1048576 := by simp only [Gl.enc_eq t, wtL, D.wt] at hw; omega
      have := sumW_le (t.goals.map Gl.enc) 0; simp [sumW] at this; omega
    rw [Gl.chI_eq]
    by_cases h7 : t.kind = 7
    · have h8 : ¬ t.kind = 8 := by omega
      obtain ⟨hs1, hs2, hs3⟩ := Gl.and_parts h7 hi hl
      simp only [if_neg h8, if_pos h7]
      have hpp := Gl.prd_pos (l := t.goals) (by omega)
      refine ACalls.enter (fn := Try.f74) Try.func74 rfl (by show 5 ≤ _; decide) ?_
      refine run_sound Try.func74 mixed 200 _ _ (by kernel_rfl) ?_
      simp only [go_sem, ↓reduceIte, Nat.reduceEqDiff, Nat.reduceLT, Nat.reduceLeDiff, Nat.reduceAdd, Nat.reduceMul, Nat.reduceSub, Int.reduceToNat, Int.reduceLT, Int.reduceLE, Int.reduceEq, Int.reduceNeg, Int.reduceAdd, Int.reduceSub, reduceCtorEq, h7]
      repeat' (first
        | (refine br_intro (fun hq => ?_) (fun hq => ?_) <;> (try simp only [decide_eq_true_eq, decide_eq_false_iff_not, bne_iff_ne, beq_iff_eq, beq_eq_false_iff_ne, bne_eq_false_iff_eq, Bool.not_eq_true, Bool.not_eq_false, ne_eq, Decidable.not_not, Int.not_lt, Int.not_le, Bool.not_eq_eq_eq_not, Bool.not_true, Bool.not_false, gt_iff_lt, ge_iff_le, Bool.and_eq_true, Bool.or_eq_true, Bool.or_eq_false_iff, Bool.and_eq_false_imp] at hq) <;> (try simp only [go_sem, ↓reduceIte, Nat.reduceEqDiff, Nat.reduceLT, Nat.reduceLeDiff, Nat.reduceAdd, Nat.reduceMul, Nat.reduceSub, Int.reduceToNat, Int.reduceLT, Int.reduceLE, Int.reduceEq, Int.reduceNeg, Int.reduceAdd, Int.reduceSub, reduceCtorEq, h7, hq]))
        | (refine idx_intro (fun x hx => ?_) <;> (try simp only [go_sem, ↓reduceIte, Nat.reduceEqDiff, Nat.reduceLT, Nat.reduceLeDiff, Nat.reduceAdd, Nat.reduceMul, Nat.reduceSub, Int.reduceToNat, Int.reduceLT, Int.reduceLE, Int.reduceEq, Int.reduceNeg, Int.reduceAdd, Int.reduceSub, reduceCtorEq, h7, hx]))
        | (simp (disch := omega) only [wrap_ok])
        | (refine ⟨by first | omega | assumption | (simp; done) | (simp; omega), ?_⟩ <;> (try simp only [go_sem, ↓reduceIte, Nat.reduceEqDiff, Nat.reduceLT, Nat.reduceLeDiff, Nat.reduceAdd, Nat.reduceMul, Nat.reduceSub, Int.reduceToNat, Int.reduceLT, Int.reduceLE, Int.reduceEq, Int.reduceNeg, Int.reduceAdd, Int.reduceSub, reduceCtorEq, h7]))
        | assumption)
      refine AW.rng t.goals [2, 3, 4, 5, 6, 24, 25] 26 24 (fun n : Nat => [(12, .d (.int .i64 n))]) (fun _ n => [.tree q 1 3 (intsD l) B none, .box [.d (.sl [])], .box (t.enc.map .d)]) (fun r n => n * Gl.prd r = Gl.prd t.goals) 1 rfl (by simp) (by simp) (by refine ⟨by simp [mkS], by simp [mkS], by simp only [mkS, List.all_cons, List.all_nil, O.refsLt, C.refsLt, C.refsLt1, all_dmap]; first | done | rfl | (simp; done), ?_⟩; simp [mkS, Abs.get, C.refsLtT, C.refsLt, C.refsLt1]) (fun j x r n hxj hdr hlt hm hinv hnext => ?_) (fun n hinv => ?_)
      · have hxm := List.mem_of_getElem? hxj
        have hxw : wtL x.enc ≤ 1048576 := by have := Gl.wt_goals hxm; omega
        have hlc := l16Clauses_fn x hxw
        simp only [Gl.prd] at hinv
        rw [← Nat.mul_assoc] at hinv
        have hnb : n * x.clsS.length ≤ 64 := by
          have h1 : 0 < Gl.prd r := by
            rcases Nat.eq_zero_or_pos (Gl.prd r) with h | h
            · rw [h] at hinv; omega
            · exact h
          have := Nat.le_mul_of_pos_right (n * x.clsS.length) h1
          omega
        have hmu : (n : Int) * (x.clsS.length : Int) = ((n * x.clsS.length : Nat) : Int) := rfl
        have hwr : IntKind.i64.wrap ((n * x.clsS.length : Nat) : Int) = ((n * x.clsS.length : Nat) : Int) := by
          generalize n * x.clsS.length = m at *
          exact wrap_ok (by omega) (by omega)
        refine run_sound Try.func74 mixed 200 _ _ (by kernel_rfl) ?_
        simp only [go_sem, ↓reduceIte, Nat.reduceEqDiff, Nat.reduceLT, Nat.reduceLeDiff, Nat.reduceAdd, Nat.reduceMul, Nat.reduceSub, Int.reduceToNat, Int.reduceLT, Int.reduceLE, Int.reduceEq, Int.reduceNeg, Int.reduceAdd, Int.reduceSub, reduceCtorEq, hlt, idx_of hxj, hmu, hwr]
        repeat' (first
          | (refine br_intro (fun hq => ?_) (fun hq => ?_) <;> (try simp only [decide_eq_true_eq, decide_eq_false_iff_not, bne_iff_ne, beq_iff_eq, beq_eq_false_iff_ne, bne_eq_false_iff_eq, Bool.not_eq_true, Bool.not_eq_false, ne_eq, Decidable.not_not, Int.not_lt, Int.not_le, Bool.not_eq_eq_eq_not, Bool.not_true, Bool.not_false, gt_iff_lt, ge_iff_le, Bool.and_eq_true, Bool.or_eq_true, Bool.or_eq_false_iff, Bool.and_eq_false_imp] at hq) <;> (try simp only [go_sem, ↓reduceIte, Nat.reduceEqDiff, Nat.reduceLT, Nat.reduceLeDiff, Nat.reduceAdd, Nat.reduceMul, Nat.reduceSub, Int.reduceToNat, Int.reduceLT, Int.reduceLE, Int.reduceEq, Int.reduceNeg, Int.reduceAdd, Int.reduceSub, reduceCtorEq, hlt, idx_of hxj, hmu, hwr, hq]))
          | (refine idx_intro (fun x hx => ?_) <;> (try simp only [go_sem, ↓reduceIte, Nat.reduceEqDiff, Nat.reduceLT, Nat.reduceLeDiff, Nat.reduceAdd, Nat.reduceMul, Nat.reduceSub, Int.reduceToNat, Int.reduceLT, Int.reduceLE, Int.reduceEq, Int.reduceNeg, Int.reduceAdd, Int.reduceSub, reduceCtorEq, hlt, idx_of hxj, hmu, hwr, hx]))
          | (simp (disch := omega) only [wrap_ok])
          | (refine hlc.calls rfl ?_ <;> (try simp only [go_sem, ↓reduceIte, Nat.reduceEqDiff, Nat.reduceLT, Nat.reduceLeDiff, Nat.reduceAdd, Nat.reduceMul, Nat.reduceSub, Int.reduceToNat, Int.reduceLT, Int.reduceLE, Int.reduceEq, Int.reduceNeg, Int.reduceAdd, Int.reduceSub, reduceCtorEq, hlt, idx_of hxj, hmu, hwr]))
          | (refine ⟨by first | omega | assumption | (simp; done) | (simp; omega), ?_⟩ <;> (try simp only [go_sem, ↓reduceIte, Nat.reduceEqDiff, Nat.reduceLT, Nat.reduceLeDiff, Nat.reduceAdd, Nat.reduceMul, Nat.reduceSub, Int.reduceToNat, Int.reduceLT, Int.reduceLE, Int.reduceEq, Int.reduceNeg, Int.reduceAdd, Int.reduceSub, reduceCtorEq, hlt, idx_of hxj, hmu, hwr]))
          | assumption)
        refine hnext (n * x.clsS.length) _ hinv (by refine ⟨by simp [mkS], by simp [mkS], by simp only [mkS, List.all_cons, List.all_nil, O.refsLt, C.refsLt, C.refsLt1, all_dmap]; first | done | rfl | (simp; done), ?_⟩; simp [mkS, Abs.get, C.refsLtT, C.refsLt, C.refsLt1])
      · simp only [Gl.prd, Nat.mul_one] at hinv
        subst hinv
        refine run_sound Try.func74 mixed 200 _ _ (by kernel_rfl) ?_
        simp only [go_sem, ↓reduceIte, Nat.reduceEqDiff, Nat.reduceLT, Nat.reduceLeDiff, Nat.reduceAdd, Nat.reduceMul, Nat.reduceSub, Int.reduceToNat, Int.reduceLT, Int.reduceLE, Int.reduceEq, Int.reduceNeg, Int.reduceAdd, Int.reduceSub, reduceCtorEq]
        repeat' (first
          | (refine br_intro (fun hq => ?_) (fun hq => ?_) <;> (try simp only [decide_eq_true_eq, decide_eq_false_iff_not, bne_iff_ne, beq_iff_eq, beq_eq_false_iff_ne, bne_eq_false_iff_eq, Bool.not_eq_true, Bool.not_eq_false, ne_eq, Decidable.not_not, Int.not_lt, Int.not_le, Bool.not_eq_eq_eq_not, Bool.not_true, Bool.not_false, gt_iff_lt, ge_iff_le, Bool.and_eq_true, Bool.or_eq_true, Bool.or_eq_false_iff, Bool.and_eq_false_imp] at hq) <;> (try simp only [go_sem, ↓reduceIte, Nat.reduceEqDiff, Nat.reduceLT, Nat.reduceLeDiff, Nat.reduceAdd, Nat.reduceMul, Nat.reduceSub, Int.reduceToNat, Int.reduceLT, Int.reduceLE, Int.reduceEq, Int.reduceNeg, Int.reduceAdd, Int.reduceSub, reduceCtorEq, hq]))
          | (refine idx_intro (fun x hx => ?_) <;> (try simp only [go_sem, ↓reduceIte, Nat.reduceEqDiff, Nat.reduceLT, Nat.reduceLeDiff, Nat.reduceAdd, Nat.reduceMul, Nat.reduceSub, Int.reduceToNat, Int.reduceLT, Int.reduceLE, Int.reduceEq, Int.reduceNeg, Int.reduceAdd, Int.reduceSub, reduceCtorEq, hx]))
          | (simp (disch := omega) only [wrap_ok])
          | (refine ⟨by first | omega | assumption | (simp; done) | (simp; omega), ?_⟩ <;> (try simp only [go_sem, ↓reduceIte, Nat.reduceEqDiff, Nat.reduceLT, Nat.reduceLeDiff, Nat.reduceAdd, Nat.reduceMul, Nat.reduceSub, Int.reduceToNat, Int.reduceLT, Int.reduceLE, Int.reduceEq, Int.reduceNeg, Int.reduceAdd, Int.reduceSub, reduceCtorEq]))
          | assumption)
        refine AW.rng t.goals [5, 37, 38] 39 37 (fun p : Nat × List Int × (Nat → Prop) × Nat × Nat => [(12, .d (.int .i64 p.2.2.2.1)), (2, .d (.int .i64 p.2.2.2.2)), (3, .d (.sl [])), (4, .own 0 p.1)]) (fun _ p => [.tree p.1 1 3 (intsD p.2.1) p.2.2.1 none, .box [.d (.sl [])], .box (t.enc.map .d)]) (fun r p => p.2.2.2.1 = Gl.prd r ∧ p.2.2.2.2 < Gl.prd r ∧ Gl.prd r ≤ 64 ∧ p.2.1 ++ Gl.chAnd r p.2.2.2.2 = l ++ Gl.chAnd t.goals i ∧ p.2.1.length + Gl.cnts r ≤ l.length + Gl.cnts t.goals) (q, l, B, Gl.prd t.goals, i) rfl (by simp) ⟨rfl, hs1, hs2, rfl, Nat.le_refl _⟩ (by refine ⟨by simp [mkS], by simp [mkS], by simp only [mkS, List.all_cons, List.all_nil, O.refsLt, C.refsLt, C.refsLt1, all_dmap]; first | done | rfl | (simp; done), ?_⟩; simp [mkS, Abs.get, C.refsLtT, C.refsLt, C.refsLt1]) (fun j x r p hxj hdr hlt hm hinv hnext => ?_) (fun p hinv => ?_)
        · obtain ⟨q1, l1, B1, rest, idx⟩ := p
          obtain ⟨h1, h2, h3, h4, h5⟩ := hinv
          dsimp only at h1 h2 h3 h4 h5 hnext ⊢
          have hxm := List.mem_of_getElem? hxj
          have hxw : wtL x.enc ≤ 1048576 := by have := Gl.wt_goals hxm; omega
          have hxl := hs3 x hxm
          have hxp := hpp x hxm
          have hlc := l16Clauses_fn x hxw
          simp only [Gl.prd, Gl.chAnd, Gl.cnts] at h1 h2 h3 h4 h5
          have hchl := x.chI_len (idx / Gl.prd r)
          have hmod := Gl.chAnd_mod r idx (Gl.prd r) ⟨1, by simp⟩
          generalize hP : Gl.prd r = P at *
          subst h1
          have hP0 : 0 < P := by
            rcases Nat.eq_zero_or_pos P with h | h
            · rw [h] at h2; omega
            · exact h
          have hil : idx / P < x.clsS.length := by rw [Nat.div_lt_iff_lt_mul hP0]; exact h2
          rw [Nat.mod_eq_of_lt hil] at h4
          have hxi := ih x hxm hxw (idx / P) q1 l1 B1 hil hxl (by omega)
          have hP64 : P ≤ 64 := Nat.le_trans (Nat.le_mul_of_pos_left P hxp) h3
          have hq1 : ((x.clsS.length * P : Nat) : Int).tdiv (x.clsS.length : Int) = (P : Int) := by
            show ((x.clsS.length * P / x.clsS.length : Nat) : Int) = (P : Int)
            rw [Nat.mul_div_cancel_left _ hxp]
          have hw1 : IntKind.i64.wrap (P : Int) = (P : Int) := wrap_ok (by omega) (by omega)
          have hn1 : ¬ (x.clsS.length : Int) = 0 := by omega
          have hn2 : ¬ (P : Int) = 0 := by omega
          have hdle := Nat.div_le_self idx P
          have hw2 : IntKind.i64.wrap ((idx / P : Nat) : Int) = ((idx / P : Nat) : Int) := by
            generalize idx / P = m at *
            exact wrap_ok (by omega) (by omega)
          have hq2 : (idx : Int).tdiv (P : Int) = ((idx / P : Nat) : Int) := rfl
          have hq3 : (idx : Int).tmod (P : Int) = ((idx % P : Nat) : Int) := rfl
          refine run_sound Try.func74 mixed 12 _ _ (by kernel_rfl) ?_
          simp only [go_sem, ↓reduceIte, Nat.reduceEqDiff, Nat.reduceLT, Nat.reduceLeDiff, Nat.reduceAdd, Nat.reduceMul, Nat.reduceSub, Int.reduceToNat, Int.reduceLT, Int.reduceLE, Int.reduceEq, Int.reduceNeg, Int.reduceAdd, Int.reduceSub, reduceCtorEq, run.eq_1, hlt, idx_of hxj, hn1, hq1, hw1]
          repeat' (first
            | (refine br_intro (fun hq => ?_) (fun hq => ?_) <;> (try simp only [decide_eq_true_eq, decide_eq_false_iff_not, bne_iff_ne, beq_iff_eq, beq_eq_false_iff_ne, bne_eq_false_iff_eq, Bool.not_eq_true, Bool.not_eq_false, ne_eq, Decidable.not_not, Int.not_lt, Int.not_le, Bool.not_eq_eq_eq_not, Bool.not_true, Bool.not_false, gt_iff_lt, ge_iff_le, Bool.and_eq_true, Bool.or_eq_true, Bool.or_eq_false_iff, Bool.and_eq_false_imp] at hq) <;> (try simp only [go_sem, ↓reduceIte, Nat.reduceEqDiff, Nat.reduceLT, Nat.reduceLeDiff, Nat.reduceAdd, Nat.reduceMul, Nat.reduceSub, Int.reduceToNat, Int.reduceLT, Int.reduceLE, Int.reduceEq, Int.reduceNeg, Int.reduceAdd, Int.reduceSub, reduceCtorEq, hlt, idx_of hxj, hn1, hq1, hw1, run.eq_1, hq]))
            | (refine idx_intro (fun x hx => ?_) <;> (try simp only [go_sem, ↓reduceIte, Nat.reduceEqDiff, Nat.reduceLT, Nat.reduceLeDiff, Nat.reduceAdd, Nat.reduceMul, Nat.reduceSub, Int.reduceToNat, Int.reduceLT, Int.reduceLE, Int.reduceEq, Int.reduceNeg, Int.reduceAdd, Int.reduceSub, reduceCtorEq, hlt, idx_of hxj, hn1, hq1, hw1, run.eq_1, hx]))
            | (simp (disch := omega) only [wrap_ok])
            | (refine hlc.calls rfl ?_ <;> (try simp only [go_sem, ↓reduceIte, Nat.reduceEqDiff, Nat.reduceLT, Nat.reduceLeDiff, Nat.reduceAdd, Nat.reduceMul, Nat.reduceSub, Int.reduceToNat, Int.reduceLT, Int.reduceLE, Int.reduceEq, Int.reduceNeg, Int.reduceAdd, Int.reduceSub, reduceCtorEq, hlt, idx_of hxj, hn1, hq1, hw1, run.eq_1]))
            | (refine ⟨by first | omega | assumption | (simp; done) | (simp; omega), ?_⟩ <;> (try simp only [go_sem, ↓reduceIte, Nat.reduceEqDiff, Nat.reduceLT, Nat.reduceLeDiff, Nat.reduceAdd, Nat.reduceMul, Nat.reduceSub, Int.reduceToNat, Int.reduceLT, Int.reduceLE, Int.reduceEq, Int.reduceNeg, Int.reduceAdd, Int.reduceSub, reduceCtorEq, hlt, idx_of hxj, hn1, hq1, hw1, run.eq_1]))
            | assumption)
          refine AW.drawA mixed #[true, true, true, true, true, true, true, true, true, true, true, true, false] [(1, .box [.d (.sl [])]), (2, .box (t.enc.map .d)), (3, .box (x.enc.map .d))] [0, 1, 2, 3, 4, 5, 6, 7, 8, 9, 10, 11] [12] none (by kernel_rfl) trivial (by simp [holdsB]) ?_
          simp only [go_sem, ↓reduceIte, Nat.reduceEqDiff, Nat.reduceLT, Nat.reduceLeDiff, Nat.reduceAdd, Nat.reduceMul, Nat.reduceSub, Int.reduceToNat, Int.reduceLT, Int.reduceLE, Int.reduceEq, Int.reduceNeg, Int.reduceAdd, Int.reduceSub, reduceCtorEq, hn2, hq2, hw2]
          refine hxi.frame (X := [_, _, _]) rfl rfl ?_
          rintro c H' ⟨q2, B2, rfl, rfl⟩ _
          simp only [go_sem, ↓reduceIte, Nat.reduceEqDiff, Nat.reduceLT, Nat.reduceLeDiff, Nat.reduceAdd, Nat.reduceMul, Nat.reduceSub, Int.reduceToNat, Int.reduceLT, Int.reduceLE, Int.reduceEq, Int.reduceNeg, Int.reduceAdd, Int.reduceSub, reduceCtorEq]
          refine run_sound Try.func74 mixed 200 _ _ (by kernel_rfl) ?_
          simp only [go_sem, ↓reduceIte, Nat.reduceEqDiff, Nat.reduceLT, Nat.reduceLeDiff, Nat.reduceAdd, Nat.reduceMul, Nat.reduceSub, Int.reduceToNat, Int.reduceLT, Int.reduceLE, Int.reduceEq, Int.reduceNeg, Int.reduceAdd, Int.reduceSub, reduceCtorEq, hn2, hq3]
          repeat' (first
            | (refine br_intro (fun hq => ?_) (fun hq => ?_) <;> (try simp only [decide_eq_true_eq, decide_eq_false_iff_not, bne_iff_ne, beq_iff_eq, beq_eq_false_iff_ne, bne_eq_false_iff_eq, Bool.not_eq_true, Bool.not_eq_false, ne_eq, Decidable.not_not, Int.not_lt, Int.not_le, Bool.not_eq_eq_eq_not, Bool.not_true, Bool.not_false, gt_iff_lt, ge_iff_le, Bool.and_eq_true, Bool.or_eq_true, Bool.or_eq_false_iff, Bool.and_eq_false_imp] at hq) <;> (try simp only [go_sem, ↓reduceIte, Nat.reduceEqDiff, Nat.reduceLT, Nat.reduceLeDiff, Nat.reduceAdd, Nat.reduceMul, Nat.reduceSub, Int.reduceToNat, Int.reduceLT, Int.reduceLE, Int.reduceEq, Int.reduceNeg, Int.reduceAdd, Int.reduceSub, reduceCtorEq, hn2, hq3, hq]))
            | (refine idx_intro (fun x hx => ?_) <;> (try simp only [go_sem, ↓reduceIte, Nat.reduceEqDiff, Nat.reduceLT, Nat.reduceLeDiff, Nat.reduceAdd, Nat.reduceMul, Nat.reduceSub, Int.reduceToNat, Int.reduceLT, Int.reduceLE, Int.reduceEq, Int.reduceNeg, Int.reduceAdd, Int.reduceSub, reduceCtorEq, hn2, hq3, hx]))
            | (simp (disch := omega) only [wrap_ok])
            | (refine ⟨by first | omega | assumption | (simp; done) | (simp; omega), ?_⟩ <;> (try simp only [go_sem, ↓reduceIte, Nat.reduceEqDiff, Nat.reduceLT, Nat.reduceLeDiff, Nat.reduceAdd, Nat.reduceMul, Nat.reduceSub, Int.reduceToNat, Int.reduceLT, Int.reduceLE, Int.reduceEq, Int.reduceNeg, Int.reduceAdd, Int.reduceSub, reduceCtorEq, hn2, hq3]))
            | assumption)
          refine hnext (q2, l1 ++ x.chI (idx / P), B2, P, idx % P) _ ⟨rfl, Nat.mod_lt _ hP0, hP64, by dsimp only; rw [hmod, List.append_assoc]; exact h4, by dsimp only; rw [List.length_append]; omega⟩ (by refine ⟨by simp [mkS], by simp [mkS], by simp only [mkS, List.all_cons, List.all_nil, O.refsLt, C.refsLt, C.refsLt1, all_dmap]; first | done | rfl | (simp; done), ?_⟩; simp [mkS, Abs.get, C.refsLtT, C.refsLt, C.refsLt1])
        · obtain ⟨h1, h2, h3, h4, h5⟩ := hinv
          simp only [Gl.chAnd, List.append_nil] at h4
          rw [← h4]
          refine run_sound Try.func74 mixed 200 _ _ (by kernel_rfl) ?_
          simp only [go_sem, ↓reduceIte, Nat.reduceEqDiff, Nat.reduceLT, Nat.reduceLeDiff, Nat.reduceAdd, Nat.reduceMul, Nat.reduceSub, Int.reduceToNat, Int.reduceLT, Int.reduceLE, Int.reduceEq, Int.reduceNeg, Int.reduceAdd, Int.reduceSub, reduceCtorEq]
          repeat' (first
            | (exact ⟨_, _, rfl, rfl⟩)
            | (refine br_intro (fun hq => ?_) (fun hq => ?_) <;> (try simp only [decide_eq_true_eq, decide_eq_false_iff_not, bne_iff_ne, beq_iff_eq, beq_eq_false_iff_ne, bne_eq_false_iff_eq, Bool.not_eq_true, Bool.not_eq_false, ne_eq, Decidable.not_not, Int.not_lt, Int.not_le, Bool.not_eq_eq_eq_not, Bool.not_true, Bool.not_false, gt_iff_lt, ge_iff_le, Bool.and_eq_true, Bool.or_eq_true, Bool.or_eq_false_iff, Bool.and_eq_false_imp] at hq) <;> (try simp only [go_sem, ↓reduceIte, Nat.reduceEqDiff, Nat.reduceLT, Nat.reduceLeDiff, Nat.reduceAdd, Nat.reduceMul, Nat.reduceSub, Int.reduceToNat, Int.reduceLT, Int.reduceLE, Int.reduceEq, Int.reduceNeg, Int.reduceAdd, Int.reduceSub, reduceCtorEq, hq]))
            | (refine idx_intro (fun x hx => ?_) <;> (try simp only [go_sem, ↓reduceIte, Nat.reduceEqDiff, Nat.reduceLT, Nat.reduceLeDiff, Nat.reduceAdd, Nat.reduceMul, Nat.reduceSub, Int.reduceToNat, Int.reduceLT, Int.reduceLE, Int.reduceEq, Int.reduceNeg, Int.reduceAdd, Int.reduceSub, reduceCtorEq, hx]))
            | (simp (disch := omega) only [wrap_ok])
            | (refine ⟨by first | omega | assumption | (simp; done) | (simp; omega), ?_⟩ <;> (try simp only [go_sem, ↓reduceIte, Nat.reduceEqDiff, Nat.reduceLT, Nat.reduceLeDiff, Nat.reduceAdd, Nat.reduceMul, Nat.reduceSub, Int.reduceToNat, Int.reduceLT, Int.reduceLE, Int.reduceEq, Int.reduceNeg, Int.reduceAdd, Int.reduceSub, reduceCtorEq]))
            | assumption)
    · by_cases h8 : t.kind = 8
      · obtain ⟨hs1, hs2, hs3⟩ := Gl.or_parts h8 hi hl
        simp only [if_pos h8]
        refine ACalls.enter (fn := Try.f74) Try.func74 rfl (by show 5 ≤ _; decide) ?_
        refine run_sound Try.func74 mixed 200 _ _ (by kernel_rfl) ?_
        simp only [go_sem, ↓reduceIte, Nat.reduceEqDiff, Nat.reduceLT, Nat.reduceLeDiff, Nat.reduceAdd, Nat.reduceMul, Nat.reduceSub, Int.reduceToNat, Int.reduceLT, Int.reduceLE, Int.reduceEq, Int.reduceNeg, Int.reduceAdd, Int.reduceSub, reduceCtorEq, h7, h8]
        repeat' (first
          | (refine br_intro (fun hq => ?_) (fun hq => ?_) <;> (try simp only [decide_eq_true_eq, decide_eq_false_iff_not, bne_iff_ne, beq_iff_eq, beq_eq_false_iff_ne, bne_eq_false_iff_eq, Bool.not_eq_true, Bool.not_eq_false, ne_eq, Decidable.not_not, Int.not_lt, Int.not_le, Bool.not_eq_eq_eq_not, Bool.not_true, Bool.not_false, gt_iff_lt, ge_iff_le, Bool.and_eq_true, Bool.or_eq_true, Bool.or_eq_false_iff, Bool.and_eq_false_imp] at hq) <;> (try simp only [go_sem, ↓reduceIte, Nat.reduceEqDiff, Nat.reduceLT, Nat.reduceLeDiff, Nat.reduceAdd, Nat.reduceMul, Nat.reduceSub, Int.reduceToNat, Int.reduceLT, Int.reduceLE, Int.reduceEq, Int.reduceNeg, Int.reduceAdd, Int.reduceSub, reduceCtorEq, h7, h8, hq]))
          | (refine idx_intro (fun x hx => ?_) <;> (try simp only [go_sem, ↓reduceIte, Nat.reduceEqDiff, Nat.reduceLT, Nat.reduceLeDiff, Nat.reduceAdd, Nat.reduceMul, Nat.reduceSub, Int.reduceToNat, Int.reduceLT, Int.reduceLE, Int.reduceEq, Int.reduceNeg, Int.reduceAdd, Int.reduceSub, reduceCtorEq, h7, h8, hx]))
          | (simp (disch := omega) only [wrap_ok])
          | (refine ⟨by first | omega | assumption | (simp; done) | (simp; omega), ?_⟩ <;> (try simp only [go_sem, ↓reduceIte, Nat.reduceEqDiff, Nat.reduceLT, Nat.reduceLeDiff, Nat.reduceAdd, Nat.reduceMul, Nat.reduceSub, Int.reduceToNat, Int.reduceLT, Int.reduceLE, Int.reduceEq, Int.reduceNeg, Int.reduceAdd, Int.reduceSub, reduceCtorEq, h7, h8]))
          | assumption)
        refine AW.lp [3, 4, 5, 6] (fun p : Nat × Nat => [(17, .d (.int .i64 p.1)), (2, .d (.int .i64 p.2))]) (fun _ p => [.tree q 1 3 (intsD l) B none, .box [.d (.sl [])], .box (t.enc.map .d)]) (fun p => p.1 ≤ t.goals.length ∧ Gl.chOr (t.goals.drop p.1) p.1 p.2 = Gl.chOr t.goals 0 i ∧ p.2 < ((t.goals.drop p.1).map fun x => x.clsS.length).sum ∧ p.2 < 64) (fun p => t.goals.length - p.1) (0, i) ⟨by simp, by simp, by simpa using hs1, by omega⟩ (by refine ⟨by simp [mkS], by simp [mkS], by simp only [mkS, List.all_cons, List.all_nil, O.refsLt, C.refsLt, C.refsLt1, all_dmap]; first | done | rfl | (simp; done), ?_⟩; simp [mkS, Abs.get, C.refsLtT, C.refsLt, C.refsLt1]) ?_
        rintro ⟨k, idx⟩ ⟨hk, hk1, hk2, hk3⟩ hnext
        dsimp only at hk hk1 hk2 hk3 hnext ⊢
        have hkl : k < t.goals.length := by
          rcases Nat.lt_or_ge k t.goals.length with h | h
          · exact h
          · rw [List.drop_eq_nil_of_le h] at hk2; simp at hk2
        obtain ⟨x, hx⟩ : ∃ x, t.goals[k]? = some x := ⟨_, List.getElem?_eq_getElem hkl⟩
        obtain ⟨k1, k2⟩ := List.getElem?_eq_some_iff.1 hx
        rw [List.drop_eq_getElem_cons k1, k2] at hk1 hk2
        simp only [Gl.chOr] at hk1
        simp only [List.map_cons, List.sum_cons] at hk2
        have hxm := List.mem_of_getElem? hx
        have hxw : wtL x.enc ≤ 1048576 := by have := Gl.wt_goals hxm; omega
        have hxl := hs3 x hxm
        have hlc := l16Clauses_fn x hxw
        have hkk : (k : Int) < (t.goals.length : Int) := by omega
        have hkw : IntKind.i64.wrap ((k : Int) + 1) = (k : Int) + 1 := wrap_ok (by omega) (by omega)
        by_cases hb : idx < x.clsS.length
        · rw [if_pos hb] at hk1
          have hlb : ¬ (x.clsS.length : Int) ≤ (idx : Int) := by omega
          rw [← hk1]
          refine run_sound Try.func74 mixed 6 _ _ (by kernel_rfl) ?_
          simp only [go_sem, ↓reduceIte, Nat.reduceEqDiff, Nat.reduceLT, Nat.reduceLeDiff, Nat.reduceAdd, Nat.reduceMul, Nat.reduceSub, Int.reduceToNat, Int.reduceLT, Int.reduceLE, Int.reduceEq, Int.reduceNeg, Int.reduceAdd, Int.reduceSub, reduceCtorEq, run.eq_1, hkk, idx_of hx, hlb]
          repeat' (first
            | (refine br_intro (fun hq => ?_) (fun hq => ?_) <;> (try simp only [decide_eq_true_eq, decide_eq_false_iff_not, bne_iff_ne, beq_iff_eq, beq_eq_false_iff_ne, bne_eq_false_iff_eq, Bool.not_eq_true, Bool.not_eq_false, ne_eq, Decidable.not_not, Int.not_lt, Int.not_le, Bool.not_eq_eq_eq_not, Bool.not_true, Bool.not_false, gt_iff_lt, ge_iff_le, Bool.and_eq_true, Bool.or_eq_true, Bool.or_eq_false_iff, Bool.and_eq_false_imp] at hq) <;> (try simp only [go_sem, ↓reduceIte, Nat.reduceEqDiff, Nat.reduceLT, Nat.reduceLeDiff, Nat.reduceAdd, Nat.reduceMul, Nat.reduceSub, Int.reduceToNat, Int.reduceLT, Int.reduceLE, Int.reduceEq, Int.reduceNeg, Int.reduceAdd, Int.reduceSub, reduceCtorEq, hkk, idx_of hx, hlb, run.eq_1, hq]))
            | (refine idx_intro (fun x hx => ?_) <;> (try simp only [go_sem, ↓reduceIte, Nat.reduceEqDiff, Nat.reduceLT, Nat.reduceLeDiff, Nat.reduceAdd, Nat.reduceMul, Nat.reduceSub, Int.reduceToNat, Int.reduceLT, Int.reduceLE, Int.reduceEq, Int.reduceNeg, Int.reduceAdd, Int.reduceSub, reduceCtorEq, hkk, idx_of hx, hlb, run.eq_1, hx]))
            | (simp (disch := omega) only [wrap_ok])
            | (refine hlc.calls rfl ?_ <;> (try simp only [go_sem, ↓reduceIte, Nat.reduceEqDiff, Nat.reduceLT, Nat.reduceLeDiff, Nat.reduceAdd, Nat.reduceMul, Nat.reduceSub, Int.reduceToNat, Int.reduceLT, Int.reduceLE, Int.reduceEq, Int.reduceNeg, Int.reduceAdd, Int.reduceSub, reduceCtorEq, hkk, idx_of hx, hlb, run.eq_1]))
            | (refine ⟨by first | omega | assumption | (simp; done) | (simp; omega), ?_⟩ <;> (try simp only [go_sem, ↓reduceIte, Nat.reduceEqDiff, Nat.reduceLT, Nat.reduceLeDiff, Nat.reduceAdd, Nat.reduceMul, Nat.reduceSub, Int.reduceToNat, Int.reduceLT, Int.reduceLE, Int.reduceEq, Int.reduceNeg, Int.reduceAdd, Int.reduceSub, reduceCtorEq, hkk, idx_of hx, hlb, run.eq_1]))
            | assumption)
          have hxi := ih x hxm hxw idx (q + 1) (l ++ [(k : Int)])
          have hxc : x.cnt ≤ Gl.cnts t.goals := by
            obtain ⟨a, b, hab⟩ := List.append_of_mem hxm
            rw [hab]
            clear hab
            induction a with
            | nil => simp [Gl.cnts]
            | cons y a iha => simp only [List.cons_append, Gl.cnts]; omega
          refine AW.drawA mixed #[true, true, true, true, true, true, true, true, true, true, true, true, true, true, true, false, false] [(1, .box [.d (.sl [])]), (2, .box (t.enc.map .d))] [0, 1, 2, 3, 4, 5, 6, 7, 8, 9, 10, 11, 12, 13, 14] [15, 16] none (by kernel_rfl) trivial (by simp [holdsB]) ?_
          simp only [go_sem, ↓reduceIte, Nat.reduceEqDiff, Nat.reduceLT, Nat.reduceLeDiff, Nat.reduceAdd, Nat.reduceMul, Nat.reduceSub, Int.reduceToNat, Int.reduceLT, Int.reduceLE, Int.reduceEq, Int.reduceNeg, Int.reduceAdd, Int.reduceSub, reduceCtorEq, hkk, idx_of hx]
          repeat' (first
            | (refine br_intro (fun hq => ?_) (fun hq => ?_) <;> (try simp only [decide_eq_true_eq, decide_eq_false_iff_not, bne_iff_ne, beq_iff_eq, beq_eq_false_iff_ne, bne_eq_false_iff_eq, Bool.not_eq_true, Bool.not_eq_false, ne_eq, Decidable.not_not, Int.not_lt, Int.not_le, Bool.not_eq_eq_eq_not, Bool.not_true, Bool.not_false, gt_iff_lt, ge_iff_le, Bool.and_eq_true, Bool.or_eq_true, Bool.or_eq_false_iff, Bool.and_eq_false_imp] at hq) <;> (try simp only [go_sem, ↓reduceIte, Nat.reduceEqDiff, Nat.reduceLT, Nat.reduceLeDiff, Nat.reduceAdd, Nat.reduceMul, Nat.reduceSub, Int.reduceToNat, Int.reduceLT, Int.reduceLE, Int.reduceEq, Int.reduceNeg, Int.reduceAdd, Int.reduceSub, reduceCtorEq, hkk, idx_of hx, intsD_ln, hq]))
            | (refine idx_intro (fun x hx => ?_) <;> (try simp only [go_sem, ↓reduceIte, Nat.reduceEqDiff, Nat.reduceLT, Nat.reduceLeDiff, Nat.reduceAdd, Nat.reduceMul, Nat.reduceSub, Int.reduceToNat, Int.reduceLT, Int.reduceLE, Int.reduceEq, Int.reduceNeg, Int.reduceAdd, Int.reduceSub, reduceCtorEq, hkk, idx_of hx, intsD_ln, hx]))
            | (simp (disch := omega) only [wrap_ok])
            | (refine all_intro (fun Bz => ?_) <;> (try simp only [go_sem, ↓reduceIte, Nat.reduceEqDiff, Nat.reduceLT, Nat.reduceLeDiff, Nat.reduceAdd, Nat.reduceMul, Nat.reduceSub, Int.reduceToNat, Int.reduceLT, Int.reduceLE, Int.reduceEq, Int.reduceNeg, Int.reduceAdd, Int.reduceSub, reduceCtorEq, hkk, idx_of hx, intsD_ln]))
            | (refine ⟨by first | omega | assumption | (simp; done) | (simp; omega), ?_⟩ <;> (try simp only [go_sem, ↓reduceIte, Nat.reduceEqDiff, Nat.reduceLT, Nat.reduceLeDiff, Nat.reduceAdd, Nat.reduceMul, Nat.reduceSub, Int.reduceToNat, Int.reduceLT, Int.reduceLE, Int.reduceEq, Int.reduceNeg, Int.reduceAdd, Int.reduceSub, reduceCtorEq, hkk, idx_of hx, intsD_ln]))
            | assumption)
          have hx2 := hxi Bz hb hxl (by simp only [List.length_append, List.length_cons, List.length_nil]; omega)
          rw [intsD_app] at hx2
          refine hx2.frame (X := [_, _]) rfl rfl ?_
          rintro c H' ⟨q2, B2, rfl, rfl⟩ _
          simp only [go_sem, ↓reduceIte, Nat.reduceEqDiff, Nat.reduceLT, Nat.reduceLeDiff, Nat.reduceAdd, Nat.reduceMul, Nat.reduceSub, Int.reduceToNat, Int.reduceLT, Int.reduceLE, Int.reduceEq, Int.reduceNeg, Int.reduceAdd, Int.reduceSub, reduceCtorEq]
          refine run_sound Try.func74 mixed 200 _ _ (by kernel_rfl) ?_
          simp only [go_sem, ↓reduceIte, Nat.reduceEqDiff, Nat.reduceLT, Nat.reduceLeDiff, Nat.reduceAdd, Nat.reduceMul, Nat.reduceSub, Int.reduceToNat, Int.reduceLT, Int.reduceLE, Int.reduceEq, Int.reduceNeg, Int.reduceAdd, Int.reduceSub, reduceCtorEq]
          repeat' (first
            | (exact ⟨_, B2, rfl, by simp [intsD_app]⟩)
            | (refine br_intro (fun hq => ?_) (fun hq => ?_) <;> (try simp only [decide_eq_true_eq, decide_eq_false_iff_not, bne_iff_ne, beq_iff_eq, beq_eq_false_iff_ne, bne_eq_false_iff_eq, Bool.not_eq_true, Bool.not_eq_false, ne_eq, Decidable.not_not, Int.not_lt, Int.not_le, Bool.not_eq_eq_eq_not, Bool.not_true, Bool.not_false, gt_iff_lt, ge_iff_le, Bool.and_eq_true, Bool.or_eq_true, Bool.or_eq_false_iff, Bool.and_eq_false_imp] at hq) <;> (try simp only [go_sem, ↓reduceIte, Nat.reduceEqDiff, Nat.reduceLT, Nat.reduceLeDiff, Nat.reduceAdd, Nat.reduceMul, Nat.reduceSub, Int.reduceToNat, Int.reduceLT, Int.reduceLE, Int.reduceEq, Int.reduceNeg, Int.reduceAdd, Int.reduceSub, reduceCtorEq, hq]))
            | (refine idx_intro (fun x hx => ?_) <;> (try simp only [go_sem, ↓reduceIte, Nat.reduceEqDiff, Nat.reduceLT, Nat.reduceLeDiff, Nat.reduceAdd, Nat.reduceMul, Nat.reduceSub, Int.reduceToNat, Int.reduceLT, Int.reduceLE, Int.reduceEq, Int.reduceNeg, Int.reduceAdd, Int.reduceSub, reduceCtorEq, hx]))
            | (simp (disch := omega) only [wrap_ok])
            | (refine ⟨by first | omega | assumption | (simp; done) | (simp; omega), ?_⟩ <;> (try simp only [go_sem, ↓reduceIte, Nat.reduceEqDiff, Nat.reduceLT, Nat.reduceLeDiff, Nat.reduceAdd, Nat.reduceMul, Nat.reduceSub, Int.reduceToNat, Int.reduceLT, Int.reduceLE, Int.reduceEq, Int.reduceNeg, Int.reduceAdd, Int.reduceSub, reduceCtorEq]))
            | assumption)
        · rw [if_neg hb] at hk1
          have hlb : (x.clsS.length : Int) ≤ (idx : Int) := by omega
          have hsub : (idx : Int) - (x.clsS.length : Int) = ((idx - x.clsS.length : Nat) : Int) := by omega
          have hwr : IntKind.i64.wrap ((idx - x.clsS.length : Nat) : Int) = ((idx - x.clsS.length : Nat) : Int) := wrap_ok (by omega) (by omega)
          refine run_sound Try.func74 mixed 200 _ _ (by kernel_rfl) ?_
          simp only [go_sem, ↓reduceIte, Nat.reduceEqDiff, Nat.reduceLT, Nat.reduceLeDiff, Nat.reduceAdd, Nat.reduceMul, Nat.reduceSub, Int.reduceToNat, Int.reduceLT, Int.reduceLE, Int.reduceEq, Int.reduceNeg, Int.reduceAdd, Int.reduceSub, reduceCtorEq, hkk, idx_of hx, hlb, hsub, hwr, hkw]
          repeat' (first
            | (refine br_intro (fun hq => ?_) (fun hq => ?_) <;> (try simp only [decide_eq_true_eq, decide_eq_false_iff_not, bne_iff_ne, beq_iff_eq, beq_eq_false_iff_ne, bne_eq_false_iff_eq, Bool.not_eq_true, Bool.not_eq_false, ne_eq, Decidable.not_not, Int.not_lt, Int.not_le, Bool.not_eq_eq_eq_not, Bool.not_true, Bool.not_false, gt_iff_lt, ge_iff_le, Bool.and_eq_true, Bool.or_eq_true, Bool.or_eq_false_iff, Bool.and_eq_false_imp] at hq) <;> (try simp only [go_sem, ↓reduceIte, Nat.reduceEqDiff, Nat.reduceLT, Nat.reduceLeDiff, Nat.reduceAdd, Nat.reduceMul, Nat.reduceSub, Int.reduceToNat, Int.reduceLT, Int.reduceLE, Int.reduceEq, Int.reduceNeg, Int.reduceAdd, Int.reduceSub, reduceCtorEq, hkk, idx_of hx, hlb, hsub, hwr, hkw, hq]))
            | (refine idx_intro (fun x hx => ?_) <;> (try simp only [go_sem, ↓reduceIte, Nat.reduceEqDiff, Nat.reduceLT, Nat.reduceLeDiff, Nat.reduceAdd, Nat.reduceMul, Nat.reduceSub, Int.reduceToNat, Int.reduceLT, Int.reduceLE, Int.reduceEq, Int.reduceNeg, Int.reduceAdd, Int.reduceSub, reduceCtorEq, hkk, idx_of hx, hlb, hsub, hwr, hkw, hx]))
            | (simp (disch := omega) only [wrap_ok])
            | (refine hlc.calls rfl ?_ <;> (try simp only [go_sem, ↓reduceIte, Nat.reduceEqDiff, Nat.reduceLT, Nat.reduceLeDiff, Nat.reduceAdd, Nat.reduceMul, Nat.reduceSub, Int.reduceToNat, Int.reduceLT, Int.reduceLE, Int.reduceEq, Int.reduceNeg, Int.reduceAdd, Int.reduceSub, reduceCtorEq, hkk, idx_of hx, hlb, hsub, hwr, hkw]))
            | (refine ⟨by first | omega | assumption | (simp; done) | (simp; omega), ?_⟩ <;> (try simp only [go_sem, ↓reduceIte, Nat.reduceEqDiff, Nat.reduceLT, Nat.reduceLeDiff, Nat.reduceAdd, Nat.reduceMul, Nat.reduceSub, Int.reduceToNat, Int.reduceLT, Int.reduceLE, Int.reduceEq, Int.reduceNeg, Int.reduceAdd, Int.reduceSub, reduceCtorEq, hkk, idx_of hx, hlb, hsub, hwr, hkw]))
            | assumption)
          refine hnext (k + 1, idx - x.clsS.length) _ ⟨by show k + 1 ≤ _; omega, hk1, by dsimp only; omega, by dsimp only; omega⟩ (by dsimp only; omega) (by refine ⟨by simp [mkS], by simp [mkS], by simp only [mkS, List.all_cons, List.all_nil, O.refsLt, C.refsLt, C.refsLt1, all_dmap]; first | done | rfl | (simp; done), ?_⟩; simp [mkS, Abs.get, C.refsLtT, C.refsLt, C.refsLt1])
      · simp only [if_neg h8, if_neg h7, List.append_nil]
        by_cases h9 : t.kind = 9
        · refine ACalls.enter (fn := Try.f74) Try.func74 rfl (by show 5 ≤ _; decide) ?_
          refine run_sound Try.func74 mixed 200 _ _ (by kernel_rfl) ?_
          simp only [go_sem, ↓reduceIte, Nat.reduceEqDiff, Nat.reduceLT, Nat.reduceLeDiff, Nat.reduceAdd, Nat.reduceMul, Nat.reduceSub, Int.reduceToNat, Int.reduceLT, Int.reduceLE, Int.reduceEq, Int.reduceNeg, Int.reduceAdd, Int.reduceSub, reduceCtorEq, h7, h8, h9, z0]
          repeat' (first
            | (exact ⟨_, _, rfl, rfl⟩)
            | (refine br_intro (fun hq => ?_) (fun hq => ?_) <;> (try simp only [decide_eq_true_eq, decide_eq_false_iff_not, bne_iff_ne, beq_iff_eq, beq_eq_false_iff_ne, bne_eq_false_iff_eq, Bool.not_eq_true, Bool.not_eq_false, ne_eq, Decidable.not_not, Int.not_lt, Int.not_le, Bool.not_eq_eq_eq_not, Bool.not_true, Bool.not_false, gt_iff_lt, ge_iff_le, Bool.and_eq_true, Bool.or_eq_true, Bool.or_eq_false_iff, Bool.and_eq_false_imp] at hq) <;> (try simp only [go_sem, ↓reduceIte, Nat.reduceEqDiff, Nat.reduceLT, Nat.reduceLeDiff, Nat.reduceAdd, Nat.reduceMul, Nat.reduceSub, Int.reduceToNat, Int.reduceLT, Int.reduceLE, Int.reduceEq, Int.reduceNeg, Int.reduceAdd, Int.reduceSub, reduceCtorEq, h7, h8, h9, z0, hq]))
            | (refine idx_intro (fun x hx => ?_) <;> (try simp only [go_sem, ↓reduceIte, Nat.reduceEqDiff, Nat.reduceLT, Nat.reduceLeDiff, Nat.reduceAdd, Nat.reduceMul, Nat.reduceSub, Int.reduceToNat, Int.reduceLT, Int.reduceLE, Int.reduceEq, Int.reduceNeg, Int.reduceAdd, Int.reduceSub, reduceCtorEq, h7, h8, h9, z0, hx]))
            | (simp (disch := omega) only [wrap_ok])
            | (refine ⟨by first | omega | assumption | (simp; done) | (simp; omega), ?_⟩ <;> (try simp only [go_sem, ↓reduceIte, Nat.reduceEqDiff, Nat.reduceLT, Nat.reduceLeDiff, Nat.reduceAdd, Nat.reduceMul, Nat.reduceSub, Int.reduceToNat, Int.reduceLT, Int.reduceLE, Int.reduceEq, Int.reduceNeg, Int.reduceAdd, Int.reduceSub, reduceCtorEq, h7, h8, h9, z0]))
            | assumption)
        · refine ACalls.enter (fn := Try.f74) Try.func74 rfl (by show 5 ≤ _; decide) ?_
          refine run_sound Try.func74 mixed 200 _ _ (by kernel_rfl) ?_
          simp only [go_sem, ↓reduceIte, Nat.reduceEqDiff, Nat.reduceLT, Nat.reduceLeDiff, Nat.reduceAdd, Nat.reduceMul, Nat.reduceSub, Int.reduceToNat, Int.reduceLT, Int.reduceLE, Int.reduceEq, Int.reduceNeg, Int.reduceAdd, Int.reduceSub, reduceCtorEq, h7, h8, h9]
          repeat' (first
            | (exact ⟨_, _, rfl, rfl⟩)
            | (refine br_intro (fun hq => ?_) (fun hq => ?_) <;> (try simp only [decide_eq_true_eq, decide_eq_false_iff_not, bne_iff_ne, beq_iff_eq, beq_eq_false_iff_ne, bne_eq_false_iff_eq, Bool.not_eq_true, Bool.not_eq_false, ne_eq, Decidable.not_not, Int.not_lt, Int.not_le, Bool.not_eq_eq_eq_not, Bool.not_true, Bool.not_false, gt_iff_lt, ge_iff_le, Bool.and_eq_true, Bool.or_eq_true, Bool.or_eq_false_iff, Bool.and_eq_false_imp] at hq) <;> (try simp only [go_sem, ↓reduceIte, Nat.reduceEqDiff, Nat.reduceLT, Nat.reduceLeDiff, Nat.reduceAdd, Nat.reduceMul, Nat.reduceSub, Int.reduceToNat, Int.reduceLT, Int.reduceLE, Int.reduceEq, Int.reduceNeg, Int.reduceAdd, Int.reduceSub, reduceCtorEq, h7, h8, h9, hq]))
            | (refine idx_intro (fun x hx => ?_) <;> (try simp only [go_sem, ↓reduceIte, Nat.reduceEqDiff, Nat.reduceLT, Nat.reduceLeDiff, Nat.reduceAdd, Nat.reduceMul, Nat.reduceSub, Int.reduceToNat, Int.reduceLT, Int.reduceLE, Int.reduceEq, Int.reduceNeg, Int.reduceAdd, Int.reduceSub, reduceCtorEq, h7, h8, h9, hx]))
            | (simp (disch := omega) only [wrap_ok])
            | (refine ⟨by first | omega | assumption | (simp; done) | (simp; omega), ?_⟩ <;> (try simp only [go_sem, ↓reduceIte, Nat.reduceEqDiff, Nat.reduceLT, Nat.reduceLeDiff, Nat.reduceAdd, Nat.reduceMul, Nat.reduceSub, Int.reduceToNat, Int.reduceLT, Int.reduceLE, Int.reduceEq, Int.reduceNeg, Int.reduceAdd, Int.reduceSub, reduceCtorEq, h7, h8, h9]))
            | assumption)

theorem sClauseChoices_fn (t : Gl) (i : Int) (hw : wtL t.enc ≤ 1048576) : Gives Try.prog 31 [.agg t.enc, .int .i64 i] (.tup [.d (.sl (intsD (ccV t i))), .d (.bool (ccB t i))]) := by
  have hmx : maxLen = 9223372036854775807 := rfl
  have hcw := Gl.cnt_le_wt t
  have hci := sClausesOf_fn t hw
  unfold ccV ccB
  by_cases hc : glOk t = true ∧ t.clsS.length ≤ 64 ∧ 0 ≤ i ∧ i < t.clsS.length
  · simp only [if_pos hc, decide_eq_true hc]
    obtain ⟨hok, hl, h0, h1⟩ := hc
    rw [if_pos ⟨hok, hl⟩] at hci
    obtain ⟨n, rfl⟩ : ∃ n : Nat, i = n := ⟨i.toNat, by omega⟩
    have hch := t.chI_len n
    have hx := l26Choices_T t hw n 0 [] (fun _ => False) (by omega) hl (by simp; omega)
    have hwr : IntKind.i64.wrap ((t.clsS.length : Int) - 1) = (t.clsS.length : Int) - 1 := wrap_ok (by omega) (by omega)
    have hin : ((n : Int) ≤ (t.clsS.length : Int) - 1) = True := by simp; omega
    refine ACalls.enter (fn := Try.f31) Try.func31 rfl (by show 2 ≤ _; decide) ?_
    refine run_sound Try.func31 mixed 10 _ _ (by kernel_rfl) ?_
    simp only [go_sem, ↓reduceIte, Nat.reduceEqDiff, Nat.reduceLT, Nat.reduceLeDiff, Nat.reduceAdd, Nat.reduceMul, Nat.reduceSub, Int.reduceToNat, Int.reduceLT, Int.reduceLE, Int.reduceEq, Int.reduceNeg, Int.reduceAdd, Int.reduceSub, reduceCtorEq, run.eq_1]
    repeat' (first
      | (refine br_intro (fun hq => ?_) (fun hq => ?_) <;> (try simp only [decide_eq_true_eq, decide_eq_false_iff_not, bne_iff_ne, beq_iff_eq, beq_eq_false_iff_ne, bne_eq_false_iff_eq, Bool.not_eq_true, Bool.not_eq_false, ne_eq, Decidable.not_not, Int.not_lt, Int.not_le, Bool.not_eq_eq_eq_not, Bool.not_true, Bool.not_false, gt_iff_lt, ge_iff_le, Bool.and_eq_true, Bool.or_eq_true, Bool.or_eq_false_iff, Bool.and_eq_false_imp] at hq) <;> (try simp only [go_sem, ↓reduceIte, Nat.reduceEqDiff, Nat.reduceLT, Nat.reduceLeDiff, Nat.reduceAdd, Nat.reduceMul, Nat.reduceSub, Int.reduceToNat, Int.reduceLT, Int.reduceLE, Int.reduceEq, Int.reduceNeg, Int.reduceAdd, Int.reduceSub, reduceCtorEq, clsR, Option.getD_some, Option.isSome_some, hwr, hin, run.eq_1, hq]))
      | (refine idx_intro (fun x hx => ?_) <;> (try simp only [go_sem, ↓reduceIte, Nat.reduceEqDiff, Nat.reduceLT, Nat.reduceLeDiff, Nat.reduceAdd, Nat.reduceMul, Nat.reduceSub, Int.reduceToNat, Int.reduceLT, Int.reduceLE, Int.reduceEq, Int.reduceNeg, Int.reduceAdd, Int.reduceSub, reduceCtorEq, clsR, Option.getD_some, Option.isSome_some, hwr, hin, run.eq_1, hx]))
      | (simp (disch := omega) only [wrap_ok])
      | (refine hci.calls rfl ?_ <;> (try simp only [go_sem, ↓reduceIte, Nat.reduceEqDiff, Nat.reduceLT, Nat.reduceLeDiff, Nat.reduceAdd, Nat.reduceMul, Nat.reduceSub, Int.reduceToNat, Int.reduceLT, Int.reduceLE, Int.reduceEq, Int.reduceNeg, Int.reduceAdd, Int.reduceSub, reduceCtorEq, clsR, Option.getD_some, Option.isSome_some, hwr, hin, run.eq_1]))
      | (refine (l01In_fn _ _ _).calls rfl ?_ <;> (try simp only [go_sem, ↓reduceIte, Nat.reduceEqDiff, Nat.reduceLT, Nat.reduceLeDiff, Nat.reduceAdd, Nat.reduceMul, Nat.reduceSub, Int.reduceToNat, Int.reduceLT, Int.reduceLE, Int.reduceEq, Int.reduceNeg, Int.reduceAdd, Int.reduceSub, reduceCtorEq, clsR, Option.getD_some, Option.isSome_some, hwr, hin, run.eq_1]))
      | (refine (l01In_fn _ _ _).callQ rfl ?_ <;> (try simp only [go_sem, ↓reduceIte, Nat.reduceEqDiff, Nat.reduceLT, Nat.reduceLeDiff, Nat.reduceAdd, Nat.reduceMul, Nat.reduceSub, Int.reduceToNat, Int.reduceLT, Int.reduceLE, Int.reduceEq, Int.reduceNeg, Int.reduceAdd, Int.reduceSub, reduceCtorEq, clsR, Option.getD_some, Option.isSome_some, hwr, hin, run.eq_1]))
      | (refine ⟨by first | omega | assumption | (simp; done) | (simp; omega), ?_⟩ <;> (try simp only [go_sem, ↓reduceIte, Nat.reduceEqDiff, Nat.reduceLT, Nat.reduceLeDiff, Nat.reduceAdd, Nat.reduceMul, Nat.reduceSub, Int.reduceToNat, Int.reduceLT, Int.reduceLE, Int.reduceEq, Int.reduceNeg, Int.reduceAdd, Int.reduceSub, reduceCtorEq, clsR, Option.getD_some, Option.isSome_some, hwr, hin, run.eq_1]))
      | assumption)
    refine AW.regT ?_
    simp only [go_sem, ↓reduceIte, Nat.reduceEqDiff, Nat.reduceLT, Nat.reduceLeDiff, Nat.reduceAdd, Nat.reduceMul, Nat.reduceSub, Int.reduceToNat, Int.reduceLT, Int.reduceLE, Int.reduceEq, Int.reduceNeg, Int.reduceAdd, Int.reduceSub, reduceCtorEq]
    refine ACalls.nilArg (pre := [.d (.agg [.sl []]), .d (.agg t.enc), .d (.int .i64 n)]) (post := [.nil0]) ?_
    refine ACalls.nilLastC (ds := [.agg [.sl []], .agg t.enc, .int .i64 n, .sl []]) (z := 1) (by decide) hx (r := .tup [.d (.sl (intsD (t.chI n))), .d (.sl [])]) ?_ ?_
    · rintro c H' ⟨q', B', rfl, rfl⟩
      simp [frz, frzs, bor, bor1]
    · simp only [go_sem, ↓reduceIte, Nat.reduceEqDiff, Nat.reduceLT, Nat.reduceLeDiff, Nat.reduceAdd, Nat.reduceMul, Nat.reduceSub, Int.reduceToNat, Int.reduceLT, Int.reduceLE, Int.reduceEq, Int.reduceNeg, Int.reduceAdd, Int.reduceSub, reduceCtorEq]
      refine run_sound Try.func31 mixed 200 _ _ (by kernel_rfl) ?_
      simp only [go_sem, ↓reduceIte, Nat.reduceEqDiff, Nat.reduceLT, Nat.reduceLeDiff, Nat.reduceAdd, Nat.reduceMul, Nat.reduceSub, Int.reduceToNat, Int.reduceLT, Int.reduceLE, Int.reduceEq, Int.reduceNeg, Int.reduceAdd, Int.reduceSub, reduceCtorEq, intsD_ln]
      repeat' (first
        | (refine br_intro (fun hq => ?_) (fun hq => ?_) <;> (try simp only [decide_eq_true_eq, decide_eq_false_iff_not, bne_iff_ne, beq_iff_eq, beq_eq_false_iff_ne, bne_eq_false_iff_eq, Bool.not_eq_true, Bool.not_eq_false, ne_eq, Decidable.not_not, Int.not_lt, Int.not_le, Bool.not_eq_eq_eq_not, Bool.not_true, Bool.not_false, gt_iff_lt, ge_iff_le, Bool.and_eq_true, Bool.or_eq_true, Bool.or_eq_false_iff, Bool.and_eq_false_imp] at hq) <;> (try simp only [go_sem, ↓reduceIte, Nat.reduceEqDiff, Nat.reduceLT, Nat.reduceLeDiff, Nat.reduceAdd, Nat.reduceMul, Nat.reduceSub, Int.reduceToNat, Int.reduceLT, Int.reduceLE, Int.reduceEq, Int.reduceNeg, Int.reduceAdd, Int.reduceSub, reduceCtorEq, intsD_ln, hq]))
        | (refine idx_intro (fun x hx => ?_) <;> (try simp only [go_sem, ↓reduceIte, Nat.reduceEqDiff, Nat.reduceLT, Nat.reduceLeDiff, Nat.reduceAdd, Nat.reduceMul, Nat.reduceSub, Int.reduceToNat, Int.reduceLT, Int.reduceLE, Int.reduceEq, Int.reduceNeg, Int.reduceAdd, Int.reduceSub, reduceCtorEq, intsD_ln, hx]))
        | (simp (disch := omega) only [wrap_ok])
        | (refine (l01In_fn _ _ _).calls rfl ?_ <;> (try simp only [go_sem, ↓reduceIte, Nat.reduceEqDiff, Nat.reduceLT, Nat.reduceLeDiff, Nat.reduceAdd, Nat.reduceMul, Nat.reduceSub, Int.reduceToNat, Int.reduceLT, Int.reduceLE, Int.reduceEq, Int.reduceNeg, Int.reduceAdd, Int.reduceSub, reduceCtorEq, intsD_ln]))
        | (refine (l01In_fn _ _ _).callQ rfl ?_ <;> (try simp only [go_sem, ↓reduceIte, Nat.reduceEqDiff, Nat.reduceLT, Nat.reduceLeDiff, Nat.reduceAdd, Nat.reduceMul, Nat.reduceSub, Int.reduceToNat, Int.reduceLT, Int.reduceLE, Int.reduceEq, Int.reduceNeg, Int.reduceAdd, Int.reduceSub, reduceCtorEq, intsD_ln]))
        | (refine ⟨by first | omega | assumption | (simp; done) | (simp; omega), ?_⟩ <;> (try simp only [go_sem, ↓reduceIte, Nat.reduceEqDiff, Nat.reduceLT, Nat.reduceLeDiff, Nat.reduceAdd, Nat.reduceMul, Nat.reduceSub, Int.reduceToNat, Int.reduceLT, Int.reduceLE, Int.reduceEq, Int.reduceNeg, Int.reduceAdd, Int.reduceSub, reduceCtorEq, intsD_ln]))
        | assumption)
      all_goals first | omega | rfl
  · simp only [if_neg hc, decide_eq_false hc]
    by_cases hc2 : glOk t = true ∧ t.clsS.length ≤ 64
    · rw [if_pos hc2] at hci
      have hwr : IntKind.i64.wrap ((t.clsS.length : Int) - 1) = (t.clsS.length : Int) - 1 := wrap_ok (by have := hc2.2; omega) (by have := hc2.2; omega)
      refine ACalls.enter (fn := Try.f31) Try.func31 rfl (by show 2 ≤ _; decide) ?_
      refine run_sound Try.func31 mixed 200 _ _ (by kernel_rfl) ?_
      simp only [go_sem, ↓reduceIte, Nat.reduceEqDiff, Nat.reduceLT, Nat.reduceLeDiff, Nat.reduceAdd, Nat.reduceMul, Nat.reduceSub, Int.reduceToNat, Int.reduceLT, Int.reduceLE, Int.reduceEq, Int.reduceNeg, Int.reduceAdd, Int.reduceSub, reduceCtorEq]
      repeat' (first
        | (refine br_intro (fun hq => ?_) (fun hq => ?_) <;> (try simp only [decide_eq_true_eq, decide_eq_false_iff_not, bne_iff_ne, beq_iff_eq, beq_eq_false_iff_ne, bne_eq_false_iff_eq, Bool.not_eq_true, Bool.not_eq_false, ne_eq, Decidable.not_not, Int.not_lt, Int.not_le, Bool.not_eq_eq_eq_not, Bool.not_true, Bool.not_false, gt_iff_lt, ge_iff_le, Bool.and_eq_true, Bool.or_eq_true, Bool.or_eq_false_iff, Bool.and_eq_false_imp] at hq) <;> (try simp only [go_sem, ↓reduceIte, Nat.reduceEqDiff, Nat.reduceLT, Nat.reduceLeDiff, Nat.reduceAdd, Nat.reduceMul, Nat.reduceSub, Int.reduceToNat, Int.reduceLT, Int.reduceLE, Int.reduceEq, Int.reduceNeg, Int.reduceAdd, Int.reduceSub, reduceCtorEq, clsR, Option.getD_some, Option.isSome_some, hwr, hq]))
        | (refine idx_intro (fun x hx => ?_) <;> (try simp only [go_sem, ↓reduceIte, Nat.reduceEqDiff, Nat.reduceLT, Nat.reduceLeDiff, Nat.reduceAdd, Nat.reduceMul, Nat.reduceSub, Int.reduceToNat, Int.reduceLT, Int.reduceLE, Int.reduceEq, Int.reduceNeg, Int.reduceAdd, Int.reduceSub, reduceCtorEq, clsR, Option.getD_some, Option.isSome_some, hwr, hx]))
        | (simp (disch := omega) only [wrap_ok])
        | (refine hci.calls rfl ?_ <;> (try simp only [go_sem, ↓reduceIte, Nat.reduceEqDiff, Nat.reduceLT, Nat.reduceLeDiff, Nat.reduceAdd, Nat.reduceMul, Nat.reduceSub, Int.reduceToNat, Int.reduceLT, Int.reduceLE, Int.reduceEq, Int.reduceNeg, Int.reduceAdd, Int.reduceSub, reduceCtorEq, clsR, Option.getD_some, Option.isSome_some, hwr]))
        | (refine (l01In_fn _ _ _).calls rfl ?_ <;> (try simp only [go_sem, ↓reduceIte, Nat.reduceEqDiff, Nat.reduceLT, Nat.reduceLeDiff, Nat.reduceAdd, Nat.reduceMul, Nat.reduceSub, Int.reduceToNat, Int.reduceLT, Int.reduceLE, Int.reduceEq, Int.reduceNeg, Int.reduceAdd, Int.reduceSub, reduceCtorEq, clsR, Option.getD_some, Option.isSome_some, hwr]))
        | (refine (l01In_fn _ _ _).callQ rfl ?_ <;> (try simp only [go_sem, ↓reduceIte, Nat.reduceEqDiff, Nat.reduceLT, Nat.reduceLeDiff, Nat.reduceAdd, Nat.reduceMul, Nat.reduceSub, Int.reduceToNat, Int.reduceLT, Int.reduceLE, Int.reduceEq, Int.reduceNeg, Int.reduceAdd, Int.reduceSub, reduceCtorEq, clsR, Option.getD_some, Option.isSome_some, hwr]))
        | (refine ⟨by first | omega | assumption | (simp; done) | (simp; omega), ?_⟩ <;> (try simp only [go_sem, ↓reduceIte, Nat.reduceEqDiff, Nat.reduceLT, Nat.reduceLeDiff, Nat.reduceAdd, Nat.reduceMul, Nat.reduceSub, Int.reduceToNat, Int.reduceLT, Int.reduceLE, Int.reduceEq, Int.reduceNeg, Int.reduceAdd, Int.reduceSub, reduceCtorEq, clsR, Option.getD_some, Option.isSome_some, hwr]))
        | assumption)
      all_goals first | rfl | exact absurd ⟨hc2.1, hc2.2, by omega, by omega⟩ hc
    · rw [if_neg hc2] at hci
      refine ACalls.enter (fn := Try.f31) Try.func31 rfl (by show 2 ≤ _; decide) ?_
      refine run_sound Try.func31 mixed 200 _ _ (by kernel_rfl) ?_
      simp only [go_sem, ↓reduceIte, Nat.reduceEqDiff, Nat.reduceLT, Nat.reduceLeDiff, Nat.reduceAdd, Nat.reduceMul, Nat.reduceSub, Int.reduceToNat, Int.reduceLT, Int.reduceLE, Int.reduceEq, Int.reduceNeg, Int.reduceAdd, Int.reduceSub, reduceCtorEq]
      repeat' (first
        | (refine br_intro (fun hq => ?_) (fun hq => ?_) <;> (try simp only [decide_eq_true_eq, decide_eq_false_iff_not, bne_iff_ne, beq_iff_eq, beq_eq_false_iff_ne, bne_eq_false_iff_eq, Bool.not_eq_true, Bool.not_eq_false, ne_eq, Decidable.not_not, Int.not_lt, Int.not_le, Bool.not_eq_eq_eq_not, Bool.not_true, Bool.not_false, gt_iff_lt, ge_iff_le, Bool.and_eq_true, Bool.or_eq_true, Bool.or_eq_false_iff, Bool.and_eq_false_imp] at hq) <;> (try simp only [go_sem, ↓reduceIte, Nat.reduceEqDiff, Nat.reduceLT, Nat.reduceLeDiff, Nat.reduceAdd, Nat.reduceMul, Nat.reduceSub, Int.reduceToNat, Int.reduceLT, Int.reduceLE, Int.reduceEq, Int.reduceNeg, Int.reduceAdd, Int.reduceSub, reduceCtorEq, clsR, Option.getD_none, Option.isSome_none, hq]))
        | (refine idx_intro (fun x hx => ?_) <;> (try simp only [go_sem, ↓reduceIte, Nat.reduceEqDiff, Nat.reduceLT, Nat.reduceLeDiff, Nat.reduceAdd, Nat.reduceMul, Nat.reduceSub, Int.reduceToNat, Int.reduceLT, Int.reduceLE, Int.reduceEq, Int.reduceNeg, Int.reduceAdd, Int.reduceSub, reduceCtorEq, clsR, Option.getD_none, Option.isSome_none, hx]))
        | (simp (disch := omega) only [wrap_ok])
        | (refine hci.calls rfl ?_ <;> (try simp only [go_sem, ↓reduceIte, Nat.reduceEqDiff, Nat.reduceLT, Nat.reduceLeDiff, Nat.reduceAdd, Nat.reduceMul, Nat.reduceSub, Int.reduceToNat, Int.reduceLT, Int.reduceLE, Int.reduceEq, Int.reduceNeg, Int.reduceAdd, Int.reduceSub, reduceCtorEq, clsR, Option.getD_none, Option.isSome_none]))
        | (refine (l01In_fn _ _ _).calls rfl ?_ <;> (try simp only [go_sem, ↓reduceIte, Nat.reduceEqDiff, Nat.reduceLT, Nat.reduceLeDiff, Nat.reduceAdd, Nat.reduceMul, Nat.reduceSub, Int.reduceToNat, Int.reduceLT, Int.reduceLE, Int.reduceEq, Int.reduceNeg, Int.reduceAdd, Int.reduceSub, reduceCtorEq, clsR, Option.getD_none, Option.isSome_none]))
        | (refine (l01In_fn _ _ _).callQ rfl ?_ <;> (try simp only [go_sem, ↓reduceIte, Nat.reduceEqDiff, Nat.reduceLT, Nat.reduceLeDiff, Nat.reduceAdd, Nat.reduceMul, Nat.reduceSub, Int.reduceToNat, Int.reduceLT, Int.reduceLE, Int.reduceEq, Int.reduceNeg, Int.reduceAdd, Int.reduceSub, reduceCtorEq, clsR, Option.getD_none, Option.isSome_none]))
        | (refine ⟨by first | omega | assumption | (simp; done) | (simp; omega), ?_⟩ <;> (try simp only [go_sem, ↓reduceIte, Nat.reduceEqDiff, Nat.reduceLT, Nat.reduceLeDiff, Nat.reduceAdd, Nat.reduceMul, Nat.reduceSub, Int.reduceToNat, Int.reduceLT, Int.reduceLE, Int.reduceEq, Int.reduceNeg, Int.reduceAdd, Int.reduceSub, reduceCtorEq, clsR, Option.getD_none, Option.isSome_none]))
        | assumption)
      all_goals rfl
end Go.Proofs.Ytljdpohdfnileaa

