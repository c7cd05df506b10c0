/- Marks of lists of lists of goals; marks found again. -/
import Derived.Test.YtljdpohdfnileaaW11
import Derived.Test.YtljdpohdfnileaaA7
import Derived.Test.YtljdpohdfnileaaP3
namespace Go.Proofs.Ytljdpohdfnileaa
open Go.Abs
set_option maxRecDepth 100000
set_option maxHeartbeats 4000000
set_option linter.unusedSimpArgs false
set_option linter.unusedVariables false

/-- The marks of a list of terms are found again. -/
def hTT (l : List Tm) : Prop := ∀ k : Int, 0 ≤ k → k + Tm.mcnts l ≤ 1000000000 → Gives Try.prog 68 [.sl ((Tm.mrks k l).map Tm.enc), .int .i64 k] (.d (.int .i64 (k + Tm.mcnts l)))
theorem heldTermS_T (l : List Tm) (ih : ∀ x, x ∈ l → hTT x.args) : hTT l := by
  intro k h0 h1
  have hml := Tm.mrks_len l k
  have hlm := Tm.len_mcnts l
  refine ACalls.enter (fn := Try.f68) Try.func68 rfl (by show 2 ≤ _; decide) ?_
  refine run_sound Try.func68 mixed 200 _ _ (by kernel_rfl) ?_
  simp only [go_sem, ↓reduceIte, Nat.reduceEqDiff, Nat.reduceLT, Nat.reduceLeDiff, Nat.reduceAdd, Nat.reduceMul, Nat.reduceSub, Int.reduceToNat, Int.reduceLT, Int.reduceLE, Int.reduceEq, Int.reduceNeg, Int.reduceAdd, Int.reduceSub, reduceCtorEq]
  refine AW.lp [0] (fun i : Nat => [(5, .d (.int .i64 i)), (1, .d (.int .i64 (k + Tm.mcnts (l.take i))))]) (fun H _ => H) (fun i => i ≤ l.length) (fun i => l.length - i) 0 (Nat.zero_le _) (by refine ⟨by simp [mkS], by simp [mkS], by simp [mkS, O.refsLt], ?_⟩; simp [mkS, Abs.get, C.refsLtT, C.refsLt, C.refsLt1, Tm.mcnts]) ?_
  intro i hi hnext
  by_cases h : i < l.length
  · have hlt : (i : Int) < (l.length : Int) := by omega
    have hxi : l[i]? = some l[i] := List.getElem?_eq_getElem h
    have hix := ih l[i] (List.getElem_mem _)
    have hat := Tm.mrks_at l k i _ hxi
    have hnxt : l.take (i + 1) = l.take i ++ [l[i]] := by rw [List.take_add_one, List.getElem?_eq_getElem h]; rfl
    have hcn : Tm.mcnts (l.take (i + 1)) = Tm.mcnts (l.take i) + l[i].mcnt := by rw [hnxt, Tm.mcnts_app]; simp [Tm.mcnts]
    have hcl : Tm.mcnts l = Tm.mcnts (l.take i) + (l[i].mcnt + Tm.mcnts (l.drop (i + 1))) := by
      conv => lhs; rw [← List.take_append_drop i l, List.drop_eq_getElem_cons h, Tm.mcnts_app]
      simp [Tm.mcnts]
    have hmc := Tm.mcnt_eq l[i]
    have hnx := fun s' => hnext (i + 1) s' h (by omega)
    clear hnext
    simp only [hcn] at hnx
    generalize hx : l[i] = x at *
    generalize hk : k + (Tm.mcnts (l.take i) : Int) = kk at *
    generalize hy : x.mrk kk = y at *
    have e2 : kk + 1 + 1 = kk + 2 := by omega
    have e3 : kk + 1 + 1 + 1 = kk + 3 := by omega
    have ye : y.kind = kk ∧ y.int = kk + 1 ∧ y.name = mText (kk + 1 + 1) ∧ y.args = Tm.mrks (kk + 1 + 1 + 1) x.args := by
      rw [← hy, Tm.mrk_eq, e3, e2]; exact ⟨rfl, rfl, rfl, rfl⟩
    have hrec := hix (kk + 1 + 1 + 1) (by omega) (by omega)
    have w1 : IntKind.i64.wrap (kk + 1) = kk + 1 := wrap_ok (by omega) (by omega)
    have w2 : IntKind.i64.wrap (kk + 1 + 1) = kk + 1 + 1 := wrap_ok (by omega) (by omega)
    have w3 : IntKind.i64.wrap (kk + 1 + 1 + 1) = kk + 1 + 1 + 1 := wrap_ok (by omega) (by omega)
    refine run_sound Try.func68 mixed 200 _ _ (by kernel_rfl) ?_
    simp only [go_sem, ↓reduceIte, Nat.reduceEqDiff, Nat.reduceLT, Nat.reduceLeDiff, Nat.reduceAdd, Nat.reduceMul, Nat.reduceSub, Int.reduceToNat, Int.reduceLT, Int.reduceLE, Int.reduceEq, Int.reduceNeg, Int.reduceAdd, Int.reduceSub, reduceCtorEq, hlt, hml, idx_of hat, ye.1, ye.2.1, ye.2.2.1, ye.2.2.2, w1, w2, w3]
    repeat' (first
      | (refine br_intro (fun hq => ?_) (fun hq => ?_) <;> (try simp only [decide_eq_true_eq, decide_eq_false_iff_not, bne_iff_ne, beq_iff_eq, beq_eq_false_iff_ne, bne_eq_false_iff_eq, Bool.not_eq_true, Bool.not_eq_false, ne_eq, Decidable.not_not, Int.not_lt, Int.not_le, Bool.not_eq_eq_eq_not, Bool.not_true, Bool.not_false, gt_iff_lt, ge_iff_le, Bool.and_eq_true, Bool.or_eq_true, Bool.or_eq_false_iff, Bool.and_eq_false_imp] at hq) <;> (try simp only [go_sem, ↓reduceIte, Nat.reduceEqDiff, Nat.reduceLT, Nat.reduceLeDiff, Nat.reduceAdd, Nat.reduceMul, Nat.reduceSub, Int.reduceToNat, Int.reduceLT, Int.reduceLE, Int.reduceEq, Int.reduceNeg, Int.reduceAdd, Int.reduceSub, reduceCtorEq, hlt, hml, idx_of hat, ye.1, ye.2.1, ye.2.2.1, ye.2.2.2, w1, w2, w3, hq]))
      | (refine idx_intro (fun x hx => ?_) <;> (try simp only [go_sem, ↓reduceIte, Nat.reduceEqDiff, Nat.reduceLT, Nat.reduceLeDiff, Nat.reduceAdd, Nat.reduceMul, Nat.reduceSub, Int.reduceToNat, Int.reduceLT, Int.reduceLE, Int.reduceEq, Int.reduceNeg, Int.reduceAdd, Int.reduceSub, reduceCtorEq, hlt, hml, idx_of hat, ye.1, ye.2.1, ye.2.2.1, ye.2.2.2, w1, w2, w3, hx]))
      | (simp (disch := omega) only [wrap_ok])
      | (refine hrec.calls rfl ?_ <;> (try simp only [go_sem, ↓reduceIte, Nat.reduceEqDiff, Nat.reduceLT, Nat.reduceLeDiff, Nat.reduceAdd, Nat.reduceMul, Nat.reduceSub, Int.reduceToNat, Int.reduceLT, Int.reduceLE, Int.reduceEq, Int.reduceNeg, Int.reduceAdd, Int.reduceSub, reduceCtorEq, hlt, hml, idx_of hat, ye.1, ye.2.1, ye.2.2.1, ye.2.2.2, w1, w2, w3]))
      | (refine (markText_fn _ (by first | omega | assumption | (simp; done) | (simp; omega)) (by first | omega | assumption | (simp; done) | (simp; omega))).calls rfl ?_ <;> (try simp only [go_sem, ↓reduceIte, Nat.reduceEqDiff, Nat.reduceLT, Nat.reduceLeDiff, Nat.reduceAdd, Nat.reduceMul, Nat.reduceSub, Int.reduceToNat, Int.reduceLT, Int.reduceLE, Int.reduceEq, Int.reduceNeg, Int.reduceAdd, Int.reduceSub, reduceCtorEq, hlt, hml, idx_of hat, ye.1, ye.2.1, ye.2.2.1, ye.2.2.2, w1, w2, w3]))
      | (refine (markText_fn _ (by first | omega | assumption | (simp; done) | (simp; omega)) (by first | omega | assumption | (simp; done) | (simp; omega))).callQ rfl ?_ <;> (try simp only [go_sem, ↓reduceIte, Nat.reduceEqDiff, Nat.reduceLT, Nat.reduceLeDiff, Nat.reduceAdd, Nat.reduceMul, Nat.reduceSub, Int.reduceToNat, Int.reduceLT, Int.reduceLE, Int.reduceEq, Int.reduceNeg, Int.reduceAdd, Int.reduceSub, reduceCtorEq, hlt, hml, idx_of hat, ye.1, ye.2.1, ye.2.2.1, ye.2.2.2, w1, w2, w3]))
      | (refine ⟨by first | omega | assumption | (simp; done) | (simp; omega), ?_⟩ <;> (try simp only [go_sem, ↓reduceIte, Nat.reduceEqDiff, Nat.reduceLT, Nat.reduceLeDiff, Nat.reduceAdd, Nat.reduceMul, Nat.reduceSub, Int.reduceToNat, Int.reduceLT, Int.reduceLE, Int.reduceEq, Int.reduceNeg, Int.reduceAdd, Int.reduceSub, reduceCtorEq, hlt, hml, idx_of hat, ye.1, ye.2.1, ye.2.2.1, ye.2.2.2, w1, w2, w3]))
      | assumption)
    all_goals first | (exfalso; omega) | skip
    refine hnx _ ?_
    refine ⟨by simp [mkS], by simp [mkS], by simp [mkS, O.refsLt], ?_⟩; simp [mkS, Abs.get, C.refsLtT, C.refsLt, C.refsLt1]; omega
  · obtain rfl : i = l.length := by omega
    refine run_sound Try.func68 mixed 200 _ _ (by kernel_rfl) ?_
    simp only [go_sem, ↓reduceIte, Nat.reduceEqDiff, Nat.reduceLT, Nat.reduceLeDiff, Nat.reduceAdd, Nat.reduceMul, Nat.reduceSub, Int.reduceToNat, Int.reduceLT, Int.reduceLE, Int.reduceEq, Int.reduceNeg, Int.reduceAdd, Int.reduceSub, reduceCtorEq, hml, List.take_length]
    repeat' (first
      | (refine br_intro (fun hq => ?_) (fun hq => ?_) <;> (try simp only [decide_eq_true_eq, decide_eq_false_iff_not, bne_iff_ne, beq_iff_eq, beq_eq_false_iff_ne, bne_eq_false_iff_eq, Bool.not_eq_true, Bool.not_eq_false, ne_eq, Decidable.not_not, Int.not_lt, Int.not_le, Bool.not_eq_eq_eq_not, Bool.not_true, Bool.not_false, gt_iff_lt, ge_iff_le, Bool.and_eq_true, Bool.or_eq_true, Bool.or_eq_false_iff, Bool.and_eq_false_imp] at hq) <;> (try simp only [go_sem, ↓reduceIte, Nat.reduceEqDiff, Nat.reduceLT, Nat.reduceLeDiff, Nat.reduceAdd, Nat.reduceMul, Nat.reduceSub, Int.reduceToNat, Int.reduceLT, Int.reduceLE, Int.reduceEq, Int.reduceNeg, Int.reduceAdd, Int.reduceSub, reduceCtorEq, hml, List.take_length, hq]))
      | (refine idx_intro (fun x hx => ?_) <;> (try simp only [go_sem, ↓reduceIte, Nat.reduceEqDiff, Nat.reduceLT, Nat.reduceLeDiff, Nat.reduceAdd, Nat.reduceMul, Nat.reduceSub, Int.reduceToNat, Int.reduceLT, Int.reduceLE, Int.reduceEq, Int.reduceNeg, Int.reduceAdd, Int.reduceSub, reduceCtorEq, hml, List.take_length, hx]))
      | (simp (disch := omega) only [wrap_ok])
      | (refine (markText_fn _ (by first | omega | assumption | (simp; done) | (simp; omega)) (by first | omega | assumption | (simp; done) | (simp; omega))).calls rfl ?_ <;> (try simp only [go_sem, ↓reduceIte, Nat.reduceEqDiff, Nat.reduceLT, Nat.reduceLeDiff, Nat.reduceAdd, Nat.reduceMul, Nat.reduceSub, Int.reduceToNat, Int.reduceLT, Int.reduceLE, Int.reduceEq, Int.reduceNeg, Int.reduceAdd, Int.reduceSub, reduceCtorEq, hml, List.take_length]))
      | (refine (markText_fn _ (by first | omega | assumption | (simp; done) | (simp; omega)) (by first | omega | assumption | (simp; done) | (simp; omega))).callQ rfl ?_ <;> (try simp only [go_sem, ↓reduceIte, Nat.reduceEqDiff, Nat.reduceLT, Nat.reduceLeDiff, Nat.reduceAdd, Nat.reduceMul, Nat.reduceSub, Int.reduceToNat, Int.reduceLT, Int.reduceLE, Int.reduceEq, Int.reduceNeg, Int.reduceAdd, Int.reduceSub, reduceCtorEq, hml, List.take_length]))
      | (refine ⟨by first | omega | assumption | (simp; done) | (simp; omega), ?_⟩ <;> (try simp only [go_sem, ↓reduceIte, Nat.reduceEqDiff, Nat.reduceLT, Nat.reduceLeDiff, Nat.reduceAdd, Nat.reduceMul, Nat.reduceSub, Int.reduceToNat, Int.reduceLT, Int.reduceLE, Int.reduceEq, Int.reduceNeg, Int.reduceAdd, Int.reduceSub, reduceCtorEq, hml, List.take_length]))
      | assumption)
theorem hTT_args : ∀ t : Tm, hTT t.args := by
  intro t
  induction t using Tm.ind' with
  | h t ih => exact heldTermS_T t.args ih
theorem hTT_all (l : List Tm) : hTT l := heldTermS_T l (fun x _ => hTT_args x)

/-- The marks of a list of goals are found again. -/
def hGT (l : List Gl) : Prop := ∀ k : Int, 0 ≤ k → k + Gl.mcnts l ≤ 1000000000 → Gives Try.prog 69 [.sl ((Gl.mrks k l).map Gl.enc), .int .i64 k] (.d (.int .i64 (k + Gl.mcnts l)))
theorem heldGoalS_T (l : List Gl) (ih : ∀ x, x ∈ l → hGT x.goals) : hGT l := by
  intro k h0 h1
  have hml := Gl.mrks_len l k
  have hlm := Gl.len_mcnts l
  refine ACalls.enter (fn := Try.f69) Try.func69 rfl (by show 2 ≤ _; decide) ?_
  refine run_sound Try.func69 mixed 200 _ _ (by kernel_rfl) ?_
  simp only [go_sem, ↓reduceIte, Nat.reduceEqDiff, Nat.reduceLT, Nat.reduceLeDiff, Nat.reduceAdd, Nat.reduceMul, Nat.reduceSub, Int.reduceToNat, Int.reduceLT, Int.reduceLE, Int.reduceEq, Int.reduceNeg, Int.reduceAdd, Int.reduceSub, reduceCtorEq]
  refine AW.lp [0] (fun i : Nat => [(5, .d (.int .i64 i)), (1, .d (.int .i64 (k + Gl.mcnts (l.take i))))]) (fun H _ => H) (fun i => i ≤ l.length) (fun i => l.length - i) 0 (Nat.zero_le _) (by refine ⟨by simp [mkS], by simp [mkS], by simp [mkS, O.refsLt], ?_⟩; simp [mkS, Abs.get, C.refsLtT, C.refsLt, C.refsLt1, Gl.mcnts]) ?_
  intro i hi hnext
  by_cases h : i < l.length
  · have hlt : (i : Int) < (l.length : Int) := by omega
    have hxi : l[i]? = some l[i] := List.getElem?_eq_getElem h
    have hix := ih l[i] (List.getElem_mem _)
    have hat := Gl.mrks_at l k i _ hxi
    have hnxt : l.take (i + 1) = l.take i ++ [l[i]] := by rw [List.take_add_one, List.getElem?_eq_getElem h]; rfl
    have hcn : Gl.mcnts (l.take (i + 1)) = Gl.mcnts (l.take i) + l[i].mcnt := by rw [hnxt, Gl.mcnts_app]; simp [Gl.mcnts]
    have hcl : Gl.mcnts l = Gl.mcnts (l.take i) + (l[i].mcnt + Gl.mcnts (l.drop (i + 1))) := by
      conv => lhs; rw [← List.take_append_drop i l, List.drop_eq_getElem_cons h, Gl.mcnts_app]
      simp [Gl.mcnts]
    have hmc := Gl.mcnt_eq l[i]
    have hnx := fun s' => hnext (i + 1) s' h (by omega)
    clear hnext
    simp only [hcn] at hnx
    generalize hx : l[i] = x at *
    generalize hk : k + (Gl.mcnts (l.take i) : Int) = kk at *
    generalize hy : x.mrk kk = y at *
    have e2 : kk + 1 + 1 = kk + 2 := by omega
    have ye : y.kind = kk ∧ y.name = mText (kk + 1) ∧ y.terms = Tm.mrks (kk + 1 + 1) x.terms ∧ y.goals = Gl.mrks (kk + 1 + 1 + Tm.mcnts x.terms) x.goals := by
      rw [← hy, Gl.mrk_eq, e2]; exact ⟨rfl, rfl, rfl, rfl⟩
    have hre1 := hTT_all x.terms (kk + 1 + 1) (by omega) (by omega)
    have hre2 := hix (kk + 1 + 1 + Tm.mcnts x.terms) (by omega) (by omega)
    have w1 : IntKind.i64.wrap (kk + 1) = kk + 1 := wrap_ok (by omega) (by omega)
    have w2 : IntKind.i64.wrap (kk + 1 + 1) = kk + 1 + 1 := wrap_ok (by omega) (by omega)
    refine run_sound Try.func69 mixed 200 _ _ (by kernel_rfl) ?_
    simp only [go_sem, ↓reduceIte, Nat.reduceEqDiff, Nat.reduceLT, Nat.reduceLeDiff, Nat.reduceAdd, Nat.reduceMul, Nat.reduceSub, Int.reduceToNat, Int.reduceLT, Int.reduceLE, Int.reduceEq, Int.reduceNeg, Int.reduceAdd, Int.reduceSub, reduceCtorEq, hlt, hml, idx_of hat, ye.1, ye.2.1, ye.2.2.1, ye.2.2.2, w1, w2]
    repeat' (first
      | (refine br_intro (fun hq => ?_) (fun hq => ?_) <;> (try simp only [decide_eq_true_eq, decide_eq_false_iff_not, bne_iff_ne, beq_iff_eq, beq_eq_false_iff_ne, bne_eq_false_iff_eq, Bool.not_eq_true, Bool.not_eq_false, ne_eq, Decidable.not_not, Int.not_lt, Int.not_le, Bool.not_eq_eq_eq_not, Bool.not_true, Bool.not_false, gt_iff_lt, ge_iff_le, Bool.and_eq_true, Bool.or_eq_true, Bool.or_eq_false_iff, Bool.and_eq_false_imp] at hq) <;> (try simp only [go_sem, ↓reduceIte, Nat.reduceEqDiff, Nat.reduceLT, Nat.reduceLeDiff, Nat.reduceAdd, Nat.reduceMul, Nat.reduceSub, Int.reduceToNat, Int.reduceLT, Int.reduceLE, Int.reduceEq, Int.reduceNeg, Int.reduceAdd, Int.reduceSub, reduceCtorEq, hlt, hml, idx_of hat, ye.1, ye.2.1, ye.2.2.1, ye.2.2.2, w1, w2, hq]))
      | (refine idx_intro (fun x hx => ?_) <;> (try simp only [go_sem, ↓reduceIte, Nat.reduceEqDiff, Nat.reduceLT, Nat.reduceLeDiff, Nat.reduceAdd, Nat.reduceMul, Nat.reduceSub, Int.reduceToNat, Int.reduceLT, Int.reduceLE, Int.reduceEq, Int.reduceNeg, Int.reduceAdd, Int.reduceSub, reduceCtorEq, hlt, hml, idx_of hat, ye.1, ye.2.1, ye.2.2.1, ye.2.2.2, w1, w2, hx]))
      | (simp (disch := omega) only [wrap_ok])
      | (refine hre1.calls rfl ?_ <;> (try simp only [go_sem, ↓reduceIte, Nat.reduceEqDiff, Nat.reduceLT, Nat.reduceLeDiff, Nat.reduceAdd, Nat.reduceMul, Nat.reduceSub, Int.reduceToNat, Int.reduceLT, Int.reduceLE, Int.reduceEq, Int.reduceNeg, Int.reduceAdd, Int.reduceSub, reduceCtorEq, hlt, hml, idx_of hat, ye.1, ye.2.1, ye.2.2.1, ye.2.2.2, w1, w2]))
      | (refine hre2.calls rfl ?_ <;> (try simp only [go_sem, ↓reduceIte, Nat.reduceEqDiff, Nat.reduceLT, Nat.reduceLeDiff, Nat.reduceAdd, Nat.reduceMul, Nat.reduceSub, Int.reduceToNat, Int.reduceLT, Int.reduceLE, Int.reduceEq, Int.reduceNeg, Int.reduceAdd, Int.reduceSub, reduceCtorEq, hlt, hml, idx_of hat, ye.1, ye.2.1, ye.2.2.1, ye.2.2.2, w1, w2]))
      | (refine (markText_fn _ (by first | omega | assumption | (simp; done) | (simp; omega)) (by first | omega | assumption | (simp; done) | (simp; omega))).calls rfl ?_ <;> (try simp only [go_sem, ↓reduceIte, Nat.reduceEqDiff, Nat.reduceLT, Nat.reduceLeDiff, Nat.reduceAdd, Nat.reduceMul, Nat.reduceSub, Int.reduceToNat, Int.reduceLT, Int.reduceLE, Int.reduceEq, Int.reduceNeg, Int.reduceAdd, Int.reduceSub, reduceCtorEq, hlt, hml, idx_of hat, ye.1, ye.2.1, ye.2.2.1, ye.2.2.2, w1, w2]))
      | (refine (markText_fn _ (by first | omega | assumption | (simp; done) | (simp; omega)) (by first | omega | assumption | (simp; done) | (simp; omega))).callQ rfl ?_ <;> (try simp only [go_sem, ↓reduceIte, Nat.reduceEqDiff, Nat.reduceLT, Nat.reduceLeDiff, Nat.reduceAdd, Nat.reduceMul, Nat.reduceSub, Int.reduceToNat, Int.reduceLT, Int.reduceLE, Int.reduceEq, Int.reduceNeg, Int.reduceAdd, Int.reduceSub, reduceCtorEq, hlt, hml, idx_of hat, ye.1, ye.2.1, ye.2.2.1, ye.2.2.2, w1, w2]))
      | (refine ⟨by first | omega | assumption | (simp; done) | (simp; omega), ?_⟩ <;> (try simp only [go_sem, ↓reduceIte, Nat.reduceEqDiff, Nat.reduceLT, Nat.reduceLeDiff, Nat.reduceAdd, Nat.reduceMul, Nat.reduceSub, Int.reduceToNat, Int.reduceLT, Int.reduceLE, Int.reduceEq, Int.reduceNeg, Int.reduceAdd, Int.reduceSub, reduceCtorEq, hlt, hml, idx_of hat, ye.1, ye.2.1, ye.2.2.1, ye.2.2.2, w1, w2]))
      | assumption)
    all_goals first | (exfalso; omega) | skip
    refine hnx _ ?_
    refine ⟨by simp [mkS], by simp [mkS], by simp [mkS, O.refsLt], ?_⟩; simp [mkS, Abs.get, C.refsLtT, C.refsLt, C.refsLt1]; omega
  · obtain rfl : i = l.length := by omega
    refine run_sound Try.func69 mixed 200 _ _ (by kernel_rfl) ?_
    simp only [go_sem, ↓reduceIte, Nat.reduceEqDiff, Nat.reduceLT, Nat.reduceLeDiff, Nat.reduceAdd, Nat.reduceMul, Nat.reduceSub, Int.reduceToNat, Int.reduceLT, Int.reduceLE, Int.reduceEq, Int.reduceNeg, Int.reduceAdd, Int.reduceSub, reduceCtorEq, hml, List.take_length]
    repeat' (first
      | (refine br_intro (fun hq => ?_) (fun hq => ?_) <;> (try simp only [decide_eq_true_eq, decide_eq_false_iff_not, bne_iff_ne, beq_iff_eq, beq_eq_false_iff_ne, bne_eq_false_iff_eq, Bool.not_eq_true, Bool.not_eq_false, ne_eq, Decidable.not_not, Int.not_lt, Int.not_le, Bool.not_eq_eq_eq_not, Bool.not_true, Bool.not_false, gt_iff_lt, ge_iff_le, Bool.and_eq_true, Bool.or_eq_true, Bool.or_eq_false_iff, Bool.and_eq_false_imp] at hq) <;> (try simp only [go_sem, ↓reduceIte, Nat.reduceEqDiff, Nat.reduceLT, Nat.reduceLeDiff, Nat.reduceAdd, Nat.reduceMul, Nat.reduceSub, Int.reduceToNat, Int.reduceLT, Int.reduceLE, Int.reduceEq, Int.reduceNeg, Int.reduceAdd, Int.reduceSub, reduceCtorEq, hml, List.take_length, hq]))
      | (refine idx_intro (fun x hx => ?_) <;> (try simp only [go_sem, ↓reduceIte, Nat.reduceEqDiff, Nat.reduceLT, Nat.reduceLeDiff, Nat.reduceAdd, Nat.reduceMul, Nat.reduceSub, Int.reduceToNat, Int.reduceLT, Int.reduceLE, Int.reduceEq, Int.reduceNeg, Int.reduceAdd, Int.reduceSub, reduceCtorEq, hml, List.take_length, hx]))
      | (simp (disch := omega) only [wrap_ok])
      | (refine (markText_fn _ (by first | omega | assumption | (simp; done) | (simp; omega)) (by first | omega | assumption | (simp; done) | (simp; omega))).calls rfl ?_ <;> (try simp only [go_sem, ↓reduceIte, Nat.reduceEqDiff, Nat.reduceLT, Nat.reduceLeDiff, Nat.reduceAdd, Nat.reduceMul, Nat.reduceSub, Int.reduceToNat, Int.reduceLT, Int.reduceLE, Int.reduceEq, Int.reduceNeg, Int.reduceAdd, Int.reduceSub, reduceCtorEq, hml, List.take_length]))
      | (refine (markText_fn _ (by first | omega | assumption | (simp; done) | (simp; omega)) (by first | omega | assumption | (simp; done) | (simp; omega))).callQ rfl ?_ <;> (try simp only [go_sem, ↓reduceIte, Nat.reduceEqDiff, Nat.reduceLT, Nat.reduceLeDiff, Nat.reduceAdd, Nat.reduceMul, Nat.reduceSub, Int.reduceToNat, Int.reduceLT, Int.reduceLE, Int.reduceEq, Int.reduceNeg, Int.reduceAdd, Int.reduceSub, reduceCtorEq, hml, List.take_length]))
      | (refine ⟨by first | omega | assumption | (simp; done) | (simp; omega), ?_⟩ <;> (try simp only [go_sem, ↓reduceIte, Nat.reduceEqDiff, Nat.reduceLT, Nat.reduceLeDiff, Nat.reduceAdd, Nat.reduceMul, Nat.reduceSub, Int.reduceToNat, Int.reduceLT, Int.reduceLE, Int.reduceEq, Int.reduceNeg, Int.reduceAdd, Int.reduceSub, reduceCtorEq, hml, List.take_length]))
      | assumption)
theorem hGT_goals : ∀ t : Gl, hGT t.goals := by
  intro t
  induction t using Gl.ind' with
  | h t ih => exact heldGoalS_T t.goals ih
theorem hGT_all (l : List Gl) : hGT l := heldGoalS_T l (fun x _ => hGT_goals x)
def encG (c : List Gl) : List D := [.sl (c.map Gl.enc)]
theorem heldGoalSS_T (l : List (List Gl)) (k : Int) (h0 : 0 ≤ k) (h1 : k + Gl.mcntSS l ≤ 1000000000) (hl : l.length ≤ 1000000000) : Gives Try.prog 37 [.sl ((Gl.mrkSS k l).map encG), .int .i64 k] (.d (.int .i64 (k + Gl.mcntSS l))) := by
  have hml := Gl.mrkSS_len l k
  have hge : ∀ c : List Gl, encG c = [.sl (c.map Gl.enc)] := fun c => rfl
  refine ACalls.enter (fn := Try.f37) Try.func37 rfl (by show 2 ≤ _; decide) ?_
  refine run_sound Try.func37 mixed 200 _ _ (by kernel_rfl) ?_
  simp only [go_sem, ↓reduceIte, Nat.reduceEqDiff, Nat.reduceLT, Nat.reduceLeDiff, Nat.reduceAdd, Nat.reduceMul, Nat.reduceSub, Int.reduceToNat, Int.reduceLT, Int.reduceLE, Int.reduceEq, Int.reduceNeg, Int.reduceAdd, Int.reduceSub, reduceCtorEq]
  refine AW.lp [0] (fun i : Nat => [(5, .d (.int .i64 i)), (1, .d (.int .i64 (k + Gl.mcntSS (l.take i))))]) (fun H _ => H) (fun i => i ≤ l.length) (fun i => l.length - i) 0 (Nat.zero_le _) (by refine ⟨by simp [mkS], by simp [mkS], by simp [mkS, O.refsLt], ?_⟩; simp [mkS, Abs.get, C.refsLtT, C.refsLt, C.refsLt1, Gl.mcntSS]) ?_
  intro i hi hnext
  by_cases h : i < l.length
  · have hlt : (i : Int) < (l.length : Int) := by omega
    have hxi : l[i]? = some l[i] := List.getElem?_eq_getElem h
    have hat := Gl.mrkSS_at l k i _ hxi
    have hnxt : l.take (i + 1) = l.take i ++ [l[i]] := by rw [List.take_add_one, List.getElem?_eq_getElem h]; rfl
    have hcn : Gl.mcntSS (l.take (i + 1)) = Gl.mcntSS (l.take i) + Gl.mcnts l[i] := by rw [hnxt, Gl.mcntSS_app]; simp [Gl.mcntSS]
    have hcl : Gl.mcntSS l = Gl.mcntSS (l.take i) + (Gl.mcnts l[i] + Gl.mcntSS (l.drop (i + 1))) := by
      conv => lhs; rw [← List.take_append_drop i l, List.drop_eq_getElem_cons h, Gl.mcntSS_app]
      simp [Gl.mcntSS]
    have hnx := fun s' => hnext (i + 1) s' h (by omega)
    clear hnext
    simp only [hcn] at hnx
    generalize hx : l[i] = x at *
    generalize hk : k + (Gl.mcntSS (l.take i) : Int) = kk at *
    have hre := hGT_all x kk (by omega) (by omega)
    refine run_sound Try.func37 mixed 200 _ _ (by kernel_rfl) ?_
    simp only [go_sem, ↓reduceIte, Nat.reduceEqDiff, Nat.reduceLT, Nat.reduceLeDiff, Nat.reduceAdd, Nat.reduceMul, Nat.reduceSub, Int.reduceToNat, Int.reduceLT, Int.reduceLE, Int.reduceEq, Int.reduceNeg, Int.reduceAdd, Int.reduceSub, reduceCtorEq, hlt, hml, idx_of hat, hge]
    repeat' (first
      | (refine br_intro (fun hq => ?_) (fun hq => ?_) <;> (try simp only [decide_eq_true_eq, decide_eq_false_iff_not, bne_iff_ne, beq_iff_eq, beq_eq_false_iff_ne, bne_eq_false_iff_eq, Bool.not_eq_true, Bool.not_eq_false, ne_eq, Decidable.not_not, Int.not_lt, Int.not_le, Bool.not_eq_eq_eq_not, Bool.not_true, Bool.not_false, gt_iff_lt, ge_iff_le, Bool.and_eq_true, Bool.or_eq_true, Bool.or_eq_false_iff, Bool.and_eq_false_imp] at hq) <;> (try simp only [go_sem, ↓reduceIte, Nat.reduceEqDiff, Nat.reduceLT, Nat.reduceLeDiff, Nat.reduceAdd, Nat.reduceMul, Nat.reduceSub, Int.reduceToNat, Int.reduceLT, Int.reduceLE, Int.reduceEq, Int.reduceNeg, Int.reduceAdd, Int.reduceSub, reduceCtorEq, hlt, hml, idx_of hat, hge, hq]))
      | (refine idx_intro (fun x hx => ?_) <;> (try simp only [go_sem, ↓reduceIte, Nat.reduceEqDiff, Nat.reduceLT, Nat.reduceLeDiff, Nat.reduceAdd, Nat.reduceMul, Nat.reduceSub, Int.reduceToNat, Int.reduceLT, Int.reduceLE, Int.reduceEq, Int.reduceNeg, Int.reduceAdd, Int.reduceSub, reduceCtorEq, hlt, hml, idx_of hat, hge, hx]))
      | (simp (disch := omega) only [wrap_ok])
      | (refine hre.calls rfl ?_ <;> (try simp only [go_sem, ↓reduceIte, Nat.reduceEqDiff, Nat.reduceLT, Nat.reduceLeDiff, Nat.reduceAdd, Nat.reduceMul, Nat.reduceSub, Int.reduceToNat, Int.reduceLT, Int.reduceLE, Int.reduceEq, Int.reduceNeg, Int.reduceAdd, Int.reduceSub, reduceCtorEq, hlt, hml, idx_of hat, hge]))
      | (refine ⟨by first | omega | assumption | (simp; done) | (simp; omega), ?_⟩ <;> (try simp only [go_sem, ↓reduceIte, Nat.reduceEqDiff, Nat.reduceLT, Nat.reduceLeDiff, Nat.reduceAdd, Nat.reduceMul, Nat.reduceSub, Int.reduceToNat, Int.reduceLT, Int.reduceLE, Int.reduceEq, Int.reduceNeg, Int.reduceAdd, Int.reduceSub, reduceCtorEq, hlt, hml, idx_of hat, hge]))
      | assumption)
    all_goals first | (exfalso; omega) | skip
    refine hnx _ ?_
    refine ⟨by simp [mkS], by simp [mkS], by simp [mkS, O.refsLt], ?_⟩; simp [mkS, Abs.get, C.refsLtT, C.refsLt, C.refsLt1]; omega
  · obtain rfl : i = l.length := by omega
    refine run_sound Try.func37 mixed 200 _ _ (by kernel_rfl) ?_
    simp only [go_sem, ↓reduceIte, Nat.reduceEqDiff, Nat.reduceLT, Nat.reduceLeDiff, Nat.reduceAdd, Nat.reduceMul, Nat.reduceSub, Int.reduceToNat, Int.reduceLT, Int.reduceLE, Int.reduceEq, Int.reduceNeg, Int.reduceAdd, Int.reduceSub, reduceCtorEq, hml, List.take_length]
    repeat' (first
      | (refine br_intro (fun hq => ?_) (fun hq => ?_) <;> (try simp only [decide_eq_true_eq, decide_eq_false_iff_not, bne_iff_ne, beq_iff_eq, beq_eq_false_iff_ne, bne_eq_false_iff_eq, Bool.not_eq_true, Bool.not_eq_false, ne_eq, Decidable.not_not, Int.not_lt, Int.not_le, Bool.not_eq_eq_eq_not, Bool.not_true, Bool.not_false, gt_iff_lt, ge_iff_le, Bool.and_eq_true, Bool.or_eq_true, Bool.or_eq_false_iff, Bool.and_eq_false_imp] at hq) <;> (try simp only [go_sem, ↓reduceIte, Nat.reduceEqDiff, Nat.reduceLT, Nat.reduceLeDiff, Nat.reduceAdd, Nat.reduceMul, Nat.reduceSub, Int.reduceToNat, Int.reduceLT, Int.reduceLE, Int.reduceEq, Int.reduceNeg, Int.reduceAdd, Int.reduceSub, reduceCtorEq, hml, List.take_length, hq]))
      | (refine idx_intro (fun x hx => ?_) <;> (try simp only [go_sem, ↓reduceIte, Nat.reduceEqDiff, Nat.reduceLT, Nat.reduceLeDiff, Nat.reduceAdd, Nat.reduceMul, Nat.reduceSub, Int.reduceToNat, Int.reduceLT, Int.reduceLE, Int.reduceEq, Int.reduceNeg, Int.reduceAdd, Int.reduceSub, reduceCtorEq, hml, List.take_length, hx]))
      | (simp (disch := omega) only [wrap_ok])
      | (refine ⟨by first | omega | assumption | (simp; done) | (simp; omega), ?_⟩ <;> (try simp only [go_sem, ↓reduceIte, Nat.reduceEqDiff, Nat.reduceLT, Nat.reduceLeDiff, Nat.reduceAdd, Nat.reduceMul, Nat.reduceSub, Int.reduceToNat, Int.reduceLT, Int.reduceLE, Int.reduceEq, Int.reduceNeg, Int.reduceAdd, Int.reduceSub, reduceCtorEq, hml, List.take_length]))
      | assumption)

theorem markGoalSS_T (l : List (List Gl)) (k : Int) (q e : Nat) (B : Nat → Prop) (h0 : 0 ≤ k) (h1 : k + Gl.mcntSS l ≤ 1000000000) (hl : l.length ≤ 1000000000) :
    ACalls Try.prog 25 [.own 0 q, .d (.int .i64 k)] [.tree q 1 e (l.map encG) B none] (fun c H' => c = .d (.int .i64 (k + Gl.mcntSS l)) ∧ ∃ B', H' = [.tree q 1 e ((Gl.mrkSS k l).map encG) B' none]) := by
  have hge : ∀ c : List Gl, encG c = [.sl (c.map Gl.enc)] := fun c => rfl
  refine ACalls.enter (fn := Try.f25) Try.func25 rfl (by show 2 ≤ _; decide) ?_
  refine run_sound Try.func25 mixed 200 _ _ (by kernel_rfl) ?_
  simp only [go_sem, ↓reduceIte, Nat.reduceEqDiff, Nat.reduceLT, Nat.reduceLeDiff, Nat.reduceAdd, Nat.reduceMul, Nat.reduceSub, Int.reduceToNat, Int.reduceLT, Int.reduceLE, Int.reduceEq, Int.reduceNeg, Int.reduceAdd, Int.reduceSub, reduceCtorEq]
  refine AW.lp [0] (fun p : Nat × (Nat → Prop) => [(5, .d (.int .i64 p.1)), (1, .d (.int .i64 (k + Gl.mcntSS (l.take p.1))))]) (fun _ p => [.tree q 1 e ((Gl.mrkSS k (l.take p.1) ++ l.drop p.1).map encG) p.2 none]) (fun p => p.1 ≤ l.length) (fun p => l.length - p.1) (0, B) (Nat.zero_le _) (by refine ⟨by simp [mkS], by simp [mkS, Gl.mrkSS], by simp [mkS, O.refsLt], ?_⟩; simp [mkS, Abs.get, C.refsLtT, C.refsLt, C.refsLt1, Gl.mcntSS]) ?_
  rintro ⟨i, B1⟩ hi hnext
  dsimp only at hi hnext ⊢
  by_cases h : i < l.length
  · have hlt : (i : Int) < (l.length : Int) := by omega
    have hd : l.drop i = l[i] :: l.drop (i + 1) := List.drop_eq_getElem_cons h
    have hll : ((Gl.mrkSS k (l.take i)).map encG ++ encG l[i] :: (l.drop (i + 1)).map encG).length = l.length := by simp [Gl.mrkSS_len]; omega
    have hai : ((Gl.mrkSS k (l.take i)).map encG).length = i := by simp [Gl.mrkSS_len]; omega
    have hnxt : l.take (i + 1) = l.take i ++ [l[i]] := by rw [List.take_add_one, List.getElem?_eq_getElem h]; rfl
    have hcn : Gl.mcntSS (l.take (i + 1)) = Gl.mcntSS (l.take i) + Gl.mcnts l[i] := by rw [hnxt, Gl.mcntSS_app]; simp [Gl.mcntSS]
    have hcl : Gl.mcntSS l = Gl.mcntSS (l.take i) + (Gl.mcnts l[i] + Gl.mcntSS (l.drop (i + 1))) := by
      conv => lhs; rw [← List.take_append_drop i l, hd, Gl.mcntSS_app]
      simp [Gl.mcntSS]
    have hmr : Gl.mrkSS k (l.take (i + 1)) = Gl.mrkSS k (l.take i) ++ [Gl.mrks (k + Gl.mcntSS (l.take i)) l[i]] := by rw [hnxt, Gl.mrkSS_app]; simp [Gl.mrkSS]
    rw [hd, List.map_append, List.map_cons]
    have hnx := fun B' s' => hnext (i + 1, B') s' h (by dsimp only; omega)
    clear hnext
    simp only [hmr, hcn, List.map_append, List.map_cons, List.map_nil] at hnx
    generalize hx : l[i] = x at *
    generalize hA : (Gl.mrkSS k (l.take i)).map encG = A at *
    generalize hZ : (l.drop (i + 1)).map encG = Z at *
    generalize hk : k + (Gl.mcntSS (l.take i) : Int) = kk at *
    have s2 := fun (y y' : List D) => set_split (x := y) (y := y') (r := Z) hai
    have g1 := fun (y : List D) => at_split (x := y) (r := Z) hai
    have zk4 : ∀ zk : Nat, x.map Gl.enc ≠ [] → (∀ j, j ∈ x → 4 = zk) → zk = 4 := fun zk hne hz => by
      cases ha : x with
      | nil => simp [ha] at hne
      | cons a r => exact (hz a (by simp [ha])).symm
    rw [hge] at hll ⊢
    simp only [hge, List.append_assoc, List.cons_append, List.nil_append] at hnx
    have g2 := fun (y : List D) (Q : List D → Prop) => idx_of (g1 y) Q
    refine run_sound Try.func25 mixed 200 _ _ (by kernel_rfl) ?_
    simp only [go_sem, ↓reduceIte, Nat.reduceEqDiff, Nat.reduceLT, Nat.reduceLeDiff, Nat.reduceAdd, Nat.reduceMul, Nat.reduceSub, Int.reduceToNat, Int.reduceLT, Int.reduceLE, Int.reduceEq, Int.reduceNeg, Int.reduceAdd, Int.reduceSub, reduceCtorEq, hlt, hll, s2, g1, g2]
    repeat' (first
      | (refine lend_intro (fun hk0 => ?_) (fun hk1 zk e' B2 B3 hzk => ?_) <;> (try simp only [go_sem, ↓reduceIte, Nat.reduceEqDiff, Nat.reduceLT, Nat.reduceLeDiff, Nat.reduceAdd, Nat.reduceMul, Nat.reduceSub, Int.reduceToNat, Int.reduceLT, Int.reduceLE, Int.reduceEq, Int.reduceNeg, Int.reduceAdd, Int.reduceSub, reduceCtorEq, hlt, hll, s2, g1, g2]))
      | (refine br_intro (fun hq => ?_) (fun hq => ?_) <;> (try simp only [decide_eq_true_eq, decide_eq_false_iff_not, bne_iff_ne, beq_iff_eq, beq_eq_false_iff_ne, bne_eq_false_iff_eq, Bool.not_eq_true, Bool.not_eq_false, ne_eq, Decidable.not_not, Int.not_lt, Int.not_le, Bool.not_eq_eq_eq_not, Bool.not_true, Bool.not_false, gt_iff_lt, ge_iff_le, Bool.and_eq_true, Bool.or_eq_true, Bool.or_eq_false_iff, Bool.and_eq_false_imp] at hq) <;> (try simp only [go_sem, ↓reduceIte, Nat.reduceEqDiff, Nat.reduceLT, Nat.reduceLeDiff, Nat.reduceAdd, Nat.reduceMul, Nat.reduceSub, Int.reduceToNat, Int.reduceLT, Int.reduceLE, Int.reduceEq, Int.reduceNeg, Int.reduceAdd, Int.reduceSub, reduceCtorEq, hlt, hll, s2, g1, g2, hq]))
      | (refine idx_intro (fun x hx => ?_) <;> (try simp only [go_sem, ↓reduceIte, Nat.reduceEqDiff, Nat.reduceLT, Nat.reduceLeDiff, Nat.reduceAdd, Nat.reduceMul, Nat.reduceSub, Int.reduceToNat, Int.reduceLT, Int.reduceLE, Int.reduceEq, Int.reduceNeg, Int.reduceAdd, Int.reduceSub, reduceCtorEq, hlt, hll, s2, g1, g2, hx]))
      | (simp (disch := omega) only [wrap_ok])
      | (refine all_intro (fun Bz => ?_) <;> (try simp only [go_sem, ↓reduceIte, Nat.reduceEqDiff, Nat.reduceLT, Nat.reduceLeDiff, Nat.reduceAdd, Nat.reduceMul, Nat.reduceSub, Int.reduceToNat, Int.reduceLT, Int.reduceLE, Int.reduceEq, Int.reduceNeg, Int.reduceAdd, Int.reduceSub, reduceCtorEq, hlt, hll, s2, g1, g2]))
      | (refine (markGoalS_0 _).calls rfl ?_ <;> (try simp only [go_sem, ↓reduceIte, Nat.reduceEqDiff, Nat.reduceLT, Nat.reduceLeDiff, Nat.reduceAdd, Nat.reduceMul, Nat.reduceSub, Int.reduceToNat, Int.reduceLT, Int.reduceLE, Int.reduceEq, Int.reduceNeg, Int.reduceAdd, Int.reduceSub, reduceCtorEq, hlt, hll, s2, g1, g2]))
      | (refine ⟨by first | omega | assumption | (simp; done) | (simp; omega), ?_⟩ <;> (try simp only [go_sem, ↓reduceIte, Nat.reduceEqDiff, Nat.reduceLT, Nat.reduceLeDiff, Nat.reduceAdd, Nat.reduceMul, Nat.reduceSub, Int.reduceToNat, Int.reduceLT, Int.reduceLE, Int.reduceEq, Int.reduceNeg, Int.reduceAdd, Int.reduceSub, reduceCtorEq, hlt, hll, s2, g1, g2]))
      | assumption)
    · have hb : x = [] := by simpa using hk0
      rw [hb] at hnx ⊢
      refine hnx B1 _ ?_
      refine ⟨by simp [mkS], by simp [mkS, Gl.mrks], by simp [mkS, O.refsLt], ?_⟩; simp [mkS, Abs.get, C.refsLtT, C.refsLt, C.refsLt1, Gl.mcnts]; omega
    · obtain rfl := zk4 zk hk1 hzk
      refine (mGT_all x kk 0 e' B3 (by omega) (by omega)).at1 rfl 1 rfl rfl ?_
      rintro c o' ⟨rfl, B4, ho⟩
      cases ho
      refine ⟨rfl, rfl, ?_⟩
      simp only [go_sem, ↓reduceIte, Nat.reduceEqDiff, Nat.reduceLT, Nat.reduceLeDiff, Nat.reduceAdd, Nat.reduceMul, Nat.reduceSub, Int.reduceToNat, Int.reduceLT, Int.reduceLE, Int.reduceEq, Int.reduceNeg, Int.reduceAdd, Int.reduceSub, reduceCtorEq, C.at1, run.eq_1]
      try simp (disch := omega) only [wrap_ok]
      try simp only [go_sem, ↓reduceIte, Nat.reduceEqDiff, Nat.reduceLT, Nat.reduceLeDiff, Nat.reduceAdd, Nat.reduceMul, Nat.reduceSub, Int.reduceToNat, Int.reduceLT, Int.reduceLE, Int.reduceEq, Int.reduceNeg, Int.reduceAdd, Int.reduceSub, reduceCtorEq, C.at1]
      refine AW.rejoin 0 1 rfl rfl (by decide) (fun B5 => ?_)
      simp only [go_sem, ↓reduceIte, Nat.reduceEqDiff, Nat.reduceLT, Nat.reduceLeDiff, Nat.reduceAdd, Nat.reduceMul, Nat.reduceSub, Int.reduceToNat, Int.reduceLT, Int.reduceLE, Int.reduceEq, Int.reduceNeg, Int.reduceAdd, Int.reduceSub, reduceCtorEq, g1, s2]
      refine hnx B5 _ ?_
      refine ⟨by simp [mkS], by simp [mkS], by simp [mkS, O.refsLt], ?_⟩; simp [mkS, Abs.get, C.refsLtT, C.refsLt, C.refsLt1]; omega
  · obtain rfl : i = l.length := by omega
    refine run_sound Try.func25 mixed 200 _ _ (by kernel_rfl) ?_
    simp only [go_sem, ↓reduceIte, Nat.reduceEqDiff, Nat.reduceLT, Nat.reduceLeDiff, Nat.reduceAdd, Nat.reduceMul, Nat.reduceSub, Int.reduceToNat, Int.reduceLT, Int.reduceLE, Int.reduceEq, Int.reduceNeg, Int.reduceAdd, Int.reduceSub, reduceCtorEq, Gl.mrkSS_len, List.take_length, List.drop_length]
    repeat' (first
      | (exact ⟨_, rfl⟩)
      | (refine br_intro (fun hq => ?_) (fun hq => ?_) <;> (try simp only [decide_eq_true_eq, decide_eq_false_iff_not, bne_iff_ne, beq_iff_eq, beq_eq_false_iff_ne, bne_eq_false_iff_eq, Bool.not_eq_true, Bool.not_eq_false, ne_eq, Decidable.not_not, Int.not_lt, Int.not_le, Bool.not_eq_eq_eq_not, Bool.not_true, Bool.not_false, gt_iff_lt, ge_iff_le, Bool.and_eq_true, Bool.or_eq_true, Bool.or_eq_false_iff, Bool.and_eq_false_imp] at hq) <;> (try simp only [go_sem, ↓reduceIte, Nat.reduceEqDiff, Nat.reduceLT, Nat.reduceLeDiff, Nat.reduceAdd, Nat.reduceMul, Nat.reduceSub, Int.reduceToNat, Int.reduceLT, Int.reduceLE, Int.reduceEq, Int.reduceNeg, Int.reduceAdd, Int.reduceSub, reduceCtorEq, Gl.mrkSS_len, List.take_length, List.drop_length, hq]))
      | (refine idx_intro (fun x hx => ?_) <;> (try simp only [go_sem, ↓reduceIte, Nat.reduceEqDiff, Nat.reduceLT, Nat.reduceLeDiff, Nat.reduceAdd, Nat.reduceMul, Nat.reduceSub, Int.reduceToNat, Int.reduceLT, Int.reduceLE, Int.reduceEq, Int.reduceNeg, Int.reduceAdd, Int.reduceSub, reduceCtorEq, Gl.mrkSS_len, List.take_length, List.drop_length, hx]))
      | (simp (disch := omega) only [wrap_ok])
      | (refine ⟨by first | omega | assumption | (simp; done) | (simp; omega), ?_⟩ <;> (try simp only [go_sem, ↓reduceIte, Nat.reduceEqDiff, Nat.reduceLT, Nat.reduceLeDiff, Nat.reduceAdd, Nat.reduceMul, Nat.reduceSub, Int.reduceToNat, Int.reduceLT, Int.reduceLE, Int.reduceEq, Int.reduceNeg, Int.reduceAdd, Int.reduceSub, reduceCtorEq, Gl.mrkSS_len, List.take_length, List.drop_length]))
      | assumption)
end Go.Proofs.Ytljdpohdfnileaa

