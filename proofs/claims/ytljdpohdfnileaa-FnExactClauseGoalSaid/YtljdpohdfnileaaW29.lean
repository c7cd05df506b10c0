/- Lists of lists of goals as trees; the marks of a goal without terms. -/
import Derived.Test.YtljdpohdfnileaaW24
namespace Go.Proofs.Ytljdpohdfnileaa
open Go.Abs
set_option maxRecDepth 100000
set_option maxHeartbeats 4000000
set_option linter.unusedSimpArgs false
set_option linter.unusedVariables false

theorem toGoalSS_T (l : List (List Gl)) (hlen : l.length ≤ 1048576) (hw : ∀ c, c ∈ l → wtR (c.map Gl.enc) ≤ 1048576) : ACalls Try.prog 22 [.d (.sl (l.map encG))] [.hole] (fun c H' => c = .own 0 1 ∧ ∃ e B, H' = [.tree 1 1 e (l.map encG) B none]) := by
  have hmx : maxLen = 9223372036854775807 := rfl
  have hge : ∀ c : List Gl, encG c = [.sl (c.map Gl.enc)] := fun c => rfl
  refine ACalls.enter (fn := Try.f22) Try.func22 rfl (by show 1 ≤ _; decide) ?_
  refine run_sound Try.func22 mixed 200 _ _ (by kernel_rfl) ?_
  simp only [go_sem, ↓reduceIte, Nat.reduceEqDiff, Nat.reduceLT, Nat.reduceLeDiff, Nat.reduceAdd, Nat.reduceMul, Nat.reduceSub, Int.reduceToNat, Int.reduceLT, Int.reduceLE, Int.reduceEq, Int.reduceNeg, Int.reduceAdd, Int.reduceSub, reduceCtorEq]
  repeat' (first
    | (refine br_intro (fun hq => ?_) (fun hq => ?_) <;> (try simp only [decide_eq_true_eq, decide_eq_false_iff_not, bne_iff_ne, beq_iff_eq, beq_eq_false_iff_ne, bne_eq_false_iff_eq, Bool.not_eq_true, Bool.not_eq_false, ne_eq, Decidable.not_not, Int.not_lt, Int.not_le, Bool.not_eq_eq_eq_not, Bool.not_true, Bool.not_false, gt_iff_lt, ge_iff_le, Bool.and_eq_true, Bool.or_eq_true, Bool.or_eq_false_iff, Bool.and_eq_false_imp] at hq) <;> (try simp only [go_sem, ↓reduceIte, Nat.reduceEqDiff, Nat.reduceLT, Nat.reduceLeDiff, Nat.reduceAdd, Nat.reduceMul, Nat.reduceSub, Int.reduceToNat, Int.reduceLT, Int.reduceLE, Int.reduceEq, Int.reduceNeg, Int.reduceAdd, Int.reduceSub, reduceCtorEq, hq]))
    | (refine idx_intro (fun x hx => ?_) <;> (try simp only [go_sem, ↓reduceIte, Nat.reduceEqDiff, Nat.reduceLT, Nat.reduceLeDiff, Nat.reduceAdd, Nat.reduceMul, Nat.reduceSub, Int.reduceToNat, Int.reduceLT, Int.reduceLE, Int.reduceEq, Int.reduceNeg, Int.reduceAdd, Int.reduceSub, reduceCtorEq, hx]))
    | (simp (disch := omega) only [wrap_ok])
    | (refine ⟨by first | omega | assumption | (simp; done) | (simp; omega), ?_⟩ <;> (try simp only [go_sem, ↓reduceIte, Nat.reduceEqDiff, Nat.reduceLT, Nat.reduceLeDiff, Nat.reduceAdd, Nat.reduceMul, Nat.reduceSub, Int.reduceToNat, Int.reduceLT, Int.reduceLE, Int.reduceEq, Int.reduceNeg, Int.reduceAdd, Int.reduceSub, reduceCtorEq]))
    | assumption)
  refine AW.rowT 3 1 rfl rfl (by simp) (by decide) (fun x hx d hd => by have e := List.eq_of_mem_replicate hx; subst e; simp at hd; subst hd; rfl) ?_
  refine AW.lp [0, 3] (fun p : Nat × (Nat → Prop) => [(4, .d (.int .i64 p.1))]) (fun _ p => [.hole, .dead, .tree 0 1 30 ((l.map encG).take p.1 ++ List.replicate ((l.map encG).length - p.1) [.sl []]) p.2 none]) (fun p => p.1 ≤ l.length) (fun p => l.length - p.1) (0, fun _ => False) (Nat.zero_le _) (by refine ⟨by simp [mkS], by simp [mkS], by simp [mkS, O.refsLt], ?_⟩; simp [mkS, Abs.get, C.refsLtT, C.refsLt, C.refsLt1]) ?_
  rintro ⟨i, B⟩ hi hnext
  dsimp only at hi hnext ⊢
  have hL : (l.map encG).length = l.length := by simp
  by_cases h : i < l.length
  · obtain ⟨x, hxi⟩ : ∃ x, l[i]? = some x := ⟨_, List.getElem?_eq_getElem h⟩
    have hlt : (i : Int) < (l.length : Int) := by omega
    have hxm := hw x (List.mem_of_getElem? hxi)
    have hx := toGoalS_T x hxm (fun g hg => toGoal_T g (by have := wtL_lt (x.map Gl.enc) g.enc (List.mem_map.2 ⟨g, hg, rfl⟩); omega))
    have hxe : (l.map encG)[i]? = some (encG x) := by simp [hxi]
    have hrl : ((l.map encG).take i ++ List.replicate ((l.map encG).length - i) [D.sl []]).length = l.length := by simp; omega
    have hrs := row_step (z := [D.sl []]) (k := 1) hxe rfl
    generalize hr0 : (l.map encG).take i ++ List.replicate ((l.map encG).length - i) [D.sl []] = r0 at hrl hrs ⊢
    refine AW.hole ?_
    refine run_sound Try.func22 mixed 200 _ _ (by kernel_rfl) ?_
    simp only [go_sem, ↓reduceIte, Nat.reduceEqDiff, Nat.reduceLT, Nat.reduceLeDiff, Nat.reduceAdd, Nat.reduceMul, Nat.reduceSub, Int.reduceToNat, Int.reduceLT, Int.reduceLE, Int.reduceEq, Int.reduceNeg, Int.reduceAdd, Int.reduceSub, reduceCtorEq, hlt, idx_of hxi, hrl, hge]
    repeat' (first
      | (refine br_intro (fun hq => ?_) (fun hq => ?_) <;> (try simp only [decide_eq_true_eq, decide_eq_false_iff_not, bne_iff_ne, beq_iff_eq, beq_eq_false_iff_ne, bne_eq_false_iff_eq, Bool.not_eq_true, Bool.not_eq_false, ne_eq, Decidable.not_not, Int.not_lt, Int.not_le, Bool.not_eq_eq_eq_not, Bool.not_true, Bool.not_false, gt_iff_lt, ge_iff_le, Bool.and_eq_true, Bool.or_eq_true, Bool.or_eq_false_iff, Bool.and_eq_false_imp] at hq) <;> (try simp only [go_sem, ↓reduceIte, Nat.reduceEqDiff, Nat.reduceLT, Nat.reduceLeDiff, Nat.reduceAdd, Nat.reduceMul, Nat.reduceSub, Int.reduceToNat, Int.reduceLT, Int.reduceLE, Int.reduceEq, Int.reduceNeg, Int.reduceAdd, Int.reduceSub, reduceCtorEq, hrl, hlt, hge, hq]))
      | (refine idx_intro (fun x hx => ?_) <;> (try simp only [go_sem, ↓reduceIte, Nat.reduceEqDiff, Nat.reduceLT, Nat.reduceLeDiff, Nat.reduceAdd, Nat.reduceMul, Nat.reduceSub, Int.reduceToNat, Int.reduceLT, Int.reduceLE, Int.reduceEq, Int.reduceNeg, Int.reduceAdd, Int.reduceSub, reduceCtorEq, hrl, hlt, hge, hx]))
      | (simp (disch := omega) only [wrap_ok])
      | (refine ACalls.fresh (ds := [.sl (x.map Gl.enc)]) (m := 1) hx [3] rfl rfl (by simp) (by simp) ?_ <;> (rintro c H' ⟨rfl, e1, B1, rfl⟩ _; refine ⟨rfl, rfl, ?_⟩) <;> (try simp only [go_sem, ↓reduceIte, Nat.reduceEqDiff, Nat.reduceLT, Nat.reduceLeDiff, Nat.reduceAdd, Nat.reduceMul, Nat.reduceSub, Int.reduceToNat, Int.reduceLT, Int.reduceLE, Int.reduceEq, Int.reduceNeg, Int.reduceAdd, Int.reduceSub, reduceCtorEq, hrl, hlt, hge]))
      | (refine ⟨by first | omega | assumption | (simp; done) | (simp; omega), ?_⟩ <;> (try simp only [go_sem, ↓reduceIte, Nat.reduceEqDiff, Nat.reduceLT, Nat.reduceLeDiff, Nat.reduceAdd, Nat.reduceMul, Nat.reduceSub, Int.reduceToNat, Int.reduceLT, Int.reduceLE, Int.reduceEq, Int.reduceNeg, Int.reduceAdd, Int.reduceSub, reduceCtorEq, hrl, hlt, hge]))
      | assumption)
    intro B'
    rw [hge x] at hrs
    simp only [List.cons_append, List.nil_append] at hrs
    rw [hrs]
    exact hnext (i + 1, B') _ h (by omega) (by refine ⟨by simp [mkS], by simp [mkS], by simp [mkS, O.refsLt], ?_⟩; simp [mkS, Abs.get, C.refsLtT, C.refsLt, C.refsLt1])
  · obtain rfl : i = l.length := by omega
    have hfull : (l.map encG).take l.length ++ List.replicate ((l.map encG).length - l.length) [D.sl []] = l.map encG := by rw [← hL]; exact row_all _ _
    rw [hfull]
    refine AW.place 3 2 0 rfl rfl rfl (by decide) ?_
    refine run_sound Try.func22 mixed 200 _ _ (by kernel_rfl) ?_
    simp only [go_sem, ↓reduceIte, Nat.reduceEqDiff, Nat.reduceLT, Nat.reduceLeDiff, Nat.reduceAdd, Nat.reduceMul, Nat.reduceSub, Int.reduceToNat, Int.reduceLT, Int.reduceLE, Int.reduceEq, Int.reduceNeg, Int.reduceAdd, Int.reduceSub, reduceCtorEq]
    simp [O.refsLt]

/-- The marks of a goal without terms. -/
theorem markGoal_N (kd : Int) (nm : List UInt8) (gs : List Gl) (k : Int) (q e : Nat) (B : Nat → Prop) (h0 : 0 ≤ k) (h1 : k + Gl.mcnts gs ≤ 1000000000) :
    ACalls Try.prog 17 [.agg [.d (.int .i64 kd), .d (.str nm), .d (.sl []), .own 0 q], .d (.int .i64 k)] [.tree q 4 e (gs.map Gl.enc) B none]
      (fun c H' => c = .d (.int .i64 (k + Gl.mcnts gs)) ∧ ∃ B', H' = [.tree q 4 e ((Gl.mrks k gs).map Gl.enc) B' none]) := by
  refine ACalls.enter (fn := Try.f17) Try.func17 rfl (by show 2 ≤ _; decide) ?_
  refine run_sound Try.func17 mixed 200 _ _ (by kernel_rfl) ?_
  simp only [go_sem, ↓reduceIte, Nat.reduceEqDiff, Nat.reduceLT, Nat.reduceLeDiff, Nat.reduceAdd, Nat.reduceMul, Nat.reduceSub, Int.reduceToNat, Int.reduceLT, Int.reduceLE, Int.reduceEq, Int.reduceNeg, Int.reduceAdd, Int.reduceSub, reduceCtorEq]
  repeat' (first
    | (exact ⟨_, rfl⟩)
    | (refine br_intro (fun hq => ?_) (fun hq => ?_) <;> (try simp only [decide_eq_true_eq, decide_eq_false_iff_not, bne_iff_ne, beq_iff_eq, beq_eq_false_iff_ne, bne_eq_false_iff_eq, Bool.not_eq_true, Bool.not_eq_false, ne_eq, Decidable.not_not, Int.not_lt, Int.not_le, Bool.not_eq_eq_eq_not, Bool.not_true, Bool.not_false, gt_iff_lt, ge_iff_le, Bool.and_eq_true, Bool.or_eq_true, Bool.or_eq_false_iff, Bool.and_eq_false_imp] at hq) <;> (try simp only [go_sem, ↓reduceIte, Nat.reduceEqDiff, Nat.reduceLT, Nat.reduceLeDiff, Nat.reduceAdd, Nat.reduceMul, Nat.reduceSub, Int.reduceToNat, Int.reduceLT, Int.reduceLE, Int.reduceEq, Int.reduceNeg, Int.reduceAdd, Int.reduceSub, reduceCtorEq, C.at1, hq]))
    | (refine idx_intro (fun x hx => ?_) <;> (try simp only [go_sem, ↓reduceIte, Nat.reduceEqDiff, Nat.reduceLT, Nat.reduceLeDiff, Nat.reduceAdd, Nat.reduceMul, Nat.reduceSub, Int.reduceToNat, Int.reduceLT, Int.reduceLE, Int.reduceEq, Int.reduceNeg, Int.reduceAdd, Int.reduceSub, reduceCtorEq, C.at1, hx]))
    | (simp (disch := omega) only [wrap_ok])
    | (refine (markTermS_0 _).calls rfl ?_ <;> (try simp only [go_sem, ↓reduceIte, Nat.reduceEqDiff, Nat.reduceLT, Nat.reduceLeDiff, Nat.reduceAdd, Nat.reduceMul, Nat.reduceSub, Int.reduceToNat, Int.reduceLT, Int.reduceLE, Int.reduceEq, Int.reduceNeg, Int.reduceAdd, Int.reduceSub, reduceCtorEq, C.at1]))
    | (refine (mGT_all gs k q e B (by omega) (by omega)).at1 rfl 0 rfl rfl ?_ <;> (rintro c o' ⟨rfl, B4, ho⟩; cases ho; refine ⟨rfl, rfl, ?_⟩) <;> (try simp only [go_sem, ↓reduceIte, Nat.reduceEqDiff, Nat.reduceLT, Nat.reduceLeDiff, Nat.reduceAdd, Nat.reduceMul, Nat.reduceSub, Int.reduceToNat, Int.reduceLT, Int.reduceLE, Int.reduceEq, Int.reduceNeg, Int.reduceAdd, Int.reduceSub, reduceCtorEq, C.at1]))
    | (refine ⟨by first | omega | assumption | (simp; done) | (simp; omega), ?_⟩ <;> (try simp only [go_sem, ↓reduceIte, Nat.reduceEqDiff, Nat.reduceLT, Nat.reduceLeDiff, Nat.reduceAdd, Nat.reduceMul, Nat.reduceSub, Int.reduceToNat, Int.reduceLT, Int.reduceLE, Int.reduceEq, Int.reduceNeg, Int.reduceAdd, Int.reduceSub, reduceCtorEq, C.at1]))
    | assumption)
theorem heldGoal_N (kd : Int) (nm : List UInt8) (gs : List Gl) (k : Int) (h0 : 0 ≤ k) (h1 : k + Gl.mcnts gs ≤ 1000000000) :
    Gives Try.prog 26 [.agg [.int .i64 kd, .str nm, .sl [], .sl ((Gl.mrks k gs).map Gl.enc)], .int .i64 k] (.d (.int .i64 (k + Gl.mcnts gs))) := by
  have e1 := hTT_all [] k h0 (by simp [Tm.mcnts]; omega)
  simp only [Tm.mrks, Tm.mcnts, List.map_nil] at e1
  have e0 : k + ((0 : Nat) : Int) = k := by omega
  rw [e0] at e1
  have e2 := hGT_all gs k h0 h1
  refine ACalls.enter (fn := Try.f26) Try.func26 rfl (by show 2 ≤ _; decide) ?_
  refine run_sound Try.func26 mixed 200 _ _ (by kernel_rfl) ?_
  simp only [go_sem, ↓reduceIte, Nat.reduceEqDiff, Nat.reduceLT, Nat.reduceLeDiff, Nat.reduceAdd, Nat.reduceMul, Nat.reduceSub, Int.reduceToNat, Int.reduceLT, Int.reduceLE, Int.reduceEq, Int.reduceNeg, Int.reduceAdd, Int.reduceSub, reduceCtorEq]
  repeat' (first
    | (refine br_intro (fun hq => ?_) (fun hq => ?_) <;> (try simp only [decide_eq_true_eq, decide_eq_false_iff_not, bne_iff_ne, beq_iff_eq, beq_eq_false_iff_ne, bne_eq_false_iff_eq, Bool.not_eq_true, Bool.not_eq_false, ne_eq, Decidable.not_not, Int.not_lt, Int.not_le, Bool.not_eq_eq_eq_not, Bool.not_true, Bool.not_false, gt_iff_lt, ge_iff_le, Bool.and_eq_true, Bool.or_eq_true, Bool.or_eq_false_iff, Bool.and_eq_false_imp] at hq) <;> (try simp only [go_sem, ↓reduceIte, Nat.reduceEqDiff, Nat.reduceLT, Nat.reduceLeDiff, Nat.reduceAdd, Nat.reduceMul, Nat.reduceSub, Int.reduceToNat, Int.reduceLT, Int.reduceLE, Int.reduceEq, Int.reduceNeg, Int.reduceAdd, Int.reduceSub, reduceCtorEq, hq]))
    | (refine idx_intro (fun x hx => ?_) <;> (try simp only [go_sem, ↓reduceIte, Nat.reduceEqDiff, Nat.reduceLT, Nat.reduceLeDiff, Nat.reduceAdd, Nat.reduceMul, Nat.reduceSub, Int.reduceToNat, Int.reduceLT, Int.reduceLE, Int.reduceEq, Int.reduceNeg, Int.reduceAdd, Int.reduceSub, reduceCtorEq, hx]))
    | (simp (disch := omega) only [wrap_ok])
    | (refine e1.calls rfl ?_ <;> (try simp only [go_sem, ↓reduceIte, Nat.reduceEqDiff, Nat.reduceLT, Nat.reduceLeDiff, Nat.reduceAdd, Nat.reduceMul, Nat.reduceSub, Int.reduceToNat, Int.reduceLT, Int.reduceLE, Int.reduceEq, Int.reduceNeg, Int.reduceAdd, Int.reduceSub, reduceCtorEq]))
    | (refine e2.calls rfl ?_ <;> (try simp only [go_sem, ↓reduceIte, Nat.reduceEqDiff, Nat.reduceLT, Nat.reduceLeDiff, Nat.reduceAdd, Nat.reduceMul, Nat.reduceSub, Int.reduceToNat, Int.reduceLT, Int.reduceLE, Int.reduceEq, Int.reduceNeg, Int.reduceAdd, Int.reduceSub, reduceCtorEq]))
    | (refine ⟨by first | omega | assumption | (simp; done) | (simp; omega), ?_⟩ <;> (try simp only [go_sem, ↓reduceIte, Nat.reduceEqDiff, Nat.reduceLT, Nat.reduceLeDiff, Nat.reduceAdd, Nat.reduceMul, Nat.reduceSub, Int.reduceToNat, Int.reduceLT, Int.reduceLE, Int.reduceEq, Int.reduceNeg, Int.reduceAdd, Int.reduceSub, reduceCtorEq]))
    | assumption)
  all_goals first | (exfalso; omega) | rfl
end Go.Proofs.Ytljdpohdfnileaa

