/- The law FnExactCalledBy: both texts answer alike on every input. -/
import Derived.Test.YtljdpohdfnileaaW30
import Derived.Test.YtljdpohdfnileaaW32
import Derived.Test.YtljdpohdfnileaaW34
import Derived.Test.YtljdpohdfnileaaFam
namespace Go.Proofs.Ytljdpohdfnileaa
open Go.Abs
set_option maxRecDepth 100000
set_option maxHeartbeats 4000000
set_option linter.unusedSimpArgs false
set_option linter.unusedVariables false

theorem lawFnExactCalledBy (a0 : Pg) (ha0 : Sh Try.prog 63 (a0.enc)) : Gives Try.prog 10 [.agg a0.enc] (.d (.bool true)) := by
  have hsza0 := szc63 _ a0.enc (Nat.lt_succ_self _) ha0
  have htoa0 := fun hb => toc63 _ a0.enc (Nat.lt_succ_self _) hb ha0
  have heqa0 := eqc63 _ a0.enc (Nat.lt_succ_self _) ha0
  refine ACalls.enter (fn := Try.f10) Try.func10 rfl (by show 1 ≤ _; decide) ?_
  refine AW.hole ?_
  refine AW.hole ?_
  refine AW.hole ?_
  refine run_sound Try.func10 mixed 200 _ _ (by kernel_rfl) ?_
  simp only [go_sem, ↓reduceIte, Nat.reduceEqDiff, Nat.reduceLT, Nat.reduceLeDiff, Nat.reduceAdd, Nat.reduceMul, Nat.reduceSub, Int.reduceToNat, Int.reduceLT, Int.reduceLE, Int.reduceEq, Int.reduceNeg, Int.reduceAdd, Int.reduceSub, reduceCtorEq]
  refine (hsza0 _ (by omega) (by omega)).calls rfl ?_
  simp only [go_sem, ↓reduceIte, Nat.reduceEqDiff, Nat.reduceLT, Nat.reduceLeDiff, Nat.reduceAdd, Nat.reduceMul, Nat.reduceSub, Int.reduceToNat, Int.reduceLT, Int.reduceLE, Int.reduceEq, Int.reduceNeg, Int.reduceAdd, Int.reduceSub, reduceCtorEq]
  refine br_intro (fun hq => ?_) (fun hq => ?_)
  · simp only [go_sem, ↓reduceIte, Nat.reduceEqDiff, Nat.reduceLT, Nat.reduceLeDiff, Nat.reduceAdd, Nat.reduceMul, Nat.reduceSub, Int.reduceToNat, Int.reduceLT, Int.reduceLE, Int.reduceEq, Int.reduceNeg, Int.reduceAdd, Int.reduceSub, reduceCtorEq]
  simp only [decide_eq_false_iff_not] at hq
  have hwa0 := szr_ge hq
  rw [szr_pos hwa0]
  clear hq
  simp only [go_sem, ↓reduceIte, Nat.reduceEqDiff, Nat.reduceLT, Nat.reduceLeDiff, Nat.reduceAdd, Nat.reduceMul, Nat.reduceSub, Int.reduceToNat, Int.reduceLT, Int.reduceLE, Int.reduceEq, Int.reduceNeg, Int.reduceAdd, Int.reduceSub, reduceCtorEq]
  have hmx : maxLen = 9223372036854775807 := rfl
  have hwr : wtR (a0.rels.map Rl.enc) ≤ 1048576 := by
    have : wtL a0.enc ≤ 1048576 := by omega
    simpa only [Pg.enc_eq, wtL, D.wt, Nat.add_zero] using this
  have hx := toProgram_T a0 (by omega)
  have hg := iCalledBy_T a0 (by omega)
  have hw0 := sCalledBy_fn a0 (by omega)
  have hmR := Rl.mcnts_wt a0.rels
  have hV : (cbV a0).length ≤ 8 ∧ ∀ c, c ∈ cbV a0 → c.length ≤ 1048577 := by
    unfold cbV
    split
    · rename_i hok
      have h8 : a0.rels.length ≤ 8 := by
        unfold pgOk at hok
        simp only [Bool.and_eq_true, decide_eq_true_eq] at hok
        exact hok.1
      refine ⟨by simpa using h8, fun c hc => ?_⟩
      obtain ⟨r, hr, rfl⟩ := List.mem_map.1 hc
      have h1 := foldA_len (vs := (Pg.callNames r.body).map a0.find) (l := [])
      have h2 := subs_len r.body
      have h3 := Gl.cnt_le_wt r.body
      have h4 := Rl.wt_body r
      have h5 := Pg.wt_rels hr
      have h6 := List.length_filter_le (fun x : Gl => decide (x.kind = 9)) r.body.subs
      unfold Pg.rowI ascOf
      unfold Pg.callNames at h1 ⊢
      simp only [List.length_nil, List.length_map] at h1
      omega
    · simp
  have hct := cntII_le (cbV a0) hV.2
  have hct8 : (cbV a0).length * 1048577 ≤ 8 * 1048577 := Nat.mul_le_mul_right _ hV.1
  generalize cbV a0 = V at hg hw0 hV hct hct8
  have heJ : encJ = encI2 := rfl
  have hei := eq48 (V.map encI2) (by rw [List.length_map]; omega) (fun x hx => by
    obtain ⟨c, hc, rfl⟩ := List.mem_map.1 hx
    refine ⟨_, rfl, ?_⟩
    have := hV.2 c hc
    exact eq30 _ (by rw [intsD_len]; omega) (fun x hx => by obtain ⟨n, _, rfl⟩ := List.mem_map.1 hx; exact ⟨n, rfl⟩))
  have hmk := markProgram_T a0 1 1
  have hmi := fun q e B => markIntSS_T V 1 q e B (by omega) (by omega) (by omega)
  have hhd := heldIntSS_T V 1 (by omega) (by omega) (by omega)
  rw [heJ] at hmi hhd
  refine (htoa0 (by omega)).calls rfl ?_
  simp only [go_sem, ↓reduceIte, Nat.reduceEqDiff, Nat.reduceLT, Nat.reduceLeDiff, Nat.reduceAdd, Nat.reduceMul, Nat.reduceSub, Int.reduceToNat, Int.reduceLT, Int.reduceLE, Int.reduceEq, Int.reduceNeg, Int.reduceAdd, Int.reduceSub, reduceCtorEq]
  refine hw0.calls rfl ?_
  simp only [go_sem, ↓reduceIte, Nat.reduceEqDiff, Nat.reduceLT, Nat.reduceLeDiff, Nat.reduceAdd, Nat.reduceMul, Nat.reduceSub, Int.reduceToNat, Int.reduceLT, Int.reduceLE, Int.reduceEq, Int.reduceNeg, Int.reduceAdd, Int.reduceSub, reduceCtorEq]
  refine ACalls.fresh (ds := [.agg a0.enc]) (m := 1) hx [0] rfl rfl (by simp) (by simp) ?_
  rintro c H' ⟨rfl, e1, B1, rfl⟩ _
  refine ⟨rfl, rfl, ?_⟩
  simp only [go_sem, ↓reduceIte, Nat.reduceEqDiff, Nat.reduceLT, Nat.reduceLeDiff, Nat.reduceAdd, Nat.reduceMul, Nat.reduceSub, Int.reduceToNat, Int.reduceLT, Int.reduceLE, Int.reduceEq, Int.reduceNeg, Int.reduceAdd, Int.reduceSub, reduceCtorEq]
  have hbf : ∀ e1 B1 X, borAll (.tree 1 7 e1 (a0.rels.map Rl.enc) B1 none :: X) [.agg [.own 0 1]] = some [.agg a0.enc] := fun e1 B1 X => by
    rw [Pg.enc_eq a0]; rfl
  refine ACalls.fresh (ds := [.agg a0.enc]) (m := 1) hg [1] (hbf _ _ _) rfl (by simp) (by simp) ?_
  rintro c H' ⟨rfl, e3, B3, rfl⟩ _
  refine ⟨rfl, rfl, ?_⟩
  simp only [go_sem, ↓reduceIte, Nat.reduceEqDiff, Nat.reduceLT, Nat.reduceLeDiff, Nat.reduceAdd, Nat.reduceMul, Nat.reduceSub, Int.reduceToNat, Int.reduceLT, Int.reduceLE, Int.reduceEq, Int.reduceNeg, Int.reduceAdd, Int.reduceSub, reduceCtorEq]
  refine hei.lend rfl (by simp only [go_sem, ↓reduceIte, Nat.reduceEqDiff, Nat.reduceLT, Nat.reduceLeDiff, Nat.reduceAdd, Nat.reduceMul, Nat.reduceSub, Int.reduceToNat, Int.reduceLT, Int.reduceLE, Int.reduceEq, Int.reduceNeg, Int.reduceAdd, Int.reduceSub, reduceCtorEq]) ?_
  simp only [go_sem, ↓reduceIte, Nat.reduceEqDiff, Nat.reduceLT, Nat.reduceLeDiff, Nat.reduceAdd, Nat.reduceMul, Nat.reduceSub, Int.reduceToNat, Int.reduceLT, Int.reduceLE, Int.reduceEq, Int.reduceNeg, Int.reduceAdd, Int.reduceSub, reduceCtorEq]
  refine (htoa0 (by omega)).callQ rfl ?_
  simp only [go_sem, ↓reduceIte, Nat.reduceEqDiff, Nat.reduceLT, Nat.reduceLeDiff, Nat.reduceAdd, Nat.reduceMul, Nat.reduceSub, Int.reduceToNat, Int.reduceLT, Int.reduceLE, Int.reduceEq, Int.reduceNeg, Int.reduceAdd, Int.reduceSub, reduceCtorEq]
  have hbe : ∀ e1 B1 X, borAll (.tree 1 7 e1 (a0.rels.map Rl.enc) B1 none :: X) [.agg [.own 0 1], .d (.agg a0.enc)] = some [.agg a0.enc, .agg a0.enc] := fun e1 B1 X => by
    rw [Pg.enc_eq a0]; rfl
  refine heqa0.lendQ rfl (hbe _ _ _) ?_
  simp only [go_sem, ↓reduceIte, Nat.reduceEqDiff, Nat.reduceLT, Nat.reduceLeDiff, Nat.reduceAdd, Nat.reduceMul, Nat.reduceSub, Int.reduceToNat, Int.reduceLT, Int.reduceLE, Int.reduceEq, Int.reduceNeg, Int.reduceAdd, Int.reduceSub, reduceCtorEq]
  refine ((hmk _ _ (by omega) (by omega)).frame (X := [_, _, _, _]) rfl rfl ?_)
  rintro c H' ⟨rfl, B5, rfl⟩ _
  simp only [go_sem, ↓reduceIte, Nat.reduceEqDiff, Nat.reduceLT, Nat.reduceLeDiff, Nat.reduceAdd, Nat.reduceMul, Nat.reduceSub, Int.reduceToNat, Int.reduceLT, Int.reduceLE, Int.reduceEq, Int.reduceNeg, Int.reduceAdd, Int.reduceSub, reduceCtorEq]
  repeat' (first
    | (refine br_intro (fun hq => ?_) (fun hq => ?_) <;> (try simp only [decide_eq_true_eq, decide_eq_false_iff_not, bne_iff_ne, beq_iff_eq, beq_eq_false_iff_ne, bne_eq_false_iff_eq, Bool.not_eq_true, Bool.not_eq_false, ne_eq, Decidable.not_not, Int.not_lt, Int.not_le, Bool.not_eq_eq_eq_not, Bool.not_true, Bool.not_false, gt_iff_lt, ge_iff_le, Bool.and_eq_true, Bool.or_eq_true, Bool.or_eq_false_iff, Bool.and_eq_false_imp] at hq) <;> (try simp only [go_sem, ↓reduceIte, Nat.reduceEqDiff, Nat.reduceLT, Nat.reduceLeDiff, Nat.reduceAdd, Nat.reduceMul, Nat.reduceSub, Int.reduceToNat, Int.reduceLT, Int.reduceLE, Int.reduceEq, Int.reduceNeg, Int.reduceAdd, Int.reduceSub, reduceCtorEq, C.at1, hq]))
    | (refine idx_intro (fun x hx => ?_) <;> (try simp only [go_sem, ↓reduceIte, Nat.reduceEqDiff, Nat.reduceLT, Nat.reduceLeDiff, Nat.reduceAdd, Nat.reduceMul, Nat.reduceSub, Int.reduceToNat, Int.reduceLT, Int.reduceLE, Int.reduceEq, Int.reduceNeg, Int.reduceAdd, Int.reduceSub, reduceCtorEq, C.at1, hx]))
    | (simp (disch := omega) only [wrap_ok])
    | (refine hei.lend rfl (by simp only [go_sem, ↓reduceIte, Nat.reduceEqDiff, Nat.reduceLT, Nat.reduceLeDiff, Nat.reduceAdd, Nat.reduceMul, Nat.reduceSub, Int.reduceToNat, Int.reduceLT, Int.reduceLE, Int.reduceEq, Int.reduceNeg, Int.reduceAdd, Int.reduceSub, reduceCtorEq]) ?_ <;> (try simp only [go_sem, ↓reduceIte, Nat.reduceEqDiff, Nat.reduceLT, Nat.reduceLeDiff, Nat.reduceAdd, Nat.reduceMul, Nat.reduceSub, Int.reduceToNat, Int.reduceLT, Int.reduceLE, Int.reduceEq, Int.reduceNeg, Int.reduceAdd, Int.reduceSub, reduceCtorEq, C.at1]))
    | (refine hhd.lend rfl (by simp only [go_sem, ↓reduceIte, Nat.reduceEqDiff, Nat.reduceLT, Nat.reduceLeDiff, Nat.reduceAdd, Nat.reduceMul, Nat.reduceSub, Int.reduceToNat, Int.reduceLT, Int.reduceLE, Int.reduceEq, Int.reduceNeg, Int.reduceAdd, Int.reduceSub, reduceCtorEq]) ?_ <;> (try simp only [go_sem, ↓reduceIte, Nat.reduceEqDiff, Nat.reduceLT, Nat.reduceLeDiff, Nat.reduceAdd, Nat.reduceMul, Nat.reduceSub, Int.reduceToNat, Int.reduceLT, Int.reduceLE, Int.reduceEq, Int.reduceNeg, Int.reduceAdd, Int.reduceSub, reduceCtorEq, C.at1]))
    | (refine (htoa0 (by omega)).calls rfl ?_ <;> (try simp only [go_sem, ↓reduceIte, Nat.reduceEqDiff, Nat.reduceLT, Nat.reduceLeDiff, Nat.reduceAdd, Nat.reduceMul, Nat.reduceSub, Int.reduceToNat, Int.reduceLT, Int.reduceLE, Int.reduceEq, Int.reduceNeg, Int.reduceAdd, Int.reduceSub, reduceCtorEq, C.at1]))
    | (refine (hmi 1 _ _).at1 rfl 1 rfl rfl ?_ <;> (rintro c o' ⟨rfl, B7, ho⟩; cases ho; refine ⟨rfl, rfl, ?_⟩) <;> (try simp only [go_sem, ↓reduceIte, Nat.reduceEqDiff, Nat.reduceLT, Nat.reduceLeDiff, Nat.reduceAdd, Nat.reduceMul, Nat.reduceSub, Int.reduceToNat, Int.reduceLT, Int.reduceLE, Int.reduceEq, Int.reduceNeg, Int.reduceAdd, Int.reduceSub, reduceCtorEq, C.at1]))
    | (refine ACalls.fresh (ds := [.agg a0.enc]) (m := 1) hg [2] rfl rfl (by simp) (by simp) ?_ <;> (rintro c H' ⟨rfl, e8, B8, rfl⟩ _; refine ⟨rfl, rfl, ?_⟩) <;> (try simp only [go_sem, ↓reduceIte, Nat.reduceEqDiff, Nat.reduceLT, Nat.reduceLeDiff, Nat.reduceAdd, Nat.reduceMul, Nat.reduceSub, Int.reduceToNat, Int.reduceLT, Int.reduceLE, Int.reduceEq, Int.reduceNeg, Int.reduceAdd, Int.reduceSub, reduceCtorEq, C.at1]))
    | (refine ⟨by first | omega | assumption | (simp; done) | (simp; omega), ?_⟩ <;> (try simp only [go_sem, ↓reduceIte, Nat.reduceEqDiff, Nat.reduceLT, Nat.reduceLeDiff, Nat.reduceAdd, Nat.reduceMul, Nat.reduceSub, Int.reduceToNat, Int.reduceLT, Int.reduceLE, Int.reduceEq, Int.reduceNeg, Int.reduceAdd, Int.reduceSub, reduceCtorEq, C.at1]))
    | assumption)
  all_goals first | (exfalso; omega) | skip
end Go.Proofs.Ytljdpohdfnileaa

