/- The law FnExactProofHeight: both texts answer alike on every proof. -/
import Derived.Test.YtiihkdmmanaooaaPSLaw
namespace Go.Proofs.Ytiihkdmmanaooaa.pheight
open Go.Abs Go.Proofs.Ytiihkdmmanaooaa.psize Go.Proofs.Ytiihkdmmanaooaa.psizeLaw
set_option maxRecDepth 100000
set_option linter.unusedSimpArgs false
set_option linter.unusedVariables false

theorem ty3_a : tAgg Try.prog 3 = some false := by kernel_rfl
theorem ty3_s : tSize Try.prog 3 = some 1 := by kernel_rfl
theorem ty3_n : tInt Try.prog 3 = some Go.IntKind.i64 := by kernel_rfl
theorem ty3_u : (Try.prog.underlying 3).isSome = true := by kernel_rfl
theorem ty31_a : tAgg Try.prog 31 = some false := by kernel_rfl
theorem ty31_s : tSize Try.prog 31 = some 1 := by kernel_rfl
theorem ty31_i : tIsSlice Try.prog 31 = true := by kernel_rfl
theorem ty31_e : tElem Try.prog 31 = some 33 := by kernel_rfl
theorem ty31_l : tSlice Try.prog 31 = some (33, 4, 72) := by kernel_rfl
theorem ty31_t : tIsStr Try.prog 31 = false := by kernel_rfl
theorem ty31_u : (Try.prog.underlying 31).isSome = true := by kernel_rfl
theorem ty27_a : tAgg Try.prog 27 = some true := by kernel_rfl
theorem ty27_s : tSize Try.prog 27 = some 4 := by kernel_rfl
theorem ty27_f0 : tField Try.prog 27 0 = some (0, 9) := by kernel_rfl
theorem ty27_f1 : tField Try.prog 27 1 = some (1, 3) := by kernel_rfl
theorem ty27_f2 : tField Try.prog 27 2 = some (2, 24) := by kernel_rfl
theorem ty27_f3 : tField Try.prog 27 3 = some (3, 25) := by kernel_rfl
theorem ty33_a : tAgg Try.prog 33 = some true := by kernel_rfl
theorem ty33_s : tSize Try.prog 33 = some 4 := by kernel_rfl
theorem ty33_f0 : tField Try.prog 33 0 = some (0, 9) := by kernel_rfl
theorem ty33_f1 : tField Try.prog 33 1 = some (1, 3) := by kernel_rfl
theorem ty33_f2 : tField Try.prog 33 2 = some (2, 30) := by kernel_rfl
theorem ty33_f3 : tField Try.prog 33 3 = some (3, 31) := by kernel_rfl
theorem tz33 : tZero Try.prog 33 = some [.string ⟨#[]⟩, .int .i64 0, .slice none 0 0, .slice none 0 0] := by kernel_rfl
theorem tz3 : tZero Try.prog 3 = some [.int .i64 0] := by kernel_rfl
theorem go5 : isGo Try.prog 5 = true := by kernel_rfl
theorem go11 : isGo Try.prog 11 = true := by kernel_rfl
theorem go12 : isGo Try.prog 12 = true := by kernel_rfl
theorem go13 : isGo Try.prog 13 = true := by kernel_rfl
theorem go15 : isGo Try.prog 15 = true := by kernel_rfl
theorem go16 : isGo Try.prog 16 = true := by kernel_rfl
theorem go17 : isGo Try.prog 17 = true := by kernel_rfl
theorem go39 : isGo Try.prog 39 = true := by kernel_rfl
theorem go42 : isGo Try.prog 42 = true := by kernel_rfl
theorem go45 : isGo Try.prog 45 = true := by kernel_rfl
theorem tyS : type_of% (And.intro ty3_a <| And.intro ty3_s <| And.intro ty3_n <| And.intro ty3_u <| And.intro ty31_a <| And.intro ty31_s <| And.intro ty31_i <| And.intro ty31_e <| And.intro ty31_l <| And.intro ty31_t <| And.intro ty31_u <| And.intro ty27_a <| And.intro ty27_s <| And.intro ty27_f0 <| And.intro ty27_f1 <| And.intro ty27_f2 <| And.intro ty27_f3 <| And.intro ty33_a <| And.intro ty33_s <| And.intro ty33_f0 <| And.intro ty33_f1 <| And.intro ty33_f2 <| And.intro ty33_f3 <| And.intro tz33 <| And.intro tz3 <| And.intro go5 <| And.intro go11 <| And.intro go12 <| And.intro go13 <| And.intro go15 <| And.intro go16 <| And.intro go17 <| And.intro go39 <| And.intro go42 <| go45) := And.intro ty3_a <| And.intro ty3_s <| And.intro ty3_n <| And.intro ty3_u <| And.intro ty31_a <| And.intro ty31_s <| And.intro ty31_i <| And.intro ty31_e <| And.intro ty31_l <| And.intro ty31_t <| And.intro ty31_u <| And.intro ty27_a <| And.intro ty27_s <| And.intro ty27_f0 <| And.intro ty27_f1 <| And.intro ty27_f2 <| And.intro ty27_f3 <| And.intro ty33_a <| And.intro ty33_s <| And.intro ty33_f0 <| And.intro ty33_f1 <| And.intro ty33_f2 <| And.intro ty33_f3 <| And.intro tz33 <| And.intro tz3 <| And.intro go5 <| And.intro go11 <| And.intro go12 <| And.intro go13 <| And.intro go15 <| And.intro go16 <| And.intro go17 <| And.intro go39 <| And.intro go42 <| go45

theorem hgt45 (g : List D → Int) (a0 : List UInt8) (a1 : Int) (a2 ks : List (List D)) (hb : wtR ks ≤ 1048576) (hg : ∀ k, k ∈ ks → 0 ≤ g k ∧ g k ≤ 1 + wtL k)
    (hk : ∀ k, k ∈ ks → (∃ b0 b1 b2 b3, k = [.str b0, .int .i64 b1, .sl b2, .sl b3]) ∧ Gives Try.prog 45 [.agg k] (.d (.int .i64 (g k)))) :
    Gives Try.prog 45 [.agg [.str a0, .int .i64 a1, .sl a2, .sl ks]] (.d (.int .i64 (hgtL g ks 0))) := by
  have hlen := sumW_le ks 0
  simp only [sumW] at hlen
  refine ACalls.enter (fn := Try.f45) Try.func45 rfl (by show 1 ≤ _; decide) ?_
  refine run_sound Try.func45 mixed 100 _ _ (by kernel_rfl) ?_
  simp only [vcS, ev, Abs.get, Abs.put, okDst, okOperand, Abs.Value.flat, cv, cv1, norm1, norm, single, C.refsLtT, C.refsLt, C.refsLt1, O.refsLt, okCells, cellsOf, dataCells, toDs, C.cell, D.cell, cvD, cvDs, exitTo, List.length, List.range, List.range.loop, List.zip, List.zipWith, List.map, List.take, List.drop, List.all, List.any, List.getD, List.set, ↓reduceIte, Nat.reduceEqDiff, Nat.reduceLT, Nat.reduceLeDiff, Nat.reduceAdd, Nat.reduceMul, Nat.reduceSub, reduceCtorEq, ne_eq, List.nil_append, List.cons_append, List.append_nil, List.getElem?_cons_zero, List.getElem?_cons_succ, Option.getD_some, Option.getD_none, Option.map_some, Option.map_none, Option.bind_some, Option.bind_none, Option.all_some, Option.all_none, List.getElem?_toArray, List.size_toArray, List.toList_toArray, List.all_toArray, List.length_nil, List.length_cons, beq_self_eq_true, beq_iff_eq, Bool.beq_eq_decide_eq, tyS, Try.f45]
  refine AW.loop_ind (fun p : Nat × Int => ⟨[(10, .d (.int .i64 p.1)), (8, .d (.sl ks)), (9, .d (.int .i64 ks.length)), (3, .d (.int .i64 p.2))], []⟩)
    (fun p => p.1 ≤ ks.length ∧ 0 ≤ p.2 ∧ p.2 ≤ 1048577 ∧ hgtL g (ks.drop p.1) p.2 = hgtL g ks 0) (fun p => ks.length - p.1) (0, 0) ⟨by simp, by simp, by simp, rfl⟩ ?_ ?_
  · refine ⟨by simp, by simp, by simp, ?_⟩
    simp [Abs.get, C.refsLtT, C.refsLt, C.refsLt1]
  · rintro ⟨i, n⟩ ⟨hi, hn1, hn2, hinv⟩ hnext
    dsimp only at hi hn1 hn2 hinv hnext ⊢
    by_cases h : i < ks.length
    · obtain ⟨x, hxi⟩ : ∃ x, ks[i]? = some x := ⟨_, List.getElem?_eq_getElem h⟩
      have hgx := hg x (List.mem_of_getElem? hxi)
      have hsum := sumW_at hxi
      have hs' := sumW_le ks (i + 1)
      have hlt : ((i : Int) < (ks.length : Int)) = True := by simp; omega
      have h00 : (0 ≤ (i : Int)) = True := by simp
      have hdrop : ks.drop i = x :: ks.drop (i + 1) := by
        obtain ⟨h2, h3⟩ := List.getElem?_eq_some_iff.1 hxi
        rw [← h3]; exact List.drop_eq_getElem_cons h2
      rw [hdrop] at hinv
      simp only [hgtL, mx] at hinv
      obtain ⟨⟨b0, b1, b2, b3, rfl⟩, e2⟩ := hk x (List.mem_of_getElem? hxi)
      refine run_sound Try.func45 mixed 100 _ _ (by kernel_rfl) ?_
      simp only [vcS, ev, Abs.get, Abs.put, okDst, okOperand, Abs.Value.flat, cv, cv1, norm1, norm, single, C.refsLtT, C.refsLt, C.refsLt1, O.refsLt, okCells, cellsOf, dataCells, toDs, C.cell, D.cell, cvD, cvDs, exitTo, List.length, List.range, List.range.loop, List.zip, List.zipWith, List.map, List.take, List.drop, List.all, List.any, List.getD, List.set, ↓reduceIte, Nat.reduceEqDiff, Nat.reduceLT, Nat.reduceLeDiff, Nat.reduceAdd, Nat.reduceMul, Nat.reduceSub, reduceCtorEq, ne_eq, List.nil_append, List.cons_append, List.append_nil, List.getElem?_cons_zero, List.getElem?_cons_succ, Option.getD_some, Option.getD_none, Option.map_some, Option.map_none, Option.bind_some, Option.bind_none, Option.all_some, Option.all_none, List.getElem?_toArray, List.size_toArray, List.toList_toArray, List.all_toArray, List.length_nil, List.length_cons, beq_self_eq_true, beq_iff_eq, Bool.beq_eq_decide_eq, tyS, Try.f45, Int.toNat_natCast, hlt, hxi, h00]
      refine e2.calls rfl ?_
      simp only [vcS, ev, Abs.get, Abs.put, okDst, okOperand, Abs.Value.flat, cv, cv1, norm1, norm, single, C.refsLtT, C.refsLt, C.refsLt1, O.refsLt, okCells, cellsOf, dataCells, toDs, C.cell, D.cell, cvD, cvDs, exitTo, List.length, List.range, List.range.loop, List.zip, List.zipWith, List.map, List.take, List.drop, List.all, List.any, List.getD, List.set, ↓reduceIte, Nat.reduceEqDiff, Nat.reduceLT, Nat.reduceLeDiff, Nat.reduceAdd, Nat.reduceMul, Nat.reduceSub, reduceCtorEq, ne_eq, List.nil_append, List.cons_append, List.append_nil, List.getElem?_cons_zero, List.getElem?_cons_succ, Option.getD_some, Option.getD_none, Option.map_some, Option.map_none, Option.bind_some, Option.bind_none, Option.all_some, Option.all_none, List.getElem?_toArray, List.size_toArray, List.toList_toArray, List.all_toArray, List.length_nil, List.length_cons, beq_self_eq_true, beq_iff_eq, Bool.beq_eq_decide_eq, tyS, Try.f45]
      refine br_intro (fun h => ?_) (fun h => ?_)
      · simp only [decide_eq_true_eq] at h
        rw [if_pos (by omega)] at hinv
        simp only [vcS, ev, Abs.get, Abs.put, okDst, okOperand, Abs.Value.flat, cv, cv1, norm1, norm, single, C.refsLtT, C.refsLt, C.refsLt1, O.refsLt, okCells, cellsOf, dataCells, toDs, C.cell, D.cell, cvD, cvDs, exitTo, List.length, List.range, List.range.loop, List.zip, List.zipWith, List.map, List.take, List.drop, List.all, List.any, List.getD, List.set, ↓reduceIte, Nat.reduceEqDiff, Nat.reduceLT, Nat.reduceLeDiff, Nat.reduceAdd, Nat.reduceMul, Nat.reduceSub, reduceCtorEq, ne_eq, List.nil_append, List.cons_append, List.append_nil, List.getElem?_cons_zero, List.getElem?_cons_succ, Option.getD_some, Option.getD_none, Option.map_some, Option.map_none, Option.bind_some, Option.bind_none, Option.all_some, Option.all_none, List.getElem?_toArray, List.size_toArray, List.toList_toArray, List.all_toArray, List.length_nil, List.length_cons, beq_self_eq_true, beq_iff_eq, Bool.beq_eq_decide_eq, tyS, Try.f45]
        rw [wrap_ok (by omega) (by omega)]
        refine hnext (i + 1, _) _ ⟨by dsimp only; omega, ?_, ?_, hinv⟩ (by dsimp only; omega) ?_
        · dsimp only; omega
        · dsimp only; omega
        · refine ⟨by simp, by simp, by simp, ?_⟩
          simp [Abs.get, C.refsLtT, C.refsLt, C.refsLt1]
      · simp only [decide_eq_false_iff_not] at h
        rw [if_neg (by omega)] at hinv
        simp only [vcS, ev, Abs.get, Abs.put, okDst, okOperand, Abs.Value.flat, cv, cv1, norm1, norm, single, C.refsLtT, C.refsLt, C.refsLt1, O.refsLt, okCells, cellsOf, dataCells, toDs, C.cell, D.cell, cvD, cvDs, exitTo, List.length, List.range, List.range.loop, List.zip, List.zipWith, List.map, List.take, List.drop, List.all, List.any, List.getD, List.set, ↓reduceIte, Nat.reduceEqDiff, Nat.reduceLT, Nat.reduceLeDiff, Nat.reduceAdd, Nat.reduceMul, Nat.reduceSub, reduceCtorEq, ne_eq, List.nil_append, List.cons_append, List.append_nil, List.getElem?_cons_zero, List.getElem?_cons_succ, Option.getD_some, Option.getD_none, Option.map_some, Option.map_none, Option.bind_some, Option.bind_none, Option.all_some, Option.all_none, List.getElem?_toArray, List.size_toArray, List.toList_toArray, List.all_toArray, List.length_nil, List.length_cons, beq_self_eq_true, beq_iff_eq, Bool.beq_eq_decide_eq, tyS, Try.f45]
        rw [wrap_ok (by omega) (by omega)]
        refine hnext (i + 1, _) _ ⟨by dsimp only; omega, ?_, ?_, hinv⟩ (by dsimp only; omega) ?_
        · dsimp only; omega
        · dsimp only; omega
        · refine ⟨by simp, by simp, by simp, ?_⟩
          simp [Abs.get, C.refsLtT, C.refsLt, C.refsLt1]
    · have hlt : ((i : Int) < (ks.length : Int)) = False := by simp; omega
      have hd : ks.drop i = [] := List.drop_eq_nil_of_le (by omega)
      rw [hd, hgtL] at hinv
      refine run_sound Try.func45 mixed 100 _ _ (by kernel_rfl) ?_
      simp only [vcS, ev, Abs.get, Abs.put, okDst, okOperand, Abs.Value.flat, cv, cv1, norm1, norm, single, C.refsLtT, C.refsLt, C.refsLt1, O.refsLt, okCells, cellsOf, dataCells, toDs, C.cell, D.cell, cvD, cvDs, exitTo, List.length, List.range, List.range.loop, List.zip, List.zipWith, List.map, List.take, List.drop, List.all, List.any, List.getD, List.set, ↓reduceIte, Nat.reduceEqDiff, Nat.reduceLT, Nat.reduceLeDiff, Nat.reduceAdd, Nat.reduceMul, Nat.reduceSub, reduceCtorEq, ne_eq, List.nil_append, List.cons_append, List.append_nil, List.getElem?_cons_zero, List.getElem?_cons_succ, Option.getD_some, Option.getD_none, Option.map_some, Option.map_none, Option.bind_some, Option.bind_none, Option.all_some, Option.all_none, List.getElem?_toArray, List.size_toArray, List.toList_toArray, List.all_toArray, List.length_nil, List.length_cons, beq_self_eq_true, beq_iff_eq, Bool.beq_eq_decide_eq, tyS, Try.f45, Int.toNat_natCast, hlt]
      rw [wrap_ok (by omega) (by omega), hinv]

theorem hgtL_le {g : List D → Int} (hg : ∀ k, 0 ≤ g k ∧ g k ≤ 1 + wtL k) : ∀ (l : List (List D)) (h b : Int), 0 ≤ h → h ≤ b → wtR l ≤ b → 0 ≤ hgtL g l h ∧ hgtL g l h ≤ 1 + b
  | [], h, b, h0, h1, _ => by simp only [hgtL]; omega
  | k :: r, h, b, h0, h1, hb => by
    unfold hgtL
    simp only [wtR] at hb
    have hk := hg k
    exact hgtL_le hg r _ b (by unfold mx; split <;> omega) (by unfold mx; split <;> omega) (by omega)

theorem hgt_le : ∀ (m : Nat) (x : List D), 0 ≤ hgt m x ∧ hgt m x ≤ 1 + wtL x
  | 0, x => by simp only [hgt]; omega
  | m + 1, x => by
    have h1 := hgtL_le (g := hgt m) (fun k => hgt_le m k) (kids x) 0 (wtR (kids x)) (by omega) (by omega) (by omega)
    have h2 := wt_kids x
    simp only [hgt]; omega

theorem hgt_fn : ∀ (m : Nat) (x : List D), wtL x < m → wtL x ≤ 1048576 → Sh Try.prog 27 x → Gives Try.prog 45 [.agg x] (.d (.int .i64 (hgt m x)))
  | 0, _, h, _, _ => by omega
  | m + 1, x, hm, hb, h => by
    obtain ⟨a0, a1, a2, a3, rfl, q0, q1, q2, q3⟩ := fam.inv27 h
    have hw : wtL [D.str a0, D.int IntKind.i64 a1, D.sl a2, D.sl a3] = a0.length + wtR a2 + wtR a3 := by simp only [wtL, D.wt] <;> omega
    exact hgt45 (hgt m) a0 a1 a2 a3 (by omega) (fun k _ => hgt_le m k) (fun k hk => ⟨by
      obtain ⟨b0, b1, b2, b3, rfl, _⟩ := fam.inv27 (q3.2 k hk)
      exact ⟨b0, b1, b2, b3, rfl⟩, hgt_fn m k (by have := wtL_lt a3 k hk; omega) (by have := wtL_lt a3 k hk; omega) (q3.2 k hk)⟩)

def ph (x : List D) : Int := if cnt (wtL x + 1) x 200 > 200 then 0 else hgt (wtL x + 1) x

theorem spec_fn (x : List D) (hb : wtL x ≤ 1048576) (h : Sh Try.prog 27 x) : Gives Try.prog 16 [.agg x] (.d (.int .i64 (ph x))) := by
  have hs := psizeLaw.spec_fn x hb h
  have hh := hgt_fn _ x (Nat.lt_succ_self _) hb h
  have hp := cnt_le (wtL x + 1) x 200
  unfold ph
  unfold ps at hs
  generalize cnt (wtL x + 1) x 200 = r at hs hp
  generalize hgt (wtL x + 1) x = r' at hh
  obtain ⟨a0, a1, a2, a3, rfl, q⟩ := fam.inv27 h
  refine ACalls.enter (fn := Try.f16) Try.func16 rfl (by show 1 ≤ _; decide) ?_
  refine run_sound Try.func16 mixed 100 _ _ (by kernel_rfl) ?_
  simp only [vcS, ev, Abs.get, Abs.put, okDst, okOperand, Abs.Value.flat, cv, cv1, norm1, norm, single, C.refsLtT, C.refsLt, C.refsLt1, O.refsLt, okCells, cellsOf, dataCells, toDs, C.cell, D.cell, cvD, cvDs, exitTo, List.length, List.range, List.range.loop, List.zip, List.zipWith, List.map, List.take, List.drop, List.all, List.any, List.getD, List.set, ↓reduceIte, Nat.reduceEqDiff, Nat.reduceLT, Nat.reduceLeDiff, Nat.reduceAdd, Nat.reduceMul, Nat.reduceSub, reduceCtorEq, ne_eq, List.nil_append, List.cons_append, List.append_nil, List.getElem?_cons_zero, List.getElem?_cons_succ, Option.getD_some, Option.getD_none, Option.map_some, Option.map_none, Option.bind_some, Option.bind_none, Option.all_some, Option.all_none, List.getElem?_toArray, List.size_toArray, List.toList_toArray, List.all_toArray, List.length_nil, List.length_cons, beq_self_eq_true, beq_iff_eq, Bool.beq_eq_decide_eq, tyS, Try.f16]
  refine hs.calls rfl ?_
  simp only [vcS, ev, Abs.get, Abs.put, okDst, okOperand, Abs.Value.flat, cv, cv1, norm1, norm, single, C.refsLtT, C.refsLt, C.refsLt1, O.refsLt, okCells, cellsOf, dataCells, toDs, C.cell, D.cell, cvD, cvDs, exitTo, List.length, List.range, List.range.loop, List.zip, List.zipWith, List.map, List.take, List.drop, List.all, List.any, List.getD, List.set, ↓reduceIte, Nat.reduceEqDiff, Nat.reduceLT, Nat.reduceLeDiff, Nat.reduceAdd, Nat.reduceMul, Nat.reduceSub, reduceCtorEq, ne_eq, List.nil_append, List.cons_append, List.append_nil, List.getElem?_cons_zero, List.getElem?_cons_succ, Option.getD_some, Option.getD_none, Option.map_some, Option.map_none, Option.bind_some, Option.bind_none, Option.all_some, Option.all_none, List.getElem?_toArray, List.size_toArray, List.toList_toArray, List.all_toArray, List.length_nil, List.length_cons, beq_self_eq_true, beq_iff_eq, Bool.beq_eq_decide_eq, tyS, Try.f16]
  by_cases e : r > 200
  · simp only [vcS, ev, Abs.get, Abs.put, okDst, okOperand, Abs.Value.flat, cv, cv1, norm1, norm, single, C.refsLtT, C.refsLt, C.refsLt1, O.refsLt, okCells, cellsOf, dataCells, toDs, C.cell, D.cell, cvD, cvDs, exitTo, List.length, List.range, List.range.loop, List.zip, List.zipWith, List.map, List.take, List.drop, List.all, List.any, List.getD, List.set, ↓reduceIte, Nat.reduceEqDiff, Nat.reduceLT, Nat.reduceLeDiff, Nat.reduceAdd, Nat.reduceMul, Nat.reduceSub, reduceCtorEq, ne_eq, List.nil_append, List.cons_append, List.append_nil, List.getElem?_cons_zero, List.getElem?_cons_succ, Option.getD_some, Option.getD_none, Option.map_some, Option.map_none, Option.bind_some, Option.bind_none, Option.all_some, Option.all_none, List.getElem?_toArray, List.size_toArray, List.toList_toArray, List.all_toArray, List.length_nil, List.length_cons, beq_self_eq_true, beq_iff_eq, Bool.beq_eq_decide_eq, tyS, Try.f16, if_pos e]
  · have e0 : (r = 0) = False := by simp; omega
    simp only [vcS, ev, Abs.get, Abs.put, okDst, okOperand, Abs.Value.flat, cv, cv1, norm1, norm, single, C.refsLtT, C.refsLt, C.refsLt1, O.refsLt, okCells, cellsOf, dataCells, toDs, C.cell, D.cell, cvD, cvDs, exitTo, List.length, List.range, List.range.loop, List.zip, List.zipWith, List.map, List.take, List.drop, List.all, List.any, List.getD, List.set, ↓reduceIte, Nat.reduceEqDiff, Nat.reduceLT, Nat.reduceLeDiff, Nat.reduceAdd, Nat.reduceMul, Nat.reduceSub, reduceCtorEq, ne_eq, List.nil_append, List.cons_append, List.append_nil, List.getElem?_cons_zero, List.getElem?_cons_succ, Option.getD_some, Option.getD_none, Option.map_some, Option.map_none, Option.bind_some, Option.bind_none, Option.all_some, Option.all_none, List.getElem?_toArray, List.size_toArray, List.toList_toArray, List.all_toArray, List.length_nil, List.length_cons, beq_self_eq_true, beq_iff_eq, Bool.beq_eq_decide_eq, tyS, Try.f16, if_neg e, e0]
    refine hh.calls rfl ?_
    simp only [vcS, ev, Abs.get, Abs.put, okDst, okOperand, Abs.Value.flat, cv, cv1, norm1, norm, single, C.refsLtT, C.refsLt, C.refsLt1, O.refsLt, okCells, cellsOf, dataCells, toDs, C.cell, D.cell, cvD, cvDs, exitTo, List.length, List.range, List.range.loop, List.zip, List.zipWith, List.map, List.take, List.drop, List.all, List.any, List.getD, List.set, ↓reduceIte, Nat.reduceEqDiff, Nat.reduceLT, Nat.reduceLeDiff, Nat.reduceAdd, Nat.reduceMul, Nat.reduceSub, reduceCtorEq, ne_eq, List.nil_append, List.cons_append, List.append_nil, List.getElem?_cons_zero, List.getElem?_cons_succ, Option.getD_some, Option.getD_none, Option.map_some, Option.map_none, Option.bind_some, Option.bind_none, Option.all_some, Option.all_none, List.getElem?_toArray, List.size_toArray, List.toList_toArray, List.all_toArray, List.length_nil, List.length_cons, beq_self_eq_true, beq_iff_eq, Bool.beq_eq_decide_eq, tyS, Try.f16]

theorem impl_fn (x : List D) (hb : wtL x ≤ 1048576) (h : Sh Try.prog 27 x) : Gives Try.prog 17 [.agg x] (.d (.int .i64 (ph x))) := by
  have hc := mea_fn _ x (Nat.lt_succ_self _) hb h 0 (by omega) (by omega)
  have e := mea_cnt (wtL x + 1) x 0
  have eh := mea_hgt (wtL x + 1) x 0
  rw [show (200 : Int) - 0 = 200 by rfl, Int.zero_add] at e
  unfold ph
  rw [← e]
  generalize mea (wtL x + 1) x 0 = r at hc eh
  generalize hgt (wtL x + 1) x = r' at eh
  obtain ⟨a0, a1, a2, a3, rfl, q⟩ := fam.inv27 h
  refine ACalls.enter (fn := Try.f17) Try.func17 rfl (by show 1 ≤ _; decide) ?_
  refine run_sound Try.func17 mixed 100 _ _ (by kernel_rfl) ?_
  simp only [vcS, ev, Abs.get, Abs.put, okDst, okOperand, Abs.Value.flat, cv, cv1, norm1, norm, single, C.refsLtT, C.refsLt, C.refsLt1, O.refsLt, okCells, cellsOf, dataCells, toDs, C.cell, D.cell, cvD, cvDs, exitTo, List.length, List.range, List.range.loop, List.zip, List.zipWith, List.map, List.take, List.drop, List.all, List.any, List.getD, List.set, ↓reduceIte, Nat.reduceEqDiff, Nat.reduceLT, Nat.reduceLeDiff, Nat.reduceAdd, Nat.reduceMul, Nat.reduceSub, reduceCtorEq, ne_eq, List.nil_append, List.cons_append, List.append_nil, List.getElem?_cons_zero, List.getElem?_cons_succ, Option.getD_some, Option.getD_none, Option.map_some, Option.map_none, Option.bind_some, Option.bind_none, Option.all_some, Option.all_none, List.getElem?_toArray, List.size_toArray, List.toList_toArray, List.all_toArray, List.length_nil, List.length_cons, beq_self_eq_true, beq_iff_eq, Bool.beq_eq_decide_eq, tyS, Try.f17]
  refine ACalls.at1 hc rfl 1 rfl rfl ?_
  rintro v o' ⟨rfl, ho⟩
  cases ho
  refine ⟨rfl, rfl, ?_⟩
  simp only [vcS, ev, Abs.get, Abs.put, okDst, okOperand, Abs.Value.flat, cv, cv1, norm1, norm, single, C.refsLtT, C.refsLt, C.refsLt1, O.refsLt, okCells, cellsOf, dataCells, toDs, C.cell, D.cell, cvD, cvDs, exitTo, List.length, List.range, List.range.loop, List.zip, List.zipWith, List.map, List.take, List.drop, List.all, List.any, List.getD, List.set, ↓reduceIte, Nat.reduceEqDiff, Nat.reduceLT, Nat.reduceLeDiff, Nat.reduceAdd, Nat.reduceMul, Nat.reduceSub, reduceCtorEq, ne_eq, List.nil_append, List.cons_append, List.append_nil, List.getElem?_cons_zero, List.getElem?_cons_succ, Option.getD_some, Option.getD_none, Option.map_some, Option.map_none, Option.bind_some, Option.bind_none, Option.all_some, Option.all_none, List.getElem?_toArray, List.size_toArray, List.toList_toArray, List.all_toArray, List.length_nil, List.length_cons, beq_self_eq_true, beq_iff_eq, Bool.beq_eq_decide_eq, tyS, Try.f17, C.at1]
  refine br_intro (fun h => ?_) (fun h => ?_)
  · simp only [decide_eq_true_eq] at h
    simp only [vcS, ev, Abs.get, Abs.put, okDst, okOperand, Abs.Value.flat, cv, cv1, norm1, norm, single, C.refsLtT, C.refsLt, C.refsLt1, O.refsLt, okCells, cellsOf, dataCells, toDs, C.cell, D.cell, cvD, cvDs, exitTo, List.length, List.range, List.range.loop, List.zip, List.zipWith, List.map, List.take, List.drop, List.all, List.any, List.getD, List.set, ↓reduceIte, Nat.reduceEqDiff, Nat.reduceLT, Nat.reduceLeDiff, Nat.reduceAdd, Nat.reduceMul, Nat.reduceSub, reduceCtorEq, ne_eq, List.nil_append, List.cons_append, List.append_nil, List.getElem?_cons_zero, List.getElem?_cons_succ, Option.getD_some, Option.getD_none, Option.map_some, Option.map_none, Option.bind_some, Option.bind_none, Option.all_some, Option.all_none, List.getElem?_toArray, List.size_toArray, List.toList_toArray, List.all_toArray, List.length_nil, List.length_cons, beq_self_eq_true, beq_iff_eq, Bool.beq_eq_decide_eq, tyS, Try.f17, if_pos h]
  · simp only [decide_eq_false_iff_not] at h
    simp only [vcS, ev, Abs.get, Abs.put, okDst, okOperand, Abs.Value.flat, cv, cv1, norm1, norm, single, C.refsLtT, C.refsLt, C.refsLt1, O.refsLt, okCells, cellsOf, dataCells, toDs, C.cell, D.cell, cvD, cvDs, exitTo, List.length, List.range, List.range.loop, List.zip, List.zipWith, List.map, List.take, List.drop, List.all, List.any, List.getD, List.set, ↓reduceIte, Nat.reduceEqDiff, Nat.reduceLT, Nat.reduceLeDiff, Nat.reduceAdd, Nat.reduceMul, Nat.reduceSub, reduceCtorEq, ne_eq, List.nil_append, List.cons_append, List.append_nil, List.getElem?_cons_zero, List.getElem?_cons_succ, Option.getD_some, Option.getD_none, Option.map_some, Option.map_none, Option.bind_some, Option.bind_none, Option.all_some, Option.all_none, List.getElem?_toArray, List.size_toArray, List.toList_toArray, List.all_toArray, List.length_nil, List.length_cons, beq_self_eq_true, beq_iff_eq, Bool.beq_eq_decide_eq, tyS, Try.f17, if_neg h, eh (by omega)]

theorem law (x : List D) (h : Sh Try.prog 27 x) : Gives Try.prog 5 [.agg x] (.d (.bool true)) := by
  have hsz := fam.szc27 _ x (Nat.lt_succ_self _) h 1048576 (by omega) (by omega)
  have hto := fun hb => fam.toc27 _ x (Nat.lt_succ_self _) hb h
  have heq := fam.eqc27 _ x (Nat.lt_succ_self _) h
  have hsp := fun hb => spec_fn x hb h
  have him := fun hb => impl_fn x hb h
  generalize ph x = r at hsp him
  generalize wtL x = w at hsz hto hsp him
  obtain ⟨a0, a1, a2, a3, rfl, q⟩ := fam.inv27 h
  refine ACalls.enter (fn := Try.f5) Try.func5 rfl (by show 1 ≤ _; decide) ?_
  refine run_sound Try.func5 mixed 100 _ _ (by kernel_rfl) ?_
  simp only [vcS, ev, Abs.get, Abs.put, okDst, okOperand, Abs.Value.flat, cv, cv1, norm1, norm, single, C.refsLtT, C.refsLt, C.refsLt1, O.refsLt, okCells, cellsOf, dataCells, toDs, C.cell, D.cell, cvD, cvDs, exitTo, List.length, List.range, List.range.loop, List.zip, List.zipWith, List.map, List.take, List.drop, List.all, List.any, List.getD, List.set, ↓reduceIte, Nat.reduceEqDiff, Nat.reduceLT, Nat.reduceLeDiff, Nat.reduceAdd, Nat.reduceMul, Nat.reduceSub, reduceCtorEq, ne_eq, List.nil_append, List.cons_append, List.append_nil, List.getElem?_cons_zero, List.getElem?_cons_succ, Option.getD_some, Option.getD_none, Option.map_some, Option.map_none, Option.bind_some, Option.bind_none, Option.all_some, Option.all_none, List.getElem?_toArray, List.size_toArray, List.toList_toArray, List.all_toArray, List.length_nil, List.length_cons, beq_self_eq_true, beq_iff_eq, Bool.beq_eq_decide_eq, tyS, Try.f5]
  refine hsz.calls rfl ?_
  simp only [vcS, ev, Abs.get, Abs.put, okDst, okOperand, Abs.Value.flat, cv, cv1, norm1, norm, single, C.refsLtT, C.refsLt, C.refsLt1, O.refsLt, okCells, cellsOf, dataCells, toDs, C.cell, D.cell, cvD, cvDs, exitTo, List.length, List.range, List.range.loop, List.zip, List.zipWith, List.map, List.take, List.drop, List.all, List.any, List.getD, List.set, ↓reduceIte, Nat.reduceEqDiff, Nat.reduceLT, Nat.reduceLeDiff, Nat.reduceAdd, Nat.reduceMul, Nat.reduceSub, reduceCtorEq, ne_eq, List.nil_append, List.cons_append, List.append_nil, List.getElem?_cons_zero, List.getElem?_cons_succ, Option.getD_some, Option.getD_none, Option.map_some, Option.map_none, Option.bind_some, Option.bind_none, Option.all_some, Option.all_none, List.getElem?_toArray, List.size_toArray, List.toList_toArray, List.all_toArray, List.length_nil, List.length_cons, beq_self_eq_true, beq_iff_eq, Bool.beq_eq_decide_eq, tyS, Try.f5]
  refine br_intro (fun h => ?_) (fun h => ?_)
  · simp only [vcS, ev, Abs.get, Abs.put, okDst, okOperand, Abs.Value.flat, cv, cv1, norm1, norm, single, C.refsLtT, C.refsLt, C.refsLt1, O.refsLt, okCells, cellsOf, dataCells, toDs, C.cell, D.cell, cvD, cvDs, exitTo, List.length, List.range, List.range.loop, List.zip, List.zipWith, List.map, List.take, List.drop, List.all, List.any, List.getD, List.set, ↓reduceIte, Nat.reduceEqDiff, Nat.reduceLT, Nat.reduceLeDiff, Nat.reduceAdd, Nat.reduceMul, Nat.reduceSub, reduceCtorEq, ne_eq, List.nil_append, List.cons_append, List.append_nil, List.getElem?_cons_zero, List.getElem?_cons_succ, Option.getD_some, Option.getD_none, Option.map_some, Option.map_none, Option.bind_some, Option.bind_none, Option.all_some, Option.all_none, List.getElem?_toArray, List.size_toArray, List.toList_toArray, List.all_toArray, List.length_nil, List.length_cons, beq_self_eq_true, beq_iff_eq, Bool.beq_eq_decide_eq, tyS, Try.f5]
  · simp only [decide_eq_false_iff_not] at h
    have hw := szr_ge h
    have hb : w ≤ 1048576 := by omega
    simp only [vcS, ev, Abs.get, Abs.put, okDst, okOperand, Abs.Value.flat, cv, cv1, norm1, norm, single, C.refsLtT, C.refsLt, C.refsLt1, O.refsLt, okCells, cellsOf, dataCells, toDs, C.cell, D.cell, cvD, cvDs, exitTo, List.length, List.range, List.range.loop, List.zip, List.zipWith, List.map, List.take, List.drop, List.all, List.any, List.getD, List.set, ↓reduceIte, Nat.reduceEqDiff, Nat.reduceLT, Nat.reduceLeDiff, Nat.reduceAdd, Nat.reduceMul, Nat.reduceSub, reduceCtorEq, ne_eq, List.nil_append, List.cons_append, List.append_nil, List.getElem?_cons_zero, List.getElem?_cons_succ, Option.getD_some, Option.getD_none, Option.map_some, Option.map_none, Option.bind_some, Option.bind_none, Option.all_some, Option.all_none, List.getElem?_toArray, List.size_toArray, List.toList_toArray, List.all_toArray, List.length_nil, List.length_cons, beq_self_eq_true, beq_iff_eq, Bool.beq_eq_decide_eq, tyS, Try.f5]
    refine (hto hb).calls rfl ?_
    simp only [vcS, ev, Abs.get, Abs.put, okDst, okOperand, Abs.Value.flat, cv, cv1, norm1, norm, single, C.refsLtT, C.refsLt, C.refsLt1, O.refsLt, okCells, cellsOf, dataCells, toDs, C.cell, D.cell, cvD, cvDs, exitTo, List.length, List.range, List.range.loop, List.zip, List.zipWith, List.map, List.take, List.drop, List.all, List.any, List.getD, List.set, ↓reduceIte, Nat.reduceEqDiff, Nat.reduceLT, Nat.reduceLeDiff, Nat.reduceAdd, Nat.reduceMul, Nat.reduceSub, reduceCtorEq, ne_eq, List.nil_append, List.cons_append, List.append_nil, List.getElem?_cons_zero, List.getElem?_cons_succ, Option.getD_some, Option.getD_none, Option.map_some, Option.map_none, Option.bind_some, Option.bind_none, Option.all_some, Option.all_none, List.getElem?_toArray, List.size_toArray, List.toList_toArray, List.all_toArray, List.length_nil, List.length_cons, beq_self_eq_true, beq_iff_eq, Bool.beq_eq_decide_eq, tyS, Try.f5]
    refine (hsp hb).calls rfl ?_
    simp only [vcS, ev, Abs.get, Abs.put, okDst, okOperand, Abs.Value.flat, cv, cv1, norm1, norm, single, C.refsLtT, C.refsLt, C.refsLt1, O.refsLt, okCells, cellsOf, dataCells, toDs, C.cell, D.cell, cvD, cvDs, exitTo, List.length, List.range, List.range.loop, List.zip, List.zipWith, List.map, List.take, List.drop, List.all, List.any, List.getD, List.set, ↓reduceIte, Nat.reduceEqDiff, Nat.reduceLT, Nat.reduceLeDiff, Nat.reduceAdd, Nat.reduceMul, Nat.reduceSub, reduceCtorEq, ne_eq, List.nil_append, List.cons_append, List.append_nil, List.getElem?_cons_zero, List.getElem?_cons_succ, Option.getD_some, Option.getD_none, Option.map_some, Option.map_none, Option.bind_some, Option.bind_none, Option.all_some, Option.all_none, List.getElem?_toArray, List.size_toArray, List.toList_toArray, List.all_toArray, List.length_nil, List.length_cons, beq_self_eq_true, beq_iff_eq, Bool.beq_eq_decide_eq, tyS, Try.f5]
    refine (hto hb).calls rfl ?_
    simp only [vcS, ev, Abs.get, Abs.put, okDst, okOperand, Abs.Value.flat, cv, cv1, norm1, norm, single, C.refsLtT, C.refsLt, C.refsLt1, O.refsLt, okCells, cellsOf, dataCells, toDs, C.cell, D.cell, cvD, cvDs, exitTo, List.length, List.range, List.range.loop, List.zip, List.zipWith, List.map, List.take, List.drop, List.all, List.any, List.getD, List.set, ↓reduceIte, Nat.reduceEqDiff, Nat.reduceLT, Nat.reduceLeDiff, Nat.reduceAdd, Nat.reduceMul, Nat.reduceSub, reduceCtorEq, ne_eq, List.nil_append, List.cons_append, List.append_nil, List.getElem?_cons_zero, List.getElem?_cons_succ, Option.getD_some, Option.getD_none, Option.map_some, Option.map_none, Option.bind_some, Option.bind_none, Option.all_some, Option.all_none, List.getElem?_toArray, List.size_toArray, List.toList_toArray, List.all_toArray, List.length_nil, List.length_cons, beq_self_eq_true, beq_iff_eq, Bool.beq_eq_decide_eq, tyS, Try.f5]
    refine (him hb).calls rfl ?_
    simp only [vcS, ev, Abs.get, Abs.put, okDst, okOperand, Abs.Value.flat, cv, cv1, norm1, norm, single, C.refsLtT, C.refsLt, C.refsLt1, O.refsLt, okCells, cellsOf, dataCells, toDs, C.cell, D.cell, cvD, cvDs, exitTo, List.length, List.range, List.range.loop, List.zip, List.zipWith, List.map, List.take, List.drop, List.all, List.any, List.getD, List.set, ↓reduceIte, Nat.reduceEqDiff, Nat.reduceLT, Nat.reduceLeDiff, Nat.reduceAdd, Nat.reduceMul, Nat.reduceSub, reduceCtorEq, ne_eq, List.nil_append, List.cons_append, List.append_nil, List.getElem?_cons_zero, List.getElem?_cons_succ, Option.getD_some, Option.getD_none, Option.map_some, Option.map_none, Option.bind_some, Option.bind_none, Option.all_some, Option.all_none, List.getElem?_toArray, List.size_toArray, List.toList_toArray, List.all_toArray, List.length_nil, List.length_cons, beq_self_eq_true, beq_iff_eq, Bool.beq_eq_decide_eq, tyS, Try.f5, bne_self_eq_false]
    refine (hto hb).callQ rfl ?_
    simp only [vcS, ev, Abs.get, Abs.put, okDst, okOperand, Abs.Value.flat, cv, cv1, norm1, norm, single, C.refsLtT, C.refsLt, C.refsLt1, O.refsLt, okCells, cellsOf, dataCells, toDs, C.cell, D.cell, cvD, cvDs, exitTo, List.length, List.range, List.range.loop, List.zip, List.zipWith, List.map, List.take, List.drop, List.all, List.any, List.getD, List.set, ↓reduceIte, Nat.reduceEqDiff, Nat.reduceLT, Nat.reduceLeDiff, Nat.reduceAdd, Nat.reduceMul, Nat.reduceSub, reduceCtorEq, ne_eq, List.nil_append, List.cons_append, List.append_nil, List.getElem?_cons_zero, List.getElem?_cons_succ, Option.getD_some, Option.getD_none, Option.map_some, Option.map_none, Option.bind_some, Option.bind_none, Option.all_some, Option.all_none, List.getElem?_toArray, List.size_toArray, List.toList_toArray, List.all_toArray, List.length_nil, List.length_cons, beq_self_eq_true, beq_iff_eq, Bool.beq_eq_decide_eq, tyS, Try.f5]
    refine heq.callQ rfl ?_
    simp only [vcS, ev, Abs.get, Abs.put, okDst, okOperand, Abs.Value.flat, cv, cv1, norm1, norm, single, C.refsLtT, C.refsLt, C.refsLt1, O.refsLt, okCells, cellsOf, dataCells, toDs, C.cell, D.cell, cvD, cvDs, exitTo, List.length, List.range, List.range.loop, List.zip, List.zipWith, List.map, List.take, List.drop, List.all, List.any, List.getD, List.set, ↓reduceIte, Nat.reduceEqDiff, Nat.reduceLT, Nat.reduceLeDiff, Nat.reduceAdd, Nat.reduceMul, Nat.reduceSub, reduceCtorEq, ne_eq, List.nil_append, List.cons_append, List.append_nil, List.getElem?_cons_zero, List.getElem?_cons_succ, Option.getD_some, Option.getD_none, Option.map_some, Option.map_none, Option.bind_some, Option.bind_none, Option.all_some, Option.all_none, List.getElem?_toArray, List.size_toArray, List.toList_toArray, List.all_toArray, List.length_nil, List.length_cons, beq_self_eq_true, beq_iff_eq, Bool.beq_eq_decide_eq, tyS, Try.f5]
end Go.Proofs.Ytiihkdmmanaooaa.pheight
