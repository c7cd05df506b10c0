/- The laws' size, copy and comparison functions, walked on plain data. -/
import Derived.Test.YtiihkdmmanaooaaAbs22
import Derived.Test.YtiihkdmmanaooaaProg
import Derived.KernelRfl
namespace Go.Proofs.Ytiihkdmmanaooaa.fam
open Go.Abs
set_option maxRecDepth 100000
set_option linter.unusedSimpArgs false
set_option linter.unusedVariables false

theorem mixed : Try.prog.follows .mixedOrders = true := by kernel_rfl
theorem ty9_a : tAgg Try.prog 9 = some false := by kernel_rfl
theorem ty9_s : tSize Try.prog 9 = some 1 := by kernel_rfl
theorem ty9_t : tIsStr Try.prog 9 = true := by kernel_rfl
theorem ty9_i : tIsSlice Try.prog 9 = false := by kernel_rfl
theorem ty9_u : (Try.prog.underlying 9).isSome = true := by kernel_rfl
theorem ty3_a : tAgg Try.prog 3 = some false := by kernel_rfl
theorem ty3_s : tSize Try.prog 3 = some 1 := by kernel_rfl
theorem ty3_n : tInt Try.prog 3 = some Go.IntKind.i64 := by kernel_rfl
theorem ty3_u : (Try.prog.underlying 3).isSome = true := by kernel_rfl
theorem ty24_a : tAgg Try.prog 24 = some false := by kernel_rfl
theorem ty24_s : tSize Try.prog 24 = some 1 := by kernel_rfl
theorem ty24_i : tIsSlice Try.prog 24 = true := by kernel_rfl
theorem ty24_e : tElem Try.prog 24 = some 117 := by kernel_rfl
theorem ty24_l : tSlice Try.prog 24 = some (117, 4, 56) := by kernel_rfl
theorem ty24_t : tIsStr Try.prog 24 = false := by kernel_rfl
theorem ty24_u : (Try.prog.underlying 24).isSome = true := by kernel_rfl
theorem ty117_a : tAgg Try.prog 117 = some true := by kernel_rfl
theorem ty117_s : tSize Try.prog 117 = some 4 := by kernel_rfl
theorem ty117_f0 : tField Try.prog 117 0 = some (0, 3) := by kernel_rfl
theorem ty117_f1 : tField Try.prog 117 1 = some (1, 3) := by kernel_rfl
theorem ty117_f2 : tField Try.prog 117 2 = some (2, 9) := by kernel_rfl
theorem ty117_f3 : tField Try.prog 117 3 = some (3, 24) := by kernel_rfl
theorem ty25_a : tAgg Try.prog 25 = some false := by kernel_rfl
theorem ty25_s : tSize Try.prog 25 = some 1 := by kernel_rfl
theorem ty25_i : tIsSlice Try.prog 25 = true := by kernel_rfl
theorem ty25_e : tElem Try.prog 25 = some 27 := by kernel_rfl
theorem ty25_l : tSlice Try.prog 25 = some (27, 4, 72) := by kernel_rfl
theorem ty25_t : tIsStr Try.prog 25 = false := by kernel_rfl
theorem ty25_u : (Try.prog.underlying 25).isSome = true := by kernel_rfl
theorem ty27_a : tAgg Try.prog 27 = some true := by kernel_rfl
theorem ty27_s : tSize Try.prog 27 = some 4 := by kernel_rfl
theorem ty27_f0 : tField Try.prog 27 0 = some (0, 9) := by kernel_rfl
theorem ty27_f1 : tField Try.prog 27 1 = some (1, 3) := by kernel_rfl
theorem ty27_f2 : tField Try.prog 27 2 = some (2, 24) := by kernel_rfl
theorem ty27_f3 : tField Try.prog 27 3 = some (3, 25) := by kernel_rfl
theorem ty38_a : tAgg Try.prog 38 = some true := by kernel_rfl
theorem ty38_s : tSize Try.prog 38 = some 2 := by kernel_rfl
theorem ty38_f0 : tField Try.prog 38 0 = some (0, 9) := by kernel_rfl
theorem ty38_f1 : tField Try.prog 38 1 = some (1, 24) := by kernel_rfl
theorem ty30_a : tAgg Try.prog 30 = some false := by kernel_rfl
theorem ty30_s : tSize Try.prog 30 = some 1 := by kernel_rfl
theorem ty30_i : tIsSlice Try.prog 30 = true := by kernel_rfl
theorem ty30_e : tElem Try.prog 30 = some 119 := by kernel_rfl
theorem ty30_l : tSlice Try.prog 30 = some (119, 4, 56) := by kernel_rfl
theorem ty30_t : tIsStr Try.prog 30 = false := by kernel_rfl
theorem ty30_u : (Try.prog.underlying 30).isSome = true := by kernel_rfl
theorem ty119_a : tAgg Try.prog 119 = some true := by kernel_rfl
theorem ty119_s : tSize Try.prog 119 = some 4 := by kernel_rfl
theorem ty119_f0 : tField Try.prog 119 0 = some (0, 3) := by kernel_rfl
theorem ty119_f1 : tField Try.prog 119 1 = some (1, 3) := by kernel_rfl
theorem ty119_f2 : tField Try.prog 119 2 = some (2, 9) := by kernel_rfl
theorem ty119_f3 : tField Try.prog 119 3 = some (3, 30) := by kernel_rfl
theorem ty31_a : tAgg Try.prog 31 = some false := by kernel_rfl
theorem ty31_s : tSize Try.prog 31 = some 1 := by kernel_rfl
theorem ty31_i : tIsSlice Try.prog 31 = true := by kernel_rfl
theorem ty31_e : tElem Try.prog 31 = some 33 := by kernel_rfl
theorem ty31_l : tSlice Try.prog 31 = some (33, 4, 72) := by kernel_rfl
theorem ty31_t : tIsStr Try.prog 31 = false := by kernel_rfl
theorem ty31_u : (Try.prog.underlying 31).isSome = true := by kernel_rfl
theorem ty33_a : tAgg Try.prog 33 = some true := by kernel_rfl
theorem ty33_s : tSize Try.prog 33 = some 4 := by kernel_rfl
theorem ty33_f0 : tField Try.prog 33 0 = some (0, 9) := by kernel_rfl
theorem ty33_f1 : tField Try.prog 33 1 = some (1, 3) := by kernel_rfl
theorem ty33_f2 : tField Try.prog 33 2 = some (2, 30) := by kernel_rfl
theorem ty33_f3 : tField Try.prog 33 3 = some (3, 31) := by kernel_rfl
theorem ty42_a : tAgg Try.prog 42 = some true := by kernel_rfl
theorem ty42_s : tSize Try.prog 42 = some 2 := by kernel_rfl
theorem ty42_f0 : tField Try.prog 42 0 = some (0, 9) := by kernel_rfl
theorem ty42_f1 : tField Try.prog 42 1 = some (1, 30) := by kernel_rfl
theorem tz119 : tZero Try.prog 119 = some [.int .i64 0, .int .i64 0, .string ⟨#[]⟩, .slice none 0 0] := by kernel_rfl
theorem tz33 : tZero Try.prog 33 = some [.string ⟨#[]⟩, .int .i64 0, .slice none 0 0, .slice none 0 0] := by kernel_rfl
theorem tz42 : tZero Try.prog 42 = some [.string ⟨#[]⟩, .slice none 0 0] := by kernel_rfl
theorem go66 : isGo Try.prog 66 = true := by kernel_rfl
theorem go37 : isGo Try.prog 37 = true := by kernel_rfl
theorem go11 : isGo Try.prog 11 = true := by kernel_rfl
theorem go38 : isGo Try.prog 38 = true := by kernel_rfl
theorem go18 : isGo Try.prog 18 = true := by kernel_rfl
theorem go67 : isGo Try.prog 67 = true := by kernel_rfl
theorem go40 : isGo Try.prog 40 = true := by kernel_rfl
theorem go13 : isGo Try.prog 13 = true := by kernel_rfl
theorem go41 : isGo Try.prog 41 = true := by kernel_rfl
theorem go20 : isGo Try.prog 20 = true := by kernel_rfl
theorem go68 : isGo Try.prog 68 = true := by kernel_rfl
theorem go43 : isGo Try.prog 43 = true := by kernel_rfl
theorem go15 : isGo Try.prog 15 = true := by kernel_rfl
theorem go44 : isGo Try.prog 44 = true := by kernel_rfl
theorem go22 : isGo Try.prog 22 = true := by kernel_rfl
theorem tyS : type_of% (And.intro ty9_a <| And.intro ty9_s <| And.intro ty9_t <| And.intro ty9_i <| And.intro ty9_u <| And.intro ty3_a <| And.intro ty3_s <| And.intro ty3_n <| And.intro ty3_u <| And.intro ty24_a <| And.intro ty24_s <| And.intro ty24_i <| And.intro ty24_e <| And.intro ty24_l <| And.intro ty24_t <| And.intro ty24_u <| And.intro ty117_a <| And.intro ty117_s <| And.intro ty117_f0 <| And.intro ty117_f1 <| And.intro ty117_f2 <| And.intro ty117_f3 <| And.intro ty25_a <| And.intro ty25_s <| And.intro ty25_i <| And.intro ty25_e <| And.intro ty25_l <| And.intro ty25_t <| And.intro ty25_u <| And.intro ty27_a <| And.intro ty27_s <| And.intro ty27_f0 <| And.intro ty27_f1 <| And.intro ty27_f2 <| And.intro ty27_f3 <| And.intro ty38_a <| And.intro ty38_s <| And.intro ty38_f0 <| And.intro ty38_f1 <| And.intro ty30_a <| And.intro ty30_s <| And.intro ty30_i <| And.intro ty30_e <| And.intro ty30_l <| And.intro ty30_t <| And.intro ty30_u <| And.intro ty119_a <| And.intro ty119_s <| And.intro ty119_f0 <| And.intro ty119_f1 <| And.intro ty119_f2 <| And.intro ty119_f3 <| And.intro ty31_a <| And.intro ty31_s <| And.intro ty31_i <| And.intro ty31_e <| And.intro ty31_l <| And.intro ty31_t <| And.intro ty31_u <| And.intro ty33_a <| And.intro ty33_s <| And.intro ty33_f0 <| And.intro ty33_f1 <| And.intro ty33_f2 <| And.intro ty33_f3 <| And.intro ty42_a <| And.intro ty42_s <| And.intro ty42_f0 <| And.intro ty42_f1 <| And.intro tz119 <| And.intro tz33 <| And.intro tz42 <| And.intro go66 <| And.intro go37 <| And.intro go11 <| And.intro go38 <| And.intro go18 <| And.intro go67 <| And.intro go40 <| And.intro go13 <| And.intro go41 <| And.intro go20 <| And.intro go68 <| And.intro go43 <| And.intro go15 <| And.intro go44 <| go22) := And.intro ty9_a <| And.intro ty9_s <| And.intro ty9_t <| And.intro ty9_i <| And.intro ty9_u <| And.intro ty3_a <| And.intro ty3_s <| And.intro ty3_n <| And.intro ty3_u <| And.intro ty24_a <| And.intro ty24_s <| And.intro ty24_i <| And.intro ty24_e <| And.intro ty24_l <| And.intro ty24_t <| And.intro ty24_u <| And.intro ty117_a <| And.intro ty117_s <| And.intro ty117_f0 <| And.intro ty117_f1 <| And.intro ty117_f2 <| And.intro ty117_f3 <| And.intro ty25_a <| And.intro ty25_s <| And.intro ty25_i <| And.intro ty25_e <| And.intro ty25_l <| And.intro ty25_t <| And.intro ty25_u <| And.intro ty27_a <| And.intro ty27_s <| And.intro ty27_f0 <| And.intro ty27_f1 <| And.intro ty27_f2 <| And.intro ty27_f3 <| And.intro ty38_a <| And.intro ty38_s <| And.intro ty38_f0 <| And.intro ty38_f1 <| And.intro ty30_a <| And.intro ty30_s <| And.intro ty30_i <| And.intro ty30_e <| And.intro ty30_l <| And.intro ty30_t <| And.intro ty30_u <| And.intro ty119_a <| And.intro ty119_s <| And.intro ty119_f0 <| And.intro ty119_f1 <| And.intro ty119_f2 <| And.intro ty119_f3 <| And.intro ty31_a <| And.intro ty31_s <| And.intro ty31_i <| And.intro ty31_e <| And.intro ty31_l <| And.intro ty31_t <| And.intro ty31_u <| And.intro ty33_a <| And.intro ty33_s <| And.intro ty33_f0 <| And.intro ty33_f1 <| And.intro ty33_f2 <| And.intro ty33_f3 <| And.intro ty42_a <| And.intro ty42_s <| And.intro ty42_f0 <| And.intro ty42_f1 <| And.intro tz119 <| And.intro tz33 <| And.intro tz42 <| And.intro go66 <| And.intro go37 <| And.intro go11 <| And.intro go38 <| And.intro go18 <| And.intro go67 <| And.intro go40 <| And.intro go13 <| And.intro go41 <| And.intro go20 <| And.intro go68 <| And.intro go43 <| And.intro go15 <| And.intro go44 <| go22

theorem lv117 : leaves Try.prog 6 117 = some [.int .i64, .int .i64, .str, .sl 117] := by kernel_rfl
theorem inv117 {x : List D} (h : Sh Try.prog 117 x) : ∃ a0 a1 a2 a3, x = [.int .i64 a0, .int .i64 a1, .str a2, .sl a3] ∧ (Lit.int .i64 a0).wf = true ∧ (Lit.int .i64 a1).wf = true ∧ a2.length ≤ maxLen ∧ (a3.length ≤ maxLen ∧ ∀ x, x ∈ a3 → Sh Try.prog 117 x) := by
  obtain ⟨ls, h1, h2, h3⟩ := h
  rw [lv117] at h1
  cases h1
  match x, h2, h3 with
  | [c0, c1, c2, c3], _, h3 =>
    have g0 := h3 0 _ _ rfl rfl
    have g1 := h3 1 _ _ rfl rfl
    have g2 := h3 2 _ _ rfl rfl
    have g3 := h3 3 _ _ rfl rfl
    obtain ⟨b0, rfl, q0⟩ := g0.int_inv
    obtain ⟨b1, rfl, q1⟩ := g1.int_inv
    obtain ⟨b2, rfl, q2⟩ := g2.str_inv
    obtain ⟨b3, rfl, q3⟩ := g3.elems
    exact ⟨_, _, _, _, rfl, q0, q1, q2, q3⟩

theorem lv27 : leaves Try.prog 6 27 = some [.str, .int .i64, .sl 117, .sl 27] := by kernel_rfl
theorem inv27 {x : List D} (h : Sh Try.prog 27 x) : ∃ a0 a1 a2 a3, x = [.str a0, .int .i64 a1, .sl a2, .sl a3] ∧ a0.length ≤ maxLen ∧ (Lit.int .i64 a1).wf = true ∧ (a2.length ≤ maxLen ∧ ∀ x, x ∈ a2 → Sh Try.prog 117 x) ∧ (a3.length ≤ maxLen ∧ ∀ x, x ∈ a3 → Sh Try.prog 27 x) := by
  obtain ⟨ls, h1, h2, h3⟩ := h
  rw [lv27] at h1
  cases h1
  match x, h2, h3 with
  | [c0, c1, c2, c3], _, h3 =>
    have g0 := h3 0 _ _ rfl rfl
    have g1 := h3 1 _ _ rfl rfl
    have g2 := h3 2 _ _ rfl rfl
    have g3 := h3 3 _ _ rfl rfl
    obtain ⟨b0, rfl, q0⟩ := g0.str_inv
    obtain ⟨b1, rfl, q1⟩ := g1.int_inv
    obtain ⟨b2, rfl, q2⟩ := g2.elems
    obtain ⟨b3, rfl, q3⟩ := g3.elems
    exact ⟨_, _, _, _, rfl, q0, q1, q2, q3⟩

theorem lv38 : leaves Try.prog 6 38 = some [.str, .sl 117] := by kernel_rfl
theorem inv38 {x : List D} (h : Sh Try.prog 38 x) : ∃ a0 a1, x = [.str a0, .sl a1] ∧ a0.length ≤ maxLen ∧ (a1.length ≤ maxLen ∧ ∀ x, x ∈ a1 → Sh Try.prog 117 x) := by
  obtain ⟨ls, h1, h2, h3⟩ := h
  rw [lv38] at h1
  cases h1
  match x, h2, h3 with
  | [c0, c1], _, h3 =>
    have g0 := h3 0 _ _ rfl rfl
    have g1 := h3 1 _ _ rfl rfl
    obtain ⟨b0, rfl, q0⟩ := g0.str_inv
    obtain ⟨b1, rfl, q1⟩ := g1.elems
    exact ⟨_, _, rfl, q0, q1⟩

theorem sz37 (xs : List (List D)) (hm : xs.length ≤ maxLen) (hx : ∀ x, x ∈ xs → x.length = 4 ∧ ∀ n : Int, 0 ≤ n → n ≤ 1048576 → Gives Try.prog 66 [.agg x, .int .i64 n] (.d (.int .i64 (szr n (wtL x)))))
    (n : Int) (h0 : 0 ≤ n) (h1 : n ≤ 1048576) : Gives Try.prog 37 [.sl xs, .int .i64 n] (.d (.int .i64 (szr n (wtR xs)))) := by
  have hm' : (xs.length : Int) ≤ 9223372036854775807 := by simp only [maxLen] at hm; omega
  have hs := sumW_all xs
  have hs0 := sumW_le xs 0
  simp only [sumW] at hs0
  refine ACalls.enter (fn := Try.f37) Try.func37 rfl (by show 2 ≤ _; decide) ?_
  refine run_sound Try.func37 mixed 100 _ _ (by kernel_rfl) ?_
  simp only [vcS, ev, Abs.get, Abs.put, okDst, okOperand, Abs.Value.flat, cv, cv1, norm1, norm, single, C.refsLtT, C.refsLt, C.refsLt1, O.refsLt, okCells, cellsOf, dataCells, toDs, C.cell, D.cell, cvD, cvDs, exitTo, List.length, List.range, List.range.loop, List.zip, List.zipWith, List.map, List.take, List.drop, List.all, List.any, List.getD, List.set, ↓reduceIte, Nat.reduceEqDiff, Nat.reduceLT, Nat.reduceLeDiff, Nat.reduceAdd, Nat.reduceMul, Nat.reduceSub, reduceCtorEq, ne_eq, List.nil_append, List.cons_append, List.append_nil, List.getElem?_cons_zero, List.getElem?_cons_succ, Option.getD_some, Option.getD_none, Option.map_some, Option.map_none, Option.bind_some, Option.bind_none, Option.all_some, Option.all_none, List.getElem?_toArray, List.size_toArray, List.toList_toArray, List.all_toArray, List.length_nil, List.length_cons, beq_self_eq_true, beq_iff_eq, Bool.beq_eq_decide_eq, tyS, Try.f37]
  rw [wrap_ok (by omega) (by omega)]
  refine br_intro (fun h => ?_) (fun h => ?_)
  · simp only [decide_eq_true_eq] at h
    simp only [vcS, ev, Abs.get, Abs.put, okDst, okOperand, Abs.Value.flat, cv, cv1, norm1, norm, single, C.refsLtT, C.refsLt, C.refsLt1, O.refsLt, okCells, cellsOf, dataCells, toDs, C.cell, D.cell, cvD, cvDs, exitTo, List.length, List.range, List.range.loop, List.zip, List.zipWith, List.map, List.take, List.drop, List.all, List.any, List.getD, List.set, ↓reduceIte, Nat.reduceEqDiff, Nat.reduceLT, Nat.reduceLeDiff, Nat.reduceAdd, Nat.reduceMul, Nat.reduceSub, reduceCtorEq, ne_eq, List.nil_append, List.cons_append, List.append_nil, List.getElem?_cons_zero, List.getElem?_cons_succ, Option.getD_some, Option.getD_none, Option.map_some, Option.map_none, Option.bind_some, Option.bind_none, Option.all_some, Option.all_none, List.getElem?_toArray, List.size_toArray, List.toList_toArray, List.all_toArray, List.length_nil, List.length_cons, beq_self_eq_true, beq_iff_eq, Bool.beq_eq_decide_eq, tyS, Try.f37]
    rw [szr_neg (by omega)]
  simp only [decide_eq_false_iff_not, Int.not_lt] at h
  simp only [vcS, ev, Abs.get, Abs.put, okDst, okOperand, Abs.Value.flat, cv, cv1, norm1, norm, single, C.refsLtT, C.refsLt, C.refsLt1, O.refsLt, okCells, cellsOf, dataCells, toDs, C.cell, D.cell, cvD, cvDs, exitTo, List.length, List.range, List.range.loop, List.zip, List.zipWith, List.map, List.take, List.drop, List.all, List.any, List.getD, List.set, ↓reduceIte, Nat.reduceEqDiff, Nat.reduceLT, Nat.reduceLeDiff, Nat.reduceAdd, Nat.reduceMul, Nat.reduceSub, reduceCtorEq, ne_eq, List.nil_append, List.cons_append, List.append_nil, List.getElem?_cons_zero, List.getElem?_cons_succ, Option.getD_some, Option.getD_none, Option.map_some, Option.map_none, Option.bind_some, Option.bind_none, Option.all_some, Option.all_none, List.getElem?_toArray, List.size_toArray, List.toList_toArray, List.all_toArray, List.length_nil, List.length_cons, beq_self_eq_true, beq_iff_eq, Bool.beq_eq_decide_eq, tyS, Try.f37]
  refine AW.loop_ind (fun i : Nat => ⟨[(5, .d (.int .i64 i)), (0, .d (.sl xs)), (1, .d (.int .i64 (n - xs.length - sumW xs i))), (4, .d (.int .i64 0))], []⟩) (fun i => i ≤ xs.length ∧ (sumW xs i : Int) ≤ n - xs.length) (fun i => xs.length - i) 0 ⟨by omega, by simp only [sumW]; omega⟩ ?_ ?_
  · refine Weak.of (by simp) rfl ?_
    simp [Abs.get, sumW, C.refsLtT, C.refsLt, C.refsLt1]
  · intro i hi hnext
    obtain ⟨hi1, hi2⟩ := hi
    refine run_sound Try.func37 mixed 100 _ _ (by kernel_rfl) ?_
    simp only [vcS, ev, Abs.get, Abs.put, okDst, okOperand, Abs.Value.flat, cv, cv1, norm1, norm, single, C.refsLtT, C.refsLt, C.refsLt1, O.refsLt, okCells, cellsOf, dataCells, toDs, C.cell, D.cell, cvD, cvDs, exitTo, List.length, List.range, List.range.loop, List.zip, List.zipWith, List.map, List.take, List.drop, List.all, List.any, List.getD, List.set, ↓reduceIte, Nat.reduceEqDiff, Nat.reduceLT, Nat.reduceLeDiff, Nat.reduceAdd, Nat.reduceMul, Nat.reduceSub, reduceCtorEq, ne_eq, List.nil_append, List.cons_append, List.append_nil, List.getElem?_cons_zero, List.getElem?_cons_succ, Option.getD_some, Option.getD_none, Option.map_some, Option.map_none, Option.bind_some, Option.bind_none, Option.all_some, Option.all_none, List.getElem?_toArray, List.size_toArray, List.toList_toArray, List.all_toArray, List.length_nil, List.length_cons, beq_self_eq_true, beq_iff_eq, Bool.beq_eq_decide_eq, tyS, Try.f37]
    refine br_intro (fun h => ?_) (fun h => ?_)
    · simp only [decide_eq_true_eq] at h
      have hi : i < xs.length := by omega
      obtain ⟨x, hxi⟩ : ∃ x, xs[i]? = some x := ⟨_, List.getElem?_eq_getElem hi⟩
      have hsum := sumW_at hxi
      have hle := sumW_le xs (i + 1)
      obtain ⟨e1, e2⟩ := hx x (List.mem_of_getElem? hxi)
      simp only [vcS, ev, Abs.get, Abs.put, okDst, okOperand, Abs.Value.flat, cv, cv1, norm1, norm, single, C.refsLtT, C.refsLt, C.refsLt1, O.refsLt, okCells, cellsOf, dataCells, toDs, C.cell, D.cell, cvD, cvDs, exitTo, List.length, List.range, List.range.loop, List.zip, List.zipWith, List.map, List.take, List.drop, List.all, List.any, List.getD, List.set, ↓reduceIte, Nat.reduceEqDiff, Nat.reduceLT, Nat.reduceLeDiff, Nat.reduceAdd, Nat.reduceMul, Nat.reduceSub, reduceCtorEq, ne_eq, List.nil_append, List.cons_append, List.append_nil, List.getElem?_cons_zero, List.getElem?_cons_succ, Option.getD_some, Option.getD_none, Option.map_some, Option.map_none, Option.bind_some, Option.bind_none, Option.all_some, Option.all_none, List.getElem?_toArray, List.size_toArray, List.toList_toArray, List.all_toArray, List.length_nil, List.length_cons, beq_self_eq_true, beq_iff_eq, Bool.beq_eq_decide_eq, tyS, Int.toNat_natCast, hxi, e1]
      refine ⟨by omega, by omega, (e2 _ (by omega) (by omega)).calls rfl ?_⟩
      simp only [vcS, ev, Abs.get, Abs.put, okDst, okOperand, Abs.Value.flat, cv, cv1, norm1, norm, single, C.refsLtT, C.refsLt, C.refsLt1, O.refsLt, okCells, cellsOf, dataCells, toDs, C.cell, D.cell, cvD, cvDs, exitTo, List.length, List.range, List.range.loop, List.zip, List.zipWith, List.map, List.take, List.drop, List.all, List.any, List.getD, List.set, ↓reduceIte, Nat.reduceEqDiff, Nat.reduceLT, Nat.reduceLeDiff, Nat.reduceAdd, Nat.reduceMul, Nat.reduceSub, reduceCtorEq, ne_eq, List.nil_append, List.cons_append, List.append_nil, List.getElem?_cons_zero, List.getElem?_cons_succ, Option.getD_some, Option.getD_none, Option.map_some, Option.map_none, Option.bind_some, Option.bind_none, Option.all_some, Option.all_none, List.getElem?_toArray, List.size_toArray, List.toList_toArray, List.all_toArray, List.length_nil, List.length_cons, beq_self_eq_true, beq_iff_eq, Bool.beq_eq_decide_eq, tyS]
      refine br_intro (fun h => ?_) (fun h => ?_)
      · simp only [decide_eq_true_eq] at h
        have hg := szr_lt h
        simp only [vcS, ev, Abs.get, Abs.put, okDst, okOperand, Abs.Value.flat, cv, cv1, norm1, norm, single, C.refsLtT, C.refsLt, C.refsLt1, O.refsLt, okCells, cellsOf, dataCells, toDs, C.cell, D.cell, cvD, cvDs, exitTo, List.length, List.range, List.range.loop, List.zip, List.zipWith, List.map, List.take, List.drop, List.all, List.any, List.getD, List.set, ↓reduceIte, Nat.reduceEqDiff, Nat.reduceLT, Nat.reduceLeDiff, Nat.reduceAdd, Nat.reduceMul, Nat.reduceSub, reduceCtorEq, ne_eq, List.nil_append, List.cons_append, List.append_nil, List.getElem?_cons_zero, List.getElem?_cons_succ, Option.getD_some, Option.getD_none, Option.map_some, Option.map_none, Option.bind_some, Option.bind_none, Option.all_some, Option.all_none, List.getElem?_toArray, List.size_toArray, List.toList_toArray, List.all_toArray, List.length_nil, List.length_cons, beq_self_eq_true, beq_iff_eq, Bool.beq_eq_decide_eq, tyS, Try.f37]
        rw [szr_neg (by omega)]
      · simp only [decide_eq_false_iff_not] at h
        have hg := szr_ge h
        rw [szr_pos hg]
        simp only [vcS, ev, Abs.get, Abs.put, okDst, okOperand, Abs.Value.flat, cv, cv1, norm1, norm, single, C.refsLtT, C.refsLt, C.refsLt1, O.refsLt, okCells, cellsOf, dataCells, toDs, C.cell, D.cell, cvD, cvDs, exitTo, List.length, List.range, List.range.loop, List.zip, List.zipWith, List.map, List.take, List.drop, List.all, List.any, List.getD, List.set, ↓reduceIte, Nat.reduceEqDiff, Nat.reduceLT, Nat.reduceLeDiff, Nat.reduceAdd, Nat.reduceMul, Nat.reduceSub, reduceCtorEq, ne_eq, List.nil_append, List.cons_append, List.append_nil, List.getElem?_cons_zero, List.getElem?_cons_succ, Option.getD_some, Option.getD_none, Option.map_some, Option.map_none, Option.bind_some, Option.bind_none, Option.all_some, Option.all_none, List.getElem?_toArray, List.size_toArray, List.toList_toArray, List.all_toArray, List.length_nil, List.length_cons, beq_self_eq_true, beq_iff_eq, Bool.beq_eq_decide_eq, tyS, Try.f37]
        rw [wrap_ok (by omega) (by omega)]
        refine hnext (i + 1) _ ⟨by omega, by omega⟩ (by omega) ?_
        refine Weak.of (by simp) rfl ?_
        simp [Abs.get, C.refsLtT, C.refsLt, C.refsLt1]
        omega
    · simp only [decide_eq_false_iff_not] at h
      have : i = xs.length := by omega
      subst this
      simp only [vcS, ev, Abs.get, Abs.put, okDst, okOperand, Abs.Value.flat, cv, cv1, norm1, norm, single, C.refsLtT, C.refsLt, C.refsLt1, O.refsLt, okCells, cellsOf, dataCells, toDs, C.cell, D.cell, cvD, cvDs, exitTo, List.length, List.range, List.range.loop, List.zip, List.zipWith, List.map, List.take, List.drop, List.all, List.any, List.getD, List.set, ↓reduceIte, Nat.reduceEqDiff, Nat.reduceLT, Nat.reduceLeDiff, Nat.reduceAdd, Nat.reduceMul, Nat.reduceSub, reduceCtorEq, ne_eq, List.nil_append, List.cons_append, List.append_nil, List.getElem?_cons_zero, List.getElem?_cons_succ, Option.getD_some, Option.getD_none, Option.map_some, Option.map_none, Option.bind_some, Option.bind_none, Option.all_some, Option.all_none, List.getElem?_toArray, List.size_toArray, List.toList_toArray, List.all_toArray, List.length_nil, List.length_cons, beq_self_eq_true, beq_iff_eq, Bool.beq_eq_decide_eq, tyS, Try.f37]
      rw [szr_pos (by omega)]
      congr 2; omega

theorem sz66 (a0 : Int) (a1 : Int) (a2 : List UInt8) (a3 : List (List D)) (h2 : a2.length ≤ maxLen) (h3 : ∀ n : Int, 0 ≤ n → n ≤ 1048576 → Gives Try.prog 37 [.sl a3, .int .i64 n] (.d (.int .i64 (szr n (wtR a3)))))
    (n : Int) (g0 : 0 ≤ n) (g1 : n ≤ 1048576) : Gives Try.prog 66 [.agg [.int .i64 a0, .int .i64 a1, .str a2, .sl a3], .int .i64 n] (.d (.int .i64 (szr n (wtL [.int .i64 a0, .int .i64 a1, .str a2, .sl a3])))) := by
  have hw : wtL [.int .i64 a0, .int .i64 a1, .str a2, .sl a3] = a2.length + wtR a3 := by simp only [wtL, D.wt] <;> omega
  simp only [maxLen] at h2
  rw [hw]
  refine ACalls.enter (fn := Try.f66) Try.func66 rfl (by show 2 ≤ _; decide) ?_
  refine run_sound Try.func66 mixed 100 _ _ (by kernel_rfl) ?_
  simp only [vcS, ev, Abs.get, Abs.put, okDst, okOperand, Abs.Value.flat, cv, cv1, norm1, norm, single, C.refsLtT, C.refsLt, C.refsLt1, O.refsLt, okCells, cellsOf, dataCells, toDs, C.cell, D.cell, cvD, cvDs, exitTo, List.length, List.range, List.range.loop, List.zip, List.zipWith, List.map, List.take, List.drop, List.all, List.any, List.getD, List.set, ↓reduceIte, Nat.reduceEqDiff, Nat.reduceLT, Nat.reduceLeDiff, Nat.reduceAdd, Nat.reduceMul, Nat.reduceSub, reduceCtorEq, ne_eq, List.nil_append, List.cons_append, List.append_nil, List.getElem?_cons_zero, List.getElem?_cons_succ, Option.getD_some, Option.getD_none, Option.map_some, Option.map_none, Option.bind_some, Option.bind_none, Option.all_some, Option.all_none, List.getElem?_toArray, List.size_toArray, List.toList_toArray, List.all_toArray, List.length_nil, List.length_cons, beq_self_eq_true, beq_iff_eq, Bool.beq_eq_decide_eq, tyS, Try.f66]
  rw [wrap_ok (by omega) (by omega)]
  refine br_intro (fun h => ?_) (fun h => ?_)
  · simp only [decide_eq_true_eq] at h
    simp only [vcS, ev, Abs.get, Abs.put, okDst, okOperand, Abs.Value.flat, cv, cv1, norm1, norm, single, C.refsLtT, C.refsLt, C.refsLt1, O.refsLt, okCells, cellsOf, dataCells, toDs, C.cell, D.cell, cvD, cvDs, exitTo, List.length, List.range, List.range.loop, List.zip, List.zipWith, List.map, List.take, List.drop, List.all, List.any, List.getD, List.set, ↓reduceIte, Nat.reduceEqDiff, Nat.reduceLT, Nat.reduceLeDiff, Nat.reduceAdd, Nat.reduceMul, Nat.reduceSub, reduceCtorEq, ne_eq, List.nil_append, List.cons_append, List.append_nil, List.getElem?_cons_zero, List.getElem?_cons_succ, Option.getD_some, Option.getD_none, Option.map_some, Option.map_none, Option.bind_some, Option.bind_none, Option.all_some, Option.all_none, List.getElem?_toArray, List.size_toArray, List.toList_toArray, List.all_toArray, List.length_nil, List.length_cons, beq_self_eq_true, beq_iff_eq, Bool.beq_eq_decide_eq, tyS, Try.f66]
    rw [szr_neg (by omega)]
  simp only [decide_eq_false_iff_not, Int.not_lt] at h
  simp only [vcS, ev, Abs.get, Abs.put, okDst, okOperand, Abs.Value.flat, cv, cv1, norm1, norm, single, C.refsLtT, C.refsLt, C.refsLt1, O.refsLt, okCells, cellsOf, dataCells, toDs, C.cell, D.cell, cvD, cvDs, exitTo, List.length, List.range, List.range.loop, List.zip, List.zipWith, List.map, List.take, List.drop, List.all, List.any, List.getD, List.set, ↓reduceIte, Nat.reduceEqDiff, Nat.reduceLT, Nat.reduceLeDiff, Nat.reduceAdd, Nat.reduceMul, Nat.reduceSub, reduceCtorEq, ne_eq, List.nil_append, List.cons_append, List.append_nil, List.getElem?_cons_zero, List.getElem?_cons_succ, Option.getD_some, Option.getD_none, Option.map_some, Option.map_none, Option.bind_some, Option.bind_none, Option.all_some, Option.all_none, List.getElem?_toArray, List.size_toArray, List.toList_toArray, List.all_toArray, List.length_nil, List.length_cons, beq_self_eq_true, beq_iff_eq, Bool.beq_eq_decide_eq, tyS, Try.f66]
  refine (h3 _ (by omega) (by omega)).calls rfl ?_
  simp only [vcS, ev, Abs.get, Abs.put, okDst, okOperand, Abs.Value.flat, cv, cv1, norm1, norm, single, C.refsLtT, C.refsLt, C.refsLt1, O.refsLt, okCells, cellsOf, dataCells, toDs, C.cell, D.cell, cvD, cvDs, exitTo, List.length, List.range, List.range.loop, List.zip, List.zipWith, List.map, List.take, List.drop, List.all, List.any, List.getD, List.set, ↓reduceIte, Nat.reduceEqDiff, Nat.reduceLT, Nat.reduceLeDiff, Nat.reduceAdd, Nat.reduceMul, Nat.reduceSub, reduceCtorEq, ne_eq, List.nil_append, List.cons_append, List.append_nil, List.getElem?_cons_zero, List.getElem?_cons_succ, Option.getD_some, Option.getD_none, Option.map_some, Option.map_none, Option.bind_some, Option.bind_none, Option.all_some, Option.all_none, List.getElem?_toArray, List.size_toArray, List.toList_toArray, List.all_toArray, List.length_nil, List.length_cons, beq_self_eq_true, beq_iff_eq, Bool.beq_eq_decide_eq, tyS, Try.f66]
  refine br_intro (fun h => ?_) (fun h => ?_)
  · simp only [decide_eq_true_eq] at h
    have hg := szr_lt h
    simp only [vcS, ev, Abs.get, Abs.put, okDst, okOperand, Abs.Value.flat, cv, cv1, norm1, norm, single, C.refsLtT, C.refsLt, C.refsLt1, O.refsLt, okCells, cellsOf, dataCells, toDs, C.cell, D.cell, cvD, cvDs, exitTo, List.length, List.range, List.range.loop, List.zip, List.zipWith, List.map, List.take, List.drop, List.all, List.any, List.getD, List.set, ↓reduceIte, Nat.reduceEqDiff, Nat.reduceLT, Nat.reduceLeDiff, Nat.reduceAdd, Nat.reduceMul, Nat.reduceSub, reduceCtorEq, ne_eq, List.nil_append, List.cons_append, List.append_nil, List.getElem?_cons_zero, List.getElem?_cons_succ, Option.getD_some, Option.getD_none, Option.map_some, Option.map_none, Option.bind_some, Option.bind_none, Option.all_some, Option.all_none, List.getElem?_toArray, List.size_toArray, List.toList_toArray, List.all_toArray, List.length_nil, List.length_cons, beq_self_eq_true, beq_iff_eq, Bool.beq_eq_decide_eq, tyS, Try.f66]
    rw [szr_neg (by omega)]
  simp only [decide_eq_false_iff_not] at h
  have hg := szr_ge h
  rw [szr_pos hg]
  clear h
  simp only [vcS, ev, Abs.get, Abs.put, okDst, okOperand, Abs.Value.flat, cv, cv1, norm1, norm, single, C.refsLtT, C.refsLt, C.refsLt1, O.refsLt, okCells, cellsOf, dataCells, toDs, C.cell, D.cell, cvD, cvDs, exitTo, List.length, List.range, List.range.loop, List.zip, List.zipWith, List.map, List.take, List.drop, List.all, List.any, List.getD, List.set, ↓reduceIte, Nat.reduceEqDiff, Nat.reduceLT, Nat.reduceLeDiff, Nat.reduceAdd, Nat.reduceMul, Nat.reduceSub, reduceCtorEq, ne_eq, List.nil_append, List.cons_append, List.append_nil, List.getElem?_cons_zero, List.getElem?_cons_succ, Option.getD_some, Option.getD_none, Option.map_some, Option.map_none, Option.bind_some, Option.bind_none, Option.all_some, Option.all_none, List.getElem?_toArray, List.size_toArray, List.toList_toArray, List.all_toArray, List.length_nil, List.length_cons, beq_self_eq_true, beq_iff_eq, Bool.beq_eq_decide_eq, tyS, Try.f66]
  rw [szr_pos (by omega)]
  congr 2; omega

theorem sz38 (xs : List (List D)) (hm : xs.length ≤ maxLen) (hx : ∀ x, x ∈ xs → x.length = 4 ∧ ∀ n : Int, 0 ≤ n → n ≤ 1048576 → Gives Try.prog 11 [.agg x, .int .i64 n] (.d (.int .i64 (szr n (wtL x)))))
    (n : Int) (h0 : 0 ≤ n) (h1 : n ≤ 1048576) : Gives Try.prog 38 [.sl xs, .int .i64 n] (.d (.int .i64 (szr n (wtR xs)))) := by
  have hm' : (xs.length : Int) ≤ 9223372036854775807 := by simp only [maxLen] at hm; omega
  have hs := sumW_all xs
  have hs0 := sumW_le xs 0
  simp only [sumW] at hs0
  refine ACalls.enter (fn := Try.f38) Try.func38 rfl (by show 2 ≤ _; decide) ?_
  refine run_sound Try.func38 mixed 100 _ _ (by kernel_rfl) ?_
  simp only [vcS, ev, Abs.get, Abs.put, okDst, okOperand, Abs.Value.flat, cv, cv1, norm1, norm, single, C.refsLtT, C.refsLt, C.refsLt1, O.refsLt, okCells, cellsOf, dataCells, toDs, C.cell, D.cell, cvD, cvDs, exitTo, List.length, List.range, List.range.loop, List.zip, List.zipWith, List.map, List.take, List.drop, List.all, List.any, List.getD, List.set, ↓reduceIte, Nat.reduceEqDiff, Nat.reduceLT, Nat.reduceLeDiff, Nat.reduceAdd, Nat.reduceMul, Nat.reduceSub, reduceCtorEq, ne_eq, List.nil_append, List.cons_append, List.append_nil, List.getElem?_cons_zero, List.getElem?_cons_succ, Option.getD_some, Option.getD_none, Option.map_some, Option.map_none, Option.bind_some, Option.bind_none, Option.all_some, Option.all_none, List.getElem?_toArray, List.size_toArray, List.toList_toArray, List.all_toArray, List.length_nil, List.length_cons, beq_self_eq_true, beq_iff_eq, Bool.beq_eq_decide_eq, tyS, Try.f38]
  rw [wrap_ok (by omega) (by omega)]
  refine br_intro (fun h => ?_) (fun h => ?_)
  · simp only [decide_eq_true_eq] at h
    simp only [vcS, ev, Abs.get, Abs.put, okDst, okOperand, Abs.Value.flat, cv, cv1, norm1, norm, single, C.refsLtT, C.refsLt, C.refsLt1, O.refsLt, okCells, cellsOf, dataCells, toDs, C.cell, D.cell, cvD, cvDs, exitTo, List.length, List.range, List.range.loop, List.zip, List.zipWith, List.map, List.take, List.drop, List.all, List.any, List.getD, List.set, ↓reduceIte, Nat.reduceEqDiff, Nat.reduceLT, Nat.reduceLeDiff, Nat.reduceAdd, Nat.reduceMul, Nat.reduceSub, reduceCtorEq, ne_eq, List.nil_append, List.cons_append, List.append_nil, List.getElem?_cons_zero, List.getElem?_cons_succ, Option.getD_some, Option.getD_none, Option.map_some, Option.map_none, Option.bind_some, Option.bind_none, Option.all_some, Option.all_none, List.getElem?_toArray, List.size_toArray, List.toList_toArray, List.all_toArray, List.length_nil, List.length_cons, beq_self_eq_true, beq_iff_eq, Bool.beq_eq_decide_eq, tyS, Try.f38]
    rw [szr_neg (by omega)]
  simp only [decide_eq_false_iff_not, Int.not_lt] at h
  simp only [vcS, ev, Abs.get, Abs.put, okDst, okOperand, Abs.Value.flat, cv, cv1, norm1, norm, single, C.refsLtT, C.refsLt, C.refsLt1, O.refsLt, okCells, cellsOf, dataCells, toDs, C.cell, D.cell, cvD, cvDs, exitTo, List.length, List.range, List.range.loop, List.zip, List.zipWith, List.map, List.take, List.drop, List.all, List.any, List.getD, List.set, ↓reduceIte, Nat.reduceEqDiff, Nat.reduceLT, Nat.reduceLeDiff, Nat.reduceAdd, Nat.reduceMul, Nat.reduceSub, reduceCtorEq, ne_eq, List.nil_append, List.cons_append, List.append_nil, List.getElem?_cons_zero, List.getElem?_cons_succ, Option.getD_some, Option.getD_none, Option.map_some, Option.map_none, Option.bind_some, Option.bind_none, Option.all_some, Option.all_none, List.getElem?_toArray, List.size_toArray, List.toList_toArray, List.all_toArray, List.length_nil, List.length_cons, beq_self_eq_true, beq_iff_eq, Bool.beq_eq_decide_eq, tyS, Try.f38]
  refine AW.loop_ind (fun i : Nat => ⟨[(5, .d (.int .i64 i)), (0, .d (.sl xs)), (1, .d (.int .i64 (n - xs.length - sumW xs i))), (4, .d (.int .i64 0))], []⟩) (fun i => i ≤ xs.length ∧ (sumW xs i : Int) ≤ n - xs.length) (fun i => xs.length - i) 0 ⟨by omega, by simp only [sumW]; omega⟩ ?_ ?_
  · refine Weak.of (by simp) rfl ?_
    simp [Abs.get, sumW, C.refsLtT, C.refsLt, C.refsLt1]
  · intro i hi hnext
    obtain ⟨hi1, hi2⟩ := hi
    refine run_sound Try.func38 mixed 100 _ _ (by kernel_rfl) ?_
    simp only [vcS, ev, Abs.get, Abs.put, okDst, okOperand, Abs.Value.flat, cv, cv1, norm1, norm, single, C.refsLtT, C.refsLt, C.refsLt1, O.refsLt, okCells, cellsOf, dataCells, toDs, C.cell, D.cell, cvD, cvDs, exitTo, List.length, List.range, List.range.loop, List.zip, List.zipWith, List.map, List.take, List.drop, List.all, List.any, List.getD, List.set, ↓reduceIte, Nat.reduceEqDiff, Nat.reduceLT, Nat.reduceLeDiff, Nat.reduceAdd, Nat.reduceMul, Nat.reduceSub, reduceCtorEq, ne_eq, List.nil_append, List.cons_append, List.append_nil, List.getElem?_cons_zero, List.getElem?_cons_succ, Option.getD_some, Option.getD_none, Option.map_some, Option.map_none, Option.bind_some, Option.bind_none, Option.all_some, Option.all_none, List.getElem?_toArray, List.size_toArray, List.toList_toArray, List.all_toArray, List.length_nil, List.length_cons, beq_self_eq_true, beq_iff_eq, Bool.beq_eq_decide_eq, tyS, Try.f38]
    refine br_intro (fun h => ?_) (fun h => ?_)
    · simp only [decide_eq_true_eq] at h
      have hi : i < xs.length := by omega
      obtain ⟨x, hxi⟩ : ∃ x, xs[i]? = some x := ⟨_, List.getElem?_eq_getElem hi⟩
      have hsum := sumW_at hxi
      have hle := sumW_le xs (i + 1)
      obtain ⟨e1, e2⟩ := hx x (List.mem_of_getElem? hxi)
      simp only [vcS, ev, Abs.get, Abs.put, okDst, okOperand, Abs.Value.flat, cv, cv1, norm1, norm, single, C.refsLtT, C.refsLt, C.refsLt1, O.refsLt, okCells, cellsOf, dataCells, toDs, C.cell, D.cell, cvD, cvDs, exitTo, List.length, List.range, List.range.loop, List.zip, List.zipWith, List.map, List.take, List.drop, List.all, List.any, List.getD, List.set, ↓reduceIte, Nat.reduceEqDiff, Nat.reduceLT, Nat.reduceLeDiff, Nat.reduceAdd, Nat.reduceMul, Nat.reduceSub, reduceCtorEq, ne_eq, List.nil_append, List.cons_append, List.append_nil, List.getElem?_cons_zero, List.getElem?_cons_succ, Option.getD_some, Option.getD_none, Option.map_some, Option.map_none, Option.bind_some, Option.bind_none, Option.all_some, Option.all_none, List.getElem?_toArray, List.size_toArray, List.toList_toArray, List.all_toArray, List.length_nil, List.length_cons, beq_self_eq_true, beq_iff_eq, Bool.beq_eq_decide_eq, tyS, Int.toNat_natCast, hxi, e1]
      refine ⟨by omega, by omega, (e2 _ (by omega) (by omega)).calls rfl ?_⟩
      simp only [vcS, ev, Abs.get, Abs.put, okDst, okOperand, Abs.Value.flat, cv, cv1, norm1, norm, single, C.refsLtT, C.refsLt, C.refsLt1, O.refsLt, okCells, cellsOf, dataCells, toDs, C.cell, D.cell, cvD, cvDs, exitTo, List.length, List.range, List.range.loop, List.zip, List.zipWith, List.map, List.take, List.drop, List.all, List.any, List.getD, List.set, ↓reduceIte, Nat.reduceEqDiff, Nat.reduceLT, Nat.reduceLeDiff, Nat.reduceAdd, Nat.reduceMul, Nat.reduceSub, reduceCtorEq, ne_eq, List.nil_append, List.cons_append, List.append_nil, List.getElem?_cons_zero, List.getElem?_cons_succ, Option.getD_some, Option.getD_none, Option.map_some, Option.map_none, Option.bind_some, Option.bind_none, Option.all_some, Option.all_none, List.getElem?_toArray, List.size_toArray, List.toList_toArray, List.all_toArray, List.length_nil, List.length_cons, beq_self_eq_true, beq_iff_eq, Bool.beq_eq_decide_eq, tyS]
      refine br_intro (fun h => ?_) (fun h => ?_)
      · simp only [decide_eq_true_eq] at h
        have hg := szr_lt h
        simp only [vcS, ev, Abs.get, Abs.put, okDst, okOperand, Abs.Value.flat, cv, cv1, norm1, norm, single, C.refsLtT, C.refsLt, C.refsLt1, O.refsLt, okCells, cellsOf, dataCells, toDs, C.cell, D.cell, cvD, cvDs, exitTo, List.length, List.range, List.range.loop, List.zip, List.zipWith, List.map, List.take, List.drop, List.all, List.any, List.getD, List.set, ↓reduceIte, Nat.reduceEqDiff, Nat.reduceLT, Nat.reduceLeDiff, Nat.reduceAdd, Nat.reduceMul, Nat.reduceSub, reduceCtorEq, ne_eq, List.nil_append, List.cons_append, List.append_nil, List.getElem?_cons_zero, List.getElem?_cons_succ, Option.getD_some, Option.getD_none, Option.map_some, Option.map_none, Option.bind_some, Option.bind_none, Option.all_some, Option.all_none, List.getElem?_toArray, List.size_toArray, List.toList_toArray, List.all_toArray, List.length_nil, List.length_cons, beq_self_eq_true, beq_iff_eq, Bool.beq_eq_decide_eq, tyS, Try.f38]
        rw [szr_neg (by omega)]
      · simp only [decide_eq_false_iff_not] at h
        have hg := szr_ge h
        rw [szr_pos hg]
        simp only [vcS, ev, Abs.get, Abs.put, okDst, okOperand, Abs.Value.flat, cv, cv1, norm1, norm, single, C.refsLtT, C.refsLt, C.refsLt1, O.refsLt, okCells, cellsOf, dataCells, toDs, C.cell, D.cell, cvD, cvDs, exitTo, List.length, List.range, List.range.loop, List.zip, List.zipWith, List.map, List.take, List.drop, List.all, List.any, List.getD, List.set, ↓reduceIte, Nat.reduceEqDiff, Nat.reduceLT, Nat.reduceLeDiff, Nat.reduceAdd, Nat.reduceMul, Nat.reduceSub, reduceCtorEq, ne_eq, List.nil_append, List.cons_append, List.append_nil, List.getElem?_cons_zero, List.getElem?_cons_succ, Option.getD_some, Option.getD_none, Option.map_some, Option.map_none, Option.bind_some, Option.bind_none, Option.all_some, Option.all_none, List.getElem?_toArray, List.size_toArray, List.toList_toArray, List.all_toArray, List.length_nil, List.length_cons, beq_self_eq_true, beq_iff_eq, Bool.beq_eq_decide_eq, tyS, Try.f38]
        rw [wrap_ok (by omega) (by omega)]
        refine hnext (i + 1) _ ⟨by omega, by omega⟩ (by omega) ?_
        refine Weak.of (by simp) rfl ?_
        simp [Abs.get, C.refsLtT, C.refsLt, C.refsLt1]
        omega
    · simp only [decide_eq_false_iff_not] at h
      have : i = xs.length := by omega
      subst this
      simp only [vcS, ev, Abs.get, Abs.put, okDst, okOperand, Abs.Value.flat, cv, cv1, norm1, norm, single, C.refsLtT, C.refsLt, C.refsLt1, O.refsLt, okCells, cellsOf, dataCells, toDs, C.cell, D.cell, cvD, cvDs, exitTo, List.length, List.range, List.range.loop, List.zip, List.zipWith, List.map, List.take, List.drop, List.all, List.any, List.getD, List.set, ↓reduceIte, Nat.reduceEqDiff, Nat.reduceLT, Nat.reduceLeDiff, Nat.reduceAdd, Nat.reduceMul, Nat.reduceSub, reduceCtorEq, ne_eq, List.nil_append, List.cons_append, List.append_nil, List.getElem?_cons_zero, List.getElem?_cons_succ, Option.getD_some, Option.getD_none, Option.map_some, Option.map_none, Option.bind_some, Option.bind_none, Option.all_some, Option.all_none, List.getElem?_toArray, List.size_toArray, List.toList_toArray, List.all_toArray, List.length_nil, List.length_cons, beq_self_eq_true, beq_iff_eq, Bool.beq_eq_decide_eq, tyS, Try.f38]
      rw [szr_pos (by omega)]
      congr 2; omega

theorem sz11 (a0 : List UInt8) (a1 : Int) (a2 : List (List D)) (a3 : List (List D)) (h0 : a0.length ≤ maxLen) (h2 : ∀ n : Int, 0 ≤ n → n ≤ 1048576 → Gives Try.prog 37 [.sl a2, .int .i64 n] (.d (.int .i64 (szr n (wtR a2))))) (h3 : ∀ n : Int, 0 ≤ n → n ≤ 1048576 → Gives Try.prog 38 [.sl a3, .int .i64 n] (.d (.int .i64 (szr n (wtR a3)))))
    (n : Int) (g0 : 0 ≤ n) (g1 : n ≤ 1048576) : Gives Try.prog 11 [.agg [.str a0, .int .i64 a1, .sl a2, .sl a3], .int .i64 n] (.d (.int .i64 (szr n (wtL [.str a0, .int .i64 a1, .sl a2, .sl a3])))) := by
  have hw : wtL [.str a0, .int .i64 a1, .sl a2, .sl a3] = a0.length + wtR a2 + wtR a3 := by simp only [wtL, D.wt] <;> omega
  simp only [maxLen] at h0
  rw [hw]
  refine ACalls.enter (fn := Try.f11) Try.func11 rfl (by show 2 ≤ _; decide) ?_
  refine run_sound Try.func11 mixed 100 _ _ (by kernel_rfl) ?_
  simp only [vcS, ev, Abs.get, Abs.put, okDst, okOperand, Abs.Value.flat, cv, cv1, norm1, norm, single, C.refsLtT, C.refsLt, C.refsLt1, O.refsLt, okCells, cellsOf, dataCells, toDs, C.cell, D.cell, cvD, cvDs, exitTo, List.length, List.range, List.range.loop, List.zip, List.zipWith, List.map, List.take, List.drop, List.all, List.any, List.getD, List.set, ↓reduceIte, Nat.reduceEqDiff, Nat.reduceLT, Nat.reduceLeDiff, Nat.reduceAdd, Nat.reduceMul, Nat.reduceSub, reduceCtorEq, ne_eq, List.nil_append, List.cons_append, List.append_nil, List.getElem?_cons_zero, List.getElem?_cons_succ, Option.getD_some, Option.getD_none, Option.map_some, Option.map_none, Option.bind_some, Option.bind_none, Option.all_some, Option.all_none, List.getElem?_toArray, List.size_toArray, List.toList_toArray, List.all_toArray, List.length_nil, List.length_cons, beq_self_eq_true, beq_iff_eq, Bool.beq_eq_decide_eq, tyS, Try.f11]
  rw [wrap_ok (by omega) (by omega)]
  refine br_intro (fun h => ?_) (fun h => ?_)
  · simp only [decide_eq_true_eq] at h
    simp only [vcS, ev, Abs.get, Abs.put, okDst, okOperand, Abs.Value.flat, cv, cv1, norm1, norm, single, C.refsLtT, C.refsLt, C.refsLt1, O.refsLt, okCells, cellsOf, dataCells, toDs, C.cell, D.cell, cvD, cvDs, exitTo, List.length, List.range, List.range.loop, List.zip, List.zipWith, List.map, List.take, List.drop, List.all, List.any, List.getD, List.set, ↓reduceIte, Nat.reduceEqDiff, Nat.reduceLT, Nat.reduceLeDiff, Nat.reduceAdd, Nat.reduceMul, Nat.reduceSub, reduceCtorEq, ne_eq, List.nil_append, List.cons_append, List.append_nil, List.getElem?_cons_zero, List.getElem?_cons_succ, Option.getD_some, Option.getD_none, Option.map_some, Option.map_none, Option.bind_some, Option.bind_none, Option.all_some, Option.all_none, List.getElem?_toArray, List.size_toArray, List.toList_toArray, List.all_toArray, List.length_nil, List.length_cons, beq_self_eq_true, beq_iff_eq, Bool.beq_eq_decide_eq, tyS, Try.f11]
    rw [szr_neg (by omega)]
  simp only [decide_eq_false_iff_not, Int.not_lt] at h
  simp only [vcS, ev, Abs.get, Abs.put, okDst, okOperand, Abs.Value.flat, cv, cv1, norm1, norm, single, C.refsLtT, C.refsLt, C.refsLt1, O.refsLt, okCells, cellsOf, dataCells, toDs, C.cell, D.cell, cvD, cvDs, exitTo, List.length, List.range, List.range.loop, List.zip, List.zipWith, List.map, List.take, List.drop, List.all, List.any, List.getD, List.set, ↓reduceIte, Nat.reduceEqDiff, Nat.reduceLT, Nat.reduceLeDiff, Nat.reduceAdd, Nat.reduceMul, Nat.reduceSub, reduceCtorEq, ne_eq, List.nil_append, List.cons_append, List.append_nil, List.getElem?_cons_zero, List.getElem?_cons_succ, Option.getD_some, Option.getD_none, Option.map_some, Option.map_none, Option.bind_some, Option.bind_none, Option.all_some, Option.all_none, List.getElem?_toArray, List.size_toArray, List.toList_toArray, List.all_toArray, List.length_nil, List.length_cons, beq_self_eq_true, beq_iff_eq, Bool.beq_eq_decide_eq, tyS, Try.f11]
  refine (h2 _ (by omega) (by omega)).calls rfl ?_
  simp only [vcS, ev, Abs.get, Abs.put, okDst, okOperand, Abs.Value.flat, cv, cv1, norm1, norm, single, C.refsLtT, C.refsLt, C.refsLt1, O.refsLt, okCells, cellsOf, dataCells, toDs, C.cell, D.cell, cvD, cvDs, exitTo, List.length, List.range, List.range.loop, List.zip, List.zipWith, List.map, List.take, List.drop, List.all, List.any, List.getD, List.set, ↓reduceIte, Nat.reduceEqDiff, Nat.reduceLT, Nat.reduceLeDiff, Nat.reduceAdd, Nat.reduceMul, Nat.reduceSub, reduceCtorEq, ne_eq, List.nil_append, List.cons_append, List.append_nil, List.getElem?_cons_zero, List.getElem?_cons_succ, Option.getD_some, Option.getD_none, Option.map_some, Option.map_none, Option.bind_some, Option.bind_none, Option.all_some, Option.all_none, List.getElem?_toArray, List.size_toArray, List.toList_toArray, List.all_toArray, List.length_nil, List.length_cons, beq_self_eq_true, beq_iff_eq, Bool.beq_eq_decide_eq, tyS, Try.f11]
  refine br_intro (fun h => ?_) (fun h => ?_)
  · simp only [decide_eq_true_eq] at h
    have hg := szr_lt h
    simp only [vcS, ev, Abs.get, Abs.put, okDst, okOperand, Abs.Value.flat, cv, cv1, norm1, norm, single, C.refsLtT, C.refsLt, C.refsLt1, O.refsLt, okCells, cellsOf, dataCells, toDs, C.cell, D.cell, cvD, cvDs, exitTo, List.length, List.range, List.range.loop, List.zip, List.zipWith, List.map, List.take, List.drop, List.all, List.any, List.getD, List.set, ↓reduceIte, Nat.reduceEqDiff, Nat.reduceLT, Nat.reduceLeDiff, Nat.reduceAdd, Nat.reduceMul, Nat.reduceSub, reduceCtorEq, ne_eq, List.nil_append, List.cons_append, List.append_nil, List.getElem?_cons_zero, List.getElem?_cons_succ, Option.getD_some, Option.getD_none, Option.map_some, Option.map_none, Option.bind_some, Option.bind_none, Option.all_some, Option.all_none, List.getElem?_toArray, List.size_toArray, List.toList_toArray, List.all_toArray, List.length_nil, List.length_cons, beq_self_eq_true, beq_iff_eq, Bool.beq_eq_decide_eq, tyS, Try.f11]
    rw [szr_neg (by omega)]
  simp only [decide_eq_false_iff_not] at h
  have hg := szr_ge h
  rw [szr_pos hg]
  clear h
  simp only [vcS, ev, Abs.get, Abs.put, okDst, okOperand, Abs.Value.flat, cv, cv1, norm1, norm, single, C.refsLtT, C.refsLt, C.refsLt1, O.refsLt, okCells, cellsOf, dataCells, toDs, C.cell, D.cell, cvD, cvDs, exitTo, List.length, List.range, List.range.loop, List.zip, List.zipWith, List.map, List.take, List.drop, List.all, List.any, List.getD, List.set, ↓reduceIte, Nat.reduceEqDiff, Nat.reduceLT, Nat.reduceLeDiff, Nat.reduceAdd, Nat.reduceMul, Nat.reduceSub, reduceCtorEq, ne_eq, List.nil_append, List.cons_append, List.append_nil, List.getElem?_cons_zero, List.getElem?_cons_succ, Option.getD_some, Option.getD_none, Option.map_some, Option.map_none, Option.bind_some, Option.bind_none, Option.all_some, Option.all_none, List.getElem?_toArray, List.size_toArray, List.toList_toArray, List.all_toArray, List.length_nil, List.length_cons, beq_self_eq_true, beq_iff_eq, Bool.beq_eq_decide_eq, tyS, Try.f11]
  refine (h3 _ (by omega) (by omega)).calls rfl ?_
  simp only [vcS, ev, Abs.get, Abs.put, okDst, okOperand, Abs.Value.flat, cv, cv1, norm1, norm, single, C.refsLtT, C.refsLt, C.refsLt1, O.refsLt, okCells, cellsOf, dataCells, toDs, C.cell, D.cell, cvD, cvDs, exitTo, List.length, List.range, List.range.loop, List.zip, List.zipWith, List.map, List.take, List.drop, List.all, List.any, List.getD, List.set, ↓reduceIte, Nat.reduceEqDiff, Nat.reduceLT, Nat.reduceLeDiff, Nat.reduceAdd, Nat.reduceMul, Nat.reduceSub, reduceCtorEq, ne_eq, List.nil_append, List.cons_append, List.append_nil, List.getElem?_cons_zero, List.getElem?_cons_succ, Option.getD_some, Option.getD_none, Option.map_some, Option.map_none, Option.bind_some, Option.bind_none, Option.all_some, Option.all_none, List.getElem?_toArray, List.size_toArray, List.toList_toArray, List.all_toArray, List.length_nil, List.length_cons, beq_self_eq_true, beq_iff_eq, Bool.beq_eq_decide_eq, tyS, Try.f11]
  refine br_intro (fun h => ?_) (fun h => ?_)
  · simp only [decide_eq_true_eq] at h
    have hg := szr_lt h
    simp only [vcS, ev, Abs.get, Abs.put, okDst, okOperand, Abs.Value.flat, cv, cv1, norm1, norm, single, C.refsLtT, C.refsLt, C.refsLt1, O.refsLt, okCells, cellsOf, dataCells, toDs, C.cell, D.cell, cvD, cvDs, exitTo, List.length, List.range, List.range.loop, List.zip, List.zipWith, List.map, List.take, List.drop, List.all, List.any, List.getD, List.set, ↓reduceIte, Nat.reduceEqDiff, Nat.reduceLT, Nat.reduceLeDiff, Nat.reduceAdd, Nat.reduceMul, Nat.reduceSub, reduceCtorEq, ne_eq, List.nil_append, List.cons_append, List.append_nil, List.getElem?_cons_zero, List.getElem?_cons_succ, Option.getD_some, Option.getD_none, Option.map_some, Option.map_none, Option.bind_some, Option.bind_none, Option.all_some, Option.all_none, List.getElem?_toArray, List.size_toArray, List.toList_toArray, List.all_toArray, List.length_nil, List.length_cons, beq_self_eq_true, beq_iff_eq, Bool.beq_eq_decide_eq, tyS, Try.f11]
    rw [szr_neg (by omega)]
  simp only [decide_eq_false_iff_not] at h
  have hg := szr_ge h
  rw [szr_pos hg]
  clear h
  simp only [vcS, ev, Abs.get, Abs.put, okDst, okOperand, Abs.Value.flat, cv, cv1, norm1, norm, single, C.refsLtT, C.refsLt, C.refsLt1, O.refsLt, okCells, cellsOf, dataCells, toDs, C.cell, D.cell, cvD, cvDs, exitTo, List.length, List.range, List.range.loop, List.zip, List.zipWith, List.map, List.take, List.drop, List.all, List.any, List.getD, List.set, ↓reduceIte, Nat.reduceEqDiff, Nat.reduceLT, Nat.reduceLeDiff, Nat.reduceAdd, Nat.reduceMul, Nat.reduceSub, reduceCtorEq, ne_eq, List.nil_append, List.cons_append, List.append_nil, List.getElem?_cons_zero, List.getElem?_cons_succ, Option.getD_some, Option.getD_none, Option.map_some, Option.map_none, Option.bind_some, Option.bind_none, Option.all_some, Option.all_none, List.getElem?_toArray, List.size_toArray, List.toList_toArray, List.all_toArray, List.length_nil, List.length_cons, beq_self_eq_true, beq_iff_eq, Bool.beq_eq_decide_eq, tyS, Try.f11]
  rw [szr_pos (by omega)]
  congr 2; omega

theorem sz18 (a0 : List UInt8) (a1 : List (List D)) (h0 : a0.length ≤ maxLen) (h1 : ∀ n : Int, 0 ≤ n → n ≤ 1048576 → Gives Try.prog 37 [.sl a1, .int .i64 n] (.d (.int .i64 (szr n (wtR a1)))))
    (n : Int) (g0 : 0 ≤ n) (g1 : n ≤ 1048576) : Gives Try.prog 18 [.agg [.str a0, .sl a1], .int .i64 n] (.d (.int .i64 (szr n (wtL [.str a0, .sl a1])))) := by
  have hw : wtL [.str a0, .sl a1] = a0.length + wtR a1 := by simp only [wtL, D.wt] <;> omega
  simp only [maxLen] at h0
  rw [hw]
  refine ACalls.enter (fn := Try.f18) Try.func18 rfl (by show 2 ≤ _; decide) ?_
  refine run_sound Try.func18 mixed 100 _ _ (by kernel_rfl) ?_
  simp only [vcS, ev, Abs.get, Abs.put, okDst, okOperand, Abs.Value.flat, cv, cv1, norm1, norm, single, C.refsLtT, C.refsLt, C.refsLt1, O.refsLt, okCells, cellsOf, dataCells, toDs, C.cell, D.cell, cvD, cvDs, exitTo, List.length, List.range, List.range.loop, List.zip, List.zipWith, List.map, List.take, List.drop, List.all, List.any, List.getD, List.set, ↓reduceIte, Nat.reduceEqDiff, Nat.reduceLT, Nat.reduceLeDiff, Nat.reduceAdd, Nat.reduceMul, Nat.reduceSub, reduceCtorEq, ne_eq, List.nil_append, List.cons_append, List.append_nil, List.getElem?_cons_zero, List.getElem?_cons_succ, Option.getD_some, Option.getD_none, Option.map_some, Option.map_none, Option.bind_some, Option.bind_none, Option.all_some, Option.all_none, List.getElem?_toArray, List.size_toArray, List.toList_toArray, List.all_toArray, List.length_nil, List.length_cons, beq_self_eq_true, beq_iff_eq, Bool.beq_eq_decide_eq, tyS, Try.f18]
  rw [wrap_ok (by omega) (by omega)]
  refine br_intro (fun h => ?_) (fun h => ?_)
  · simp only [decide_eq_true_eq] at h
    simp only [vcS, ev, Abs.get, Abs.put, okDst, okOperand, Abs.Value.flat, cv, cv1, norm1, norm, single, C.refsLtT, C.refsLt, C.refsLt1, O.refsLt, okCells, cellsOf, dataCells, toDs, C.cell, D.cell, cvD, cvDs, exitTo, List.length, List.range, List.range.loop, List.zip, List.zipWith, List.map, List.take, List.drop, List.all, List.any, List.getD, List.set, ↓reduceIte, Nat.reduceEqDiff, Nat.reduceLT, Nat.reduceLeDiff, Nat.reduceAdd, Nat.reduceMul, Nat.reduceSub, reduceCtorEq, ne_eq, List.nil_append, List.cons_append, List.append_nil, List.getElem?_cons_zero, List.getElem?_cons_succ, Option.getD_some, Option.getD_none, Option.map_some, Option.map_none, Option.bind_some, Option.bind_none, Option.all_some, Option.all_none, List.getElem?_toArray, List.size_toArray, List.toList_toArray, List.all_toArray, List.length_nil, List.length_cons, beq_self_eq_true, beq_iff_eq, Bool.beq_eq_decide_eq, tyS, Try.f18]
    rw [szr_neg (by omega)]
  simp only [decide_eq_false_iff_not, Int.not_lt] at h
  simp only [vcS, ev, Abs.get, Abs.put, okDst, okOperand, Abs.Value.flat, cv, cv1, norm1, norm, single, C.refsLtT, C.refsLt, C.refsLt1, O.refsLt, okCells, cellsOf, dataCells, toDs, C.cell, D.cell, cvD, cvDs, exitTo, List.length, List.range, List.range.loop, List.zip, List.zipWith, List.map, List.take, List.drop, List.all, List.any, List.getD, List.set, ↓reduceIte, Nat.reduceEqDiff, Nat.reduceLT, Nat.reduceLeDiff, Nat.reduceAdd, Nat.reduceMul, Nat.reduceSub, reduceCtorEq, ne_eq, List.nil_append, List.cons_append, List.append_nil, List.getElem?_cons_zero, List.getElem?_cons_succ, Option.getD_some, Option.getD_none, Option.map_some, Option.map_none, Option.bind_some, Option.bind_none, Option.all_some, Option.all_none, List.getElem?_toArray, List.size_toArray, List.toList_toArray, List.all_toArray, List.length_nil, List.length_cons, beq_self_eq_true, beq_iff_eq, Bool.beq_eq_decide_eq, tyS, Try.f18]
  refine (h1 _ (by omega) (by omega)).calls rfl ?_
  simp only [vcS, ev, Abs.get, Abs.put, okDst, okOperand, Abs.Value.flat, cv, cv1, norm1, norm, single, C.refsLtT, C.refsLt, C.refsLt1, O.refsLt, okCells, cellsOf, dataCells, toDs, C.cell, D.cell, cvD, cvDs, exitTo, List.length, List.range, List.range.loop, List.zip, List.zipWith, List.map, List.take, List.drop, List.all, List.any, List.getD, List.set, ↓reduceIte, Nat.reduceEqDiff, Nat.reduceLT, Nat.reduceLeDiff, Nat.reduceAdd, Nat.reduceMul, Nat.reduceSub, reduceCtorEq, ne_eq, List.nil_append, List.cons_append, List.append_nil, List.getElem?_cons_zero, List.getElem?_cons_succ, Option.getD_some, Option.getD_none, Option.map_some, Option.map_none, Option.bind_some, Option.bind_none, Option.all_some, Option.all_none, List.getElem?_toArray, List.size_toArray, List.toList_toArray, List.all_toArray, List.length_nil, List.length_cons, beq_self_eq_true, beq_iff_eq, Bool.beq_eq_decide_eq, tyS, Try.f18]
  refine br_intro (fun h => ?_) (fun h => ?_)
  · simp only [decide_eq_true_eq] at h
    have hg := szr_lt h
    simp only [vcS, ev, Abs.get, Abs.put, okDst, okOperand, Abs.Value.flat, cv, cv1, norm1, norm, single, C.refsLtT, C.refsLt, C.refsLt1, O.refsLt, okCells, cellsOf, dataCells, toDs, C.cell, D.cell, cvD, cvDs, exitTo, List.length, List.range, List.range.loop, List.zip, List.zipWith, List.map, List.take, List.drop, List.all, List.any, List.getD, List.set, ↓reduceIte, Nat.reduceEqDiff, Nat.reduceLT, Nat.reduceLeDiff, Nat.reduceAdd, Nat.reduceMul, Nat.reduceSub, reduceCtorEq, ne_eq, List.nil_append, List.cons_append, List.append_nil, List.getElem?_cons_zero, List.getElem?_cons_succ, Option.getD_some, Option.getD_none, Option.map_some, Option.map_none, Option.bind_some, Option.bind_none, Option.all_some, Option.all_none, List.getElem?_toArray, List.size_toArray, List.toList_toArray, List.all_toArray, List.length_nil, List.length_cons, beq_self_eq_true, beq_iff_eq, Bool.beq_eq_decide_eq, tyS, Try.f18]
    rw [szr_neg (by omega)]
  simp only [decide_eq_false_iff_not] at h
  have hg := szr_ge h
  rw [szr_pos hg]
  clear h
  simp only [vcS, ev, Abs.get, Abs.put, okDst, okOperand, Abs.Value.flat, cv, cv1, norm1, norm, single, C.refsLtT, C.refsLt, C.refsLt1, O.refsLt, okCells, cellsOf, dataCells, toDs, C.cell, D.cell, cvD, cvDs, exitTo, List.length, List.range, List.range.loop, List.zip, List.zipWith, List.map, List.take, List.drop, List.all, List.any, List.getD, List.set, ↓reduceIte, Nat.reduceEqDiff, Nat.reduceLT, Nat.reduceLeDiff, Nat.reduceAdd, Nat.reduceMul, Nat.reduceSub, reduceCtorEq, ne_eq, List.nil_append, List.cons_append, List.append_nil, List.getElem?_cons_zero, List.getElem?_cons_succ, Option.getD_some, Option.getD_none, Option.map_some, Option.map_none, Option.bind_some, Option.bind_none, Option.all_some, Option.all_none, List.getElem?_toArray, List.size_toArray, List.toList_toArray, List.all_toArray, List.length_nil, List.length_cons, beq_self_eq_true, beq_iff_eq, Bool.beq_eq_decide_eq, tyS, Try.f18]
  rw [szr_pos (by omega)]
  congr 2; omega

theorem to40 (xs : List (List D)) (hl : xs.length ≤ 1048576) (hx : ∀ x, x ∈ xs → x.length = 4 ∧ Gives Try.prog 67 [.agg x] (.d (.agg x))) : Gives Try.prog 40 [.sl xs] (.d (.sl xs)) := by
  refine ACalls.enter (fn := Try.f40) Try.func40 rfl (by show 1 ≤ _; decide) ?_
  refine run_sound Try.func40 mixed 100 _ _ (by kernel_rfl) ?_
  simp only [vcS, ev, Abs.get, Abs.put, okDst, okOperand, Abs.Value.flat, cv, cv1, norm1, norm, single, C.refsLtT, C.refsLt, C.refsLt1, O.refsLt, okCells, cellsOf, dataCells, toDs, C.cell, D.cell, cvD, cvDs, exitTo, List.length, List.range, List.range.loop, List.zip, List.zipWith, List.map, List.take, List.drop, List.all, List.any, List.getD, List.set, ↓reduceIte, Nat.reduceEqDiff, Nat.reduceLT, Nat.reduceLeDiff, Nat.reduceAdd, Nat.reduceMul, Nat.reduceSub, reduceCtorEq, ne_eq, List.nil_append, List.cons_append, List.append_nil, List.getElem?_cons_zero, List.getElem?_cons_succ, Option.getD_some, Option.getD_none, Option.map_some, Option.map_none, Option.bind_some, Option.bind_none, Option.all_some, Option.all_none, List.getElem?_toArray, List.size_toArray, List.toList_toArray, List.all_toArray, List.length_nil, List.length_cons, beq_self_eq_true, beq_iff_eq, Bool.beq_eq_decide_eq, tyS, Try.f40, Int.toNat_natCast]
  refine ⟨by omega, by simp only [maxLen]; omega, by omega, ?_⟩
  refine AW.loop_ind (fun i : Nat => ⟨[(4, .d (.int .i64 i)), (0, .d (.sl xs)), (3, .rsl 0 xs.length), (2, .nil0)], [.row 4 119 (xs.take i ++ List.replicate (xs.length - i) [.int .i64 0, .int .i64 0, .str [], .sl []])]⟩) (fun i => i ≤ xs.length) (fun i => xs.length - i) 0 (by omega) ?_ ?_
  · refine Weak.of (by simp) rfl ?_
    simp [Abs.get, C.refsLtT, C.refsLt, C.refsLt1]
  · intro i hi hnext
    by_cases h : i < xs.length
    · obtain ⟨x, hxi⟩ : ∃ x, xs[i]? = some x := ⟨_, List.getElem?_eq_getElem h⟩
      obtain ⟨e1, e2⟩ := hx x (List.mem_of_getElem? hxi)
      have hlt : ((i : Int) < (xs.length : Int)) = True := by simp; omega
      refine run_sound Try.func40 mixed 100 _ _ (by kernel_rfl) ?_
      simp only [vcS, ev, Abs.get, Abs.put, okDst, okOperand, Abs.Value.flat, cv, cv1, norm1, norm, single, C.refsLtT, C.refsLt, C.refsLt1, O.refsLt, okCells, cellsOf, dataCells, toDs, C.cell, D.cell, cvD, cvDs, exitTo, List.length, List.range, List.range.loop, List.zip, List.zipWith, List.map, List.take, List.drop, List.all, List.any, List.getD, List.set, ↓reduceIte, Nat.reduceEqDiff, Nat.reduceLT, Nat.reduceLeDiff, Nat.reduceAdd, Nat.reduceMul, Nat.reduceSub, reduceCtorEq, ne_eq, List.nil_append, List.cons_append, List.append_nil, List.getElem?_cons_zero, List.getElem?_cons_succ, Option.getD_some, Option.getD_none, Option.map_some, Option.map_none, Option.bind_some, Option.bind_none, Option.all_some, Option.all_none, List.getElem?_toArray, List.size_toArray, List.toList_toArray, List.all_toArray, List.length_nil, List.length_cons, beq_self_eq_true, beq_iff_eq, Bool.beq_eq_decide_eq, tyS, Try.f40, Int.toNat_natCast, hlt, hxi, e1]
      refine ⟨by omega, e2.calls rfl ?_⟩
      simp only [vcS, ev, Abs.get, Abs.put, okDst, okOperand, Abs.Value.flat, cv, cv1, norm1, norm, single, C.refsLtT, C.refsLt, C.refsLt1, O.refsLt, okCells, cellsOf, dataCells, toDs, C.cell, D.cell, cvD, cvDs, exitTo, List.length, List.range, List.range.loop, List.zip, List.zipWith, List.map, List.take, List.drop, List.all, List.any, List.getD, List.set, ↓reduceIte, Nat.reduceEqDiff, Nat.reduceLT, Nat.reduceLeDiff, Nat.reduceAdd, Nat.reduceMul, Nat.reduceSub, reduceCtorEq, ne_eq, List.nil_append, List.cons_append, List.append_nil, List.getElem?_cons_zero, List.getElem?_cons_succ, Option.getD_some, Option.getD_none, Option.map_some, Option.map_none, Option.bind_some, Option.bind_none, Option.all_some, Option.all_none, List.getElem?_toArray, List.size_toArray, List.toList_toArray, List.all_toArray, List.length_nil, List.length_cons, beq_self_eq_true, beq_iff_eq, Bool.beq_eq_decide_eq, tyS, Int.toNat_natCast, hlt, hxi, e1]
      refine ⟨by omega, by simpa using e1, by simp; omega, ?_⟩
      rw [wrap_ok (by omega) (by omega)]
      first | rw [row_step (k := 4) hxi (by rfl)] | rw [row_step1 hxi (by rfl)]
      refine hnext (i + 1) _ (by omega) (by omega) ?_
      refine Weak.of (by simp) rfl ?_
      simp [Abs.get, C.refsLtT, C.refsLt, C.refsLt1]
    · have hlt : ((i : Int) < (xs.length : Int)) = False := by simp; omega
      refine run_sound Try.func40 mixed 6 _ _ (by kernel_rfl) ?_
      simp only [vcS, ev, Abs.get, Abs.put, okDst, okOperand, Abs.Value.flat, cv, cv1, norm1, norm, single, C.refsLtT, C.refsLt, C.refsLt1, O.refsLt, okCells, cellsOf, dataCells, toDs, C.cell, D.cell, cvD, cvDs, exitTo, List.length, List.range, List.range.loop, List.zip, List.zipWith, List.map, List.take, List.drop, List.all, List.any, List.getD, List.set, ↓reduceIte, Nat.reduceEqDiff, Nat.reduceLT, Nat.reduceLeDiff, Nat.reduceAdd, Nat.reduceMul, Nat.reduceSub, reduceCtorEq, ne_eq, List.nil_append, List.cons_append, List.append_nil, List.getElem?_cons_zero, List.getElem?_cons_succ, Option.getD_some, Option.getD_none, Option.map_some, Option.map_none, Option.bind_some, Option.bind_none, Option.all_some, Option.all_none, List.getElem?_toArray, List.size_toArray, List.toList_toArray, List.all_toArray, List.length_nil, List.length_cons, beq_self_eq_true, beq_iff_eq, Bool.beq_eq_decide_eq, tyS, Try.f40, Int.toNat_natCast, hlt]
      obtain rfl : i = xs.length := by omega
      rw [row_all]
      refine AW.freeze 3 0 rfl rfl rfl ?_
      refine run_sound Try.func40 mixed 100 _ _ (by kernel_rfl) ?_
      simp only [vcS, ev, Abs.get, Abs.put, okDst, okOperand, Abs.Value.flat, cv, cv1, norm1, norm, single, C.refsLtT, C.refsLt, C.refsLt1, O.refsLt, okCells, cellsOf, dataCells, toDs, C.cell, D.cell, cvD, cvDs, exitTo, List.length, List.range, List.range.loop, List.zip, List.zipWith, List.map, List.take, List.drop, List.all, List.any, List.getD, List.set, ↓reduceIte, Nat.reduceEqDiff, Nat.reduceLT, Nat.reduceLeDiff, Nat.reduceAdd, Nat.reduceMul, Nat.reduceSub, reduceCtorEq, ne_eq, List.nil_append, List.cons_append, List.append_nil, List.getElem?_cons_zero, List.getElem?_cons_succ, Option.getD_some, Option.getD_none, Option.map_some, Option.map_none, Option.bind_some, Option.bind_none, Option.all_some, Option.all_none, List.getElem?_toArray, List.size_toArray, List.toList_toArray, List.all_toArray, List.length_nil, List.length_cons, beq_self_eq_true, beq_iff_eq, Bool.beq_eq_decide_eq, tyS, Try.f40]

theorem to67 (a0 : Int) (a1 : Int) (a2 : List UInt8) (a3 : List (List D)) (h3 : Gives Try.prog 40 [.sl a3] (.d (.sl a3))) : Gives Try.prog 67 [.agg [.int .i64 a0, .int .i64 a1, .str a2, .sl a3]] (.d (.agg [.int .i64 a0, .int .i64 a1, .str a2, .sl a3])) := by
  refine ACalls.enter (fn := Try.f67) Try.func67 rfl (by show 1 ≤ _; decide) ?_
  refine run_sound Try.func67 mixed 100 _ _ (by kernel_rfl) ?_
  simp only [vcS, ev, Abs.get, Abs.put, okDst, okOperand, Abs.Value.flat, cv, cv1, norm1, norm, single, C.refsLtT, C.refsLt, C.refsLt1, O.refsLt, okCells, cellsOf, dataCells, toDs, C.cell, D.cell, cvD, cvDs, exitTo, List.length, List.range, List.range.loop, List.zip, List.zipWith, List.map, List.take, List.drop, List.all, List.any, List.getD, List.set, ↓reduceIte, Nat.reduceEqDiff, Nat.reduceLT, Nat.reduceLeDiff, Nat.reduceAdd, Nat.reduceMul, Nat.reduceSub, reduceCtorEq, ne_eq, List.nil_append, List.cons_append, List.append_nil, List.getElem?_cons_zero, List.getElem?_cons_succ, Option.getD_some, Option.getD_none, Option.map_some, Option.map_none, Option.bind_some, Option.bind_none, Option.all_some, Option.all_none, List.getElem?_toArray, List.size_toArray, List.toList_toArray, List.all_toArray, List.length_nil, List.length_cons, beq_self_eq_true, beq_iff_eq, Bool.beq_eq_decide_eq, tyS, Try.f67]
  refine h3.calls rfl ?_
  simp only [vcS, ev, Abs.get, Abs.put, okDst, okOperand, Abs.Value.flat, cv, cv1, norm1, norm, single, C.refsLtT, C.refsLt, C.refsLt1, O.refsLt, okCells, cellsOf, dataCells, toDs, C.cell, D.cell, cvD, cvDs, exitTo, List.length, List.range, List.range.loop, List.zip, List.zipWith, List.map, List.take, List.drop, List.all, List.any, List.getD, List.set, ↓reduceIte, Nat.reduceEqDiff, Nat.reduceLT, Nat.reduceLeDiff, Nat.reduceAdd, Nat.reduceMul, Nat.reduceSub, reduceCtorEq, ne_eq, List.nil_append, List.cons_append, List.append_nil, List.getElem?_cons_zero, List.getElem?_cons_succ, Option.getD_some, Option.getD_none, Option.map_some, Option.map_none, Option.bind_some, Option.bind_none, Option.all_some, Option.all_none, List.getElem?_toArray, List.size_toArray, List.toList_toArray, List.all_toArray, List.length_nil, List.length_cons, beq_self_eq_true, beq_iff_eq, Bool.beq_eq_decide_eq, tyS, Try.f67]

theorem to41 (xs : List (List D)) (hl : xs.length ≤ 1048576) (hx : ∀ x, x ∈ xs → x.length = 4 ∧ Gives Try.prog 13 [.agg x] (.d (.agg x))) : Gives Try.prog 41 [.sl xs] (.d (.sl xs)) := by
  refine ACalls.enter (fn := Try.f41) Try.func41 rfl (by show 1 ≤ _; decide) ?_
  refine run_sound Try.func41 mixed 100 _ _ (by kernel_rfl) ?_
  simp only [vcS, ev, Abs.get, Abs.put, okDst, okOperand, Abs.Value.flat, cv, cv1, norm1, norm, single, C.refsLtT, C.refsLt, C.refsLt1, O.refsLt, okCells, cellsOf, dataCells, toDs, C.cell, D.cell, cvD, cvDs, exitTo, List.length, List.range, List.range.loop, List.zip, List.zipWith, List.map, List.take, List.drop, List.all, List.any, List.getD, List.set, ↓reduceIte, Nat.reduceEqDiff, Nat.reduceLT, Nat.reduceLeDiff, Nat.reduceAdd, Nat.reduceMul, Nat.reduceSub, reduceCtorEq, ne_eq, List.nil_append, List.cons_append, List.append_nil, List.getElem?_cons_zero, List.getElem?_cons_succ, Option.getD_some, Option.getD_none, Option.map_some, Option.map_none, Option.bind_some, Option.bind_none, Option.all_some, Option.all_none, List.getElem?_toArray, List.size_toArray, List.toList_toArray, List.all_toArray, List.length_nil, List.length_cons, beq_self_eq_true, beq_iff_eq, Bool.beq_eq_decide_eq, tyS, Try.f41, Int.toNat_natCast]
  refine ⟨by omega, by simp only [maxLen]; omega, by omega, ?_⟩
  refine AW.loop_ind (fun i : Nat => ⟨[(4, .d (.int .i64 i)), (0, .d (.sl xs)), (3, .rsl 0 xs.length), (2, .nil0)], [.row 4 33 (xs.take i ++ List.replicate (xs.length - i) [.str [], .int .i64 0, .sl [], .sl []])]⟩) (fun i => i ≤ xs.length) (fun i => xs.length - i) 0 (by omega) ?_ ?_
  · refine Weak.of (by simp) rfl ?_
    simp [Abs.get, C.refsLtT, C.refsLt, C.refsLt1]
  · intro i hi hnext
    by_cases h : i < xs.length
    · obtain ⟨x, hxi⟩ : ∃ x, xs[i]? = some x := ⟨_, List.getElem?_eq_getElem h⟩
      obtain ⟨e1, e2⟩ := hx x (List.mem_of_getElem? hxi)
      have hlt : ((i : Int) < (xs.length : Int)) = True := by simp; omega
      refine run_sound Try.func41 mixed 100 _ _ (by kernel_rfl) ?_
      simp only [vcS, ev, Abs.get, Abs.put, okDst, okOperand, Abs.Value.flat, cv, cv1, norm1, norm, single, C.refsLtT, C.refsLt, C.refsLt1, O.refsLt, okCells, cellsOf, dataCells, toDs, C.cell, D.cell, cvD, cvDs, exitTo, List.length, List.range, List.range.loop, List.zip, List.zipWith, List.map, List.take, List.drop, List.all, List.any, List.getD, List.set, ↓reduceIte, Nat.reduceEqDiff, Nat.reduceLT, Nat.reduceLeDiff, Nat.reduceAdd, Nat.reduceMul, Nat.reduceSub, reduceCtorEq, ne_eq, List.nil_append, List.cons_append, List.append_nil, List.getElem?_cons_zero, List.getElem?_cons_succ, Option.getD_some, Option.getD_none, Option.map_some, Option.map_none, Option.bind_some, Option.bind_none, Option.all_some, Option.all_none, List.getElem?_toArray, List.size_toArray, List.toList_toArray, List.all_toArray, List.length_nil, List.length_cons, beq_self_eq_true, beq_iff_eq, Bool.beq_eq_decide_eq, tyS, Try.f41, Int.toNat_natCast, hlt, hxi, e1]
      refine ⟨by omega, e2.calls rfl ?_⟩
      simp only [vcS, ev, Abs.get, Abs.put, okDst, okOperand, Abs.Value.flat, cv, cv1, norm1, norm, single, C.refsLtT, C.refsLt, C.refsLt1, O.refsLt, okCells, cellsOf, dataCells, toDs, C.cell, D.cell, cvD, cvDs, exitTo, List.length, List.range, List.range.loop, List.zip, List.zipWith, List.map, List.take, List.drop, List.all, List.any, List.getD, List.set, ↓reduceIte, Nat.reduceEqDiff, Nat.reduceLT, Nat.reduceLeDiff, Nat.reduceAdd, Nat.reduceMul, Nat.reduceSub, reduceCtorEq, ne_eq, List.nil_append, List.cons_append, List.append_nil, List.getElem?_cons_zero, List.getElem?_cons_succ, Option.getD_some, Option.getD_none, Option.map_some, Option.map_none, Option.bind_some, Option.bind_none, Option.all_some, Option.all_none, List.getElem?_toArray, List.size_toArray, List.toList_toArray, List.all_toArray, List.length_nil, List.length_cons, beq_self_eq_true, beq_iff_eq, Bool.beq_eq_decide_eq, tyS, Int.toNat_natCast, hlt, hxi, e1]
      refine ⟨by omega, by simpa using e1, by simp; omega, ?_⟩
      rw [wrap_ok (by omega) (by omega)]
      first | rw [row_step (k := 4) hxi (by rfl)] | rw [row_step1 hxi (by rfl)]
      refine hnext (i + 1) _ (by omega) (by omega) ?_
      refine Weak.of (by simp) rfl ?_
      simp [Abs.get, C.refsLtT, C.refsLt, C.refsLt1]
    · have hlt : ((i : Int) < (xs.length : Int)) = False := by simp; omega
      refine run_sound Try.func41 mixed 6 _ _ (by kernel_rfl) ?_
      simp only [vcS, ev, Abs.get, Abs.put, okDst, okOperand, Abs.Value.flat, cv, cv1, norm1, norm, single, C.refsLtT, C.refsLt, C.refsLt1, O.refsLt, okCells, cellsOf, dataCells, toDs, C.cell, D.cell, cvD, cvDs, exitTo, List.length, List.range, List.range.loop, List.zip, List.zipWith, List.map, List.take, List.drop, List.all, List.any, List.getD, List.set, ↓reduceIte, Nat.reduceEqDiff, Nat.reduceLT, Nat.reduceLeDiff, Nat.reduceAdd, Nat.reduceMul, Nat.reduceSub, reduceCtorEq, ne_eq, List.nil_append, List.cons_append, List.append_nil, List.getElem?_cons_zero, List.getElem?_cons_succ, Option.getD_some, Option.getD_none, Option.map_some, Option.map_none, Option.bind_some, Option.bind_none, Option.all_some, Option.all_none, List.getElem?_toArray, List.size_toArray, List.toList_toArray, List.all_toArray, List.length_nil, List.length_cons, beq_self_eq_true, beq_iff_eq, Bool.beq_eq_decide_eq, tyS, Try.f41, Int.toNat_natCast, hlt]
      obtain rfl : i = xs.length := by omega
      rw [row_all]
      refine AW.freeze 3 0 rfl rfl rfl ?_
      refine run_sound Try.func41 mixed 100 _ _ (by kernel_rfl) ?_
      simp only [vcS, ev, Abs.get, Abs.put, okDst, okOperand, Abs.Value.flat, cv, cv1, norm1, norm, single, C.refsLtT, C.refsLt, C.refsLt1, O.refsLt, okCells, cellsOf, dataCells, toDs, C.cell, D.cell, cvD, cvDs, exitTo, List.length, List.range, List.range.loop, List.zip, List.zipWith, List.map, List.take, List.drop, List.all, List.any, List.getD, List.set, ↓reduceIte, Nat.reduceEqDiff, Nat.reduceLT, Nat.reduceLeDiff, Nat.reduceAdd, Nat.reduceMul, Nat.reduceSub, reduceCtorEq, ne_eq, List.nil_append, List.cons_append, List.append_nil, List.getElem?_cons_zero, List.getElem?_cons_succ, Option.getD_some, Option.getD_none, Option.map_some, Option.map_none, Option.bind_some, Option.bind_none, Option.all_some, Option.all_none, List.getElem?_toArray, List.size_toArray, List.toList_toArray, List.all_toArray, List.length_nil, List.length_cons, beq_self_eq_true, beq_iff_eq, Bool.beq_eq_decide_eq, tyS, Try.f41]

theorem to13 (a0 : List UInt8) (a1 : Int) (a2 : List (List D)) (a3 : List (List D)) (h2 : Gives Try.prog 40 [.sl a2] (.d (.sl a2))) (h3 : Gives Try.prog 41 [.sl a3] (.d (.sl a3))) : Gives Try.prog 13 [.agg [.str a0, .int .i64 a1, .sl a2, .sl a3]] (.d (.agg [.str a0, .int .i64 a1, .sl a2, .sl a3])) := by
  refine ACalls.enter (fn := Try.f13) Try.func13 rfl (by show 1 ≤ _; decide) ?_
  refine run_sound Try.func13 mixed 100 _ _ (by kernel_rfl) ?_
  simp only [vcS, ev, Abs.get, Abs.put, okDst, okOperand, Abs.Value.flat, cv, cv1, norm1, norm, single, C.refsLtT, C.refsLt, C.refsLt1, O.refsLt, okCells, cellsOf, dataCells, toDs, C.cell, D.cell, cvD, cvDs, exitTo, List.length, List.range, List.range.loop, List.zip, List.zipWith, List.map, List.take, List.drop, List.all, List.any, List.getD, List.set, ↓reduceIte, Nat.reduceEqDiff, Nat.reduceLT, Nat.reduceLeDiff, Nat.reduceAdd, Nat.reduceMul, Nat.reduceSub, reduceCtorEq, ne_eq, List.nil_append, List.cons_append, List.append_nil, List.getElem?_cons_zero, List.getElem?_cons_succ, Option.getD_some, Option.getD_none, Option.map_some, Option.map_none, Option.bind_some, Option.bind_none, Option.all_some, Option.all_none, List.getElem?_toArray, List.size_toArray, List.toList_toArray, List.all_toArray, List.length_nil, List.length_cons, beq_self_eq_true, beq_iff_eq, Bool.beq_eq_decide_eq, tyS, Try.f13]
  refine h2.calls rfl ?_
  simp only [vcS, ev, Abs.get, Abs.put, okDst, okOperand, Abs.Value.flat, cv, cv1, norm1, norm, single, C.refsLtT, C.refsLt, C.refsLt1, O.refsLt, okCells, cellsOf, dataCells, toDs, C.cell, D.cell, cvD, cvDs, exitTo, List.length, List.range, List.range.loop, List.zip, List.zipWith, List.map, List.take, List.drop, List.all, List.any, List.getD, List.set, ↓reduceIte, Nat.reduceEqDiff, Nat.reduceLT, Nat.reduceLeDiff, Nat.reduceAdd, Nat.reduceMul, Nat.reduceSub, reduceCtorEq, ne_eq, List.nil_append, List.cons_append, List.append_nil, List.getElem?_cons_zero, List.getElem?_cons_succ, Option.getD_some, Option.getD_none, Option.map_some, Option.map_none, Option.bind_some, Option.bind_none, Option.all_some, Option.all_none, List.getElem?_toArray, List.size_toArray, List.toList_toArray, List.all_toArray, List.length_nil, List.length_cons, beq_self_eq_true, beq_iff_eq, Bool.beq_eq_decide_eq, tyS, Try.f13]
  refine h3.calls rfl ?_
  simp only [vcS, ev, Abs.get, Abs.put, okDst, okOperand, Abs.Value.flat, cv, cv1, norm1, norm, single, C.refsLtT, C.refsLt, C.refsLt1, O.refsLt, okCells, cellsOf, dataCells, toDs, C.cell, D.cell, cvD, cvDs, exitTo, List.length, List.range, List.range.loop, List.zip, List.zipWith, List.map, List.take, List.drop, List.all, List.any, List.getD, List.set, ↓reduceIte, Nat.reduceEqDiff, Nat.reduceLT, Nat.reduceLeDiff, Nat.reduceAdd, Nat.reduceMul, Nat.reduceSub, reduceCtorEq, ne_eq, List.nil_append, List.cons_append, List.append_nil, List.getElem?_cons_zero, List.getElem?_cons_succ, Option.getD_some, Option.getD_none, Option.map_some, Option.map_none, Option.bind_some, Option.bind_none, Option.all_some, Option.all_none, List.getElem?_toArray, List.size_toArray, List.toList_toArray, List.all_toArray, List.length_nil, List.length_cons, beq_self_eq_true, beq_iff_eq, Bool.beq_eq_decide_eq, tyS, Try.f13]

theorem to20 (a0 : List UInt8) (a1 : List (List D)) (h1 : Gives Try.prog 40 [.sl a1] (.d (.sl a1))) : Gives Try.prog 20 [.agg [.str a0, .sl a1]] (.d (.agg [.str a0, .sl a1])) := by
  refine ACalls.enter (fn := Try.f20) Try.func20 rfl (by show 1 ≤ _; decide) ?_
  refine run_sound Try.func20 mixed 100 _ _ (by kernel_rfl) ?_
  simp only [vcS, ev, Abs.get, Abs.put, okDst, okOperand, Abs.Value.flat, cv, cv1, norm1, norm, single, C.refsLtT, C.refsLt, C.refsLt1, O.refsLt, okCells, cellsOf, dataCells, toDs, C.cell, D.cell, cvD, cvDs, exitTo, List.length, List.range, List.range.loop, List.zip, List.zipWith, List.map, List.take, List.drop, List.all, List.any, List.getD, List.set, ↓reduceIte, Nat.reduceEqDiff, Nat.reduceLT, Nat.reduceLeDiff, Nat.reduceAdd, Nat.reduceMul, Nat.reduceSub, reduceCtorEq, ne_eq, List.nil_append, List.cons_append, List.append_nil, List.getElem?_cons_zero, List.getElem?_cons_succ, Option.getD_some, Option.getD_none, Option.map_some, Option.map_none, Option.bind_some, Option.bind_none, Option.all_some, Option.all_none, List.getElem?_toArray, List.size_toArray, List.toList_toArray, List.all_toArray, List.length_nil, List.length_cons, beq_self_eq_true, beq_iff_eq, Bool.beq_eq_decide_eq, tyS, Try.f20]
  refine h1.calls rfl ?_
  simp only [vcS, ev, Abs.get, Abs.put, okDst, okOperand, Abs.Value.flat, cv, cv1, norm1, norm, single, C.refsLtT, C.refsLt, C.refsLt1, O.refsLt, okCells, cellsOf, dataCells, toDs, C.cell, D.cell, cvD, cvDs, exitTo, List.length, List.range, List.range.loop, List.zip, List.zipWith, List.map, List.take, List.drop, List.all, List.any, List.getD, List.set, ↓reduceIte, Nat.reduceEqDiff, Nat.reduceLT, Nat.reduceLeDiff, Nat.reduceAdd, Nat.reduceMul, Nat.reduceSub, reduceCtorEq, ne_eq, List.nil_append, List.cons_append, List.append_nil, List.getElem?_cons_zero, List.getElem?_cons_succ, Option.getD_some, Option.getD_none, Option.map_some, Option.map_none, Option.bind_some, Option.bind_none, Option.all_some, Option.all_none, List.getElem?_toArray, List.size_toArray, List.toList_toArray, List.all_toArray, List.length_nil, List.length_cons, beq_self_eq_true, beq_iff_eq, Bool.beq_eq_decide_eq, tyS, Try.f20]

theorem eq43 (xs : List (List D)) (hm : xs.length ≤ maxLen) (hx : ∀ x, x ∈ xs → x.length = 4 ∧ Gives Try.prog 68 [.agg x, .agg x] (.d (.bool true))) : Gives Try.prog 43 [.sl xs, .sl xs] (.d (.bool true)) := by
  have hm' : (xs.length : Int) ≤ 9223372036854775807 := by simp only [maxLen] at hm; omega
  refine ACalls.enter (fn := Try.f43) Try.func43 rfl (by show 2 ≤ _; decide) ?_
  refine run_sound Try.func43 mixed 100 _ _ (by kernel_rfl) ?_
  simp only [vcS, ev, Abs.get, Abs.put, okDst, okOperand, Abs.Value.flat, cv, cv1, norm1, norm, single, C.refsLtT, C.refsLt, C.refsLt1, O.refsLt, okCells, cellsOf, dataCells, toDs, C.cell, D.cell, cvD, cvDs, exitTo, List.length, List.range, List.range.loop, List.zip, List.zipWith, List.map, List.take, List.drop, List.all, List.any, List.getD, List.set, ↓reduceIte, Nat.reduceEqDiff, Nat.reduceLT, Nat.reduceLeDiff, Nat.reduceAdd, Nat.reduceMul, Nat.reduceSub, reduceCtorEq, ne_eq, List.nil_append, List.cons_append, List.append_nil, List.getElem?_cons_zero, List.getElem?_cons_succ, Option.getD_some, Option.getD_none, Option.map_some, Option.map_none, Option.bind_some, Option.bind_none, Option.all_some, Option.all_none, List.getElem?_toArray, List.size_toArray, List.toList_toArray, List.all_toArray, List.length_nil, List.length_cons, beq_self_eq_true, beq_iff_eq, Bool.beq_eq_decide_eq, tyS, Try.f43, bne_self_eq_false]
  refine AW.loop_ind (fun i : Nat => ⟨[(5, .d (.int .i64 i)), (0, .d (.sl xs)), (1, .d (.sl xs)), (4, .d (.bool false))], []⟩) (fun i => i ≤ xs.length) (fun i => xs.length - i) 0 (by omega) ?_ ?_
  · refine Weak.of (by simp) rfl ?_
    simp [Abs.get, C.refsLtT, C.refsLt, C.refsLt1]
  · intro i hi hnext
    by_cases h : i < xs.length
    · obtain ⟨x, hxi⟩ : ∃ x, xs[i]? = some x := ⟨_, List.getElem?_eq_getElem h⟩
      obtain ⟨e1, e2⟩ := hx x (List.mem_of_getElem? hxi)
      have hlt : ((i : Int) < (xs.length : Int)) = True := by simp; omega
      have h00 : (0 ≤ (i : Int)) = True := by simp
      refine run_sound Try.func43 mixed 100 _ _ (by kernel_rfl) ?_
      simp only [vcS, ev, Abs.get, Abs.put, okDst, okOperand, Abs.Value.flat, cv, cv1, norm1, norm, single, C.refsLtT, C.refsLt, C.refsLt1, O.refsLt, okCells, cellsOf, dataCells, toDs, C.cell, D.cell, cvD, cvDs, exitTo, List.length, List.range, List.range.loop, List.zip, List.zipWith, List.map, List.take, List.drop, List.all, List.any, List.getD, List.set, ↓reduceIte, Nat.reduceEqDiff, Nat.reduceLT, Nat.reduceLeDiff, Nat.reduceAdd, Nat.reduceMul, Nat.reduceSub, reduceCtorEq, ne_eq, List.nil_append, List.cons_append, List.append_nil, List.getElem?_cons_zero, List.getElem?_cons_succ, Option.getD_some, Option.getD_none, Option.map_some, Option.map_none, Option.bind_some, Option.bind_none, Option.all_some, Option.all_none, List.getElem?_toArray, List.size_toArray, List.toList_toArray, List.all_toArray, List.length_nil, List.length_cons, beq_self_eq_true, beq_iff_eq, Bool.beq_eq_decide_eq, tyS, Try.f43, Int.toNat_natCast, hlt, hxi, e1, h00, bne_self_eq_false]
      refine e2.callQ rfl ?_
      simp only [vcS, ev, Abs.get, Abs.put, okDst, okOperand, Abs.Value.flat, cv, cv1, norm1, norm, single, C.refsLtT, C.refsLt, C.refsLt1, O.refsLt, okCells, cellsOf, dataCells, toDs, C.cell, D.cell, cvD, cvDs, exitTo, List.length, List.range, List.range.loop, List.zip, List.zipWith, List.map, List.take, List.drop, List.all, List.any, List.getD, List.set, ↓reduceIte, Nat.reduceEqDiff, Nat.reduceLT, Nat.reduceLeDiff, Nat.reduceAdd, Nat.reduceMul, Nat.reduceSub, reduceCtorEq, ne_eq, List.nil_append, List.cons_append, List.append_nil, List.getElem?_cons_zero, List.getElem?_cons_succ, Option.getD_some, Option.getD_none, Option.map_some, Option.map_none, Option.bind_some, Option.bind_none, Option.all_some, Option.all_none, List.getElem?_toArray, List.size_toArray, List.toList_toArray, List.all_toArray, List.length_nil, List.length_cons, beq_self_eq_true, beq_iff_eq, Bool.beq_eq_decide_eq, tyS, Try.f43]
      rw [wrap_ok (by omega) (by omega)]
      refine hnext (i + 1) _ (by omega) (by omega) ?_
      refine Weak.of (by simp) rfl ?_
      simp [Abs.get, C.refsLtT, C.refsLt, C.refsLt1]
    · have hlt : ((i : Int) < (xs.length : Int)) = False := by simp; omega
      refine run_sound Try.func43 mixed 100 _ _ (by kernel_rfl) ?_
      simp only [vcS, ev, Abs.get, Abs.put, okDst, okOperand, Abs.Value.flat, cv, cv1, norm1, norm, single, C.refsLtT, C.refsLt, C.refsLt1, O.refsLt, okCells, cellsOf, dataCells, toDs, C.cell, D.cell, cvD, cvDs, exitTo, List.length, List.range, List.range.loop, List.zip, List.zipWith, List.map, List.take, List.drop, List.all, List.any, List.getD, List.set, ↓reduceIte, Nat.reduceEqDiff, Nat.reduceLT, Nat.reduceLeDiff, Nat.reduceAdd, Nat.reduceMul, Nat.reduceSub, reduceCtorEq, ne_eq, List.nil_append, List.cons_append, List.append_nil, List.getElem?_cons_zero, List.getElem?_cons_succ, Option.getD_some, Option.getD_none, Option.map_some, Option.map_none, Option.bind_some, Option.bind_none, Option.all_some, Option.all_none, List.getElem?_toArray, List.size_toArray, List.toList_toArray, List.all_toArray, List.length_nil, List.length_cons, beq_self_eq_true, beq_iff_eq, Bool.beq_eq_decide_eq, tyS, Try.f43, hlt]

theorem eq68 (a0 : Int) (a1 : Int) (a2 : List UInt8) (a3 : List (List D)) (h3 : Gives Try.prog 43 [.sl a3, .sl a3] (.d (.bool true))) : Gives Try.prog 68 [.agg [.int .i64 a0, .int .i64 a1, .str a2, .sl a3], .agg [.int .i64 a0, .int .i64 a1, .str a2, .sl a3]] (.d (.bool true)) := by
  refine ACalls.enter (fn := Try.f68) Try.func68 rfl (by show 2 ≤ _; decide) ?_
  refine run_sound Try.func68 mixed 100 _ _ (by kernel_rfl) ?_
  simp only [vcS, ev, Abs.get, Abs.put, okDst, okOperand, Abs.Value.flat, cv, cv1, norm1, norm, single, C.refsLtT, C.refsLt, C.refsLt1, O.refsLt, okCells, cellsOf, dataCells, toDs, C.cell, D.cell, cvD, cvDs, exitTo, List.length, List.range, List.range.loop, List.zip, List.zipWith, List.map, List.take, List.drop, List.all, List.any, List.getD, List.set, ↓reduceIte, Nat.reduceEqDiff, Nat.reduceLT, Nat.reduceLeDiff, Nat.reduceAdd, Nat.reduceMul, Nat.reduceSub, reduceCtorEq, ne_eq, List.nil_append, List.cons_append, List.append_nil, List.getElem?_cons_zero, List.getElem?_cons_succ, Option.getD_some, Option.getD_none, Option.map_some, Option.map_none, Option.bind_some, Option.bind_none, Option.all_some, Option.all_none, List.getElem?_toArray, List.size_toArray, List.toList_toArray, List.all_toArray, List.length_nil, List.length_cons, beq_self_eq_true, beq_iff_eq, Bool.beq_eq_decide_eq, tyS, Try.f68, bne_self_eq_false]
  refine h3.calls rfl ?_
  simp only [vcS, ev, Abs.get, Abs.put, okDst, okOperand, Abs.Value.flat, cv, cv1, norm1, norm, single, C.refsLtT, C.refsLt, C.refsLt1, O.refsLt, okCells, cellsOf, dataCells, toDs, C.cell, D.cell, cvD, cvDs, exitTo, List.length, List.range, List.range.loop, List.zip, List.zipWith, List.map, List.take, List.drop, List.all, List.any, List.getD, List.set, ↓reduceIte, Nat.reduceEqDiff, Nat.reduceLT, Nat.reduceLeDiff, Nat.reduceAdd, Nat.reduceMul, Nat.reduceSub, reduceCtorEq, ne_eq, List.nil_append, List.cons_append, List.append_nil, List.getElem?_cons_zero, List.getElem?_cons_succ, Option.getD_some, Option.getD_none, Option.map_some, Option.map_none, Option.bind_some, Option.bind_none, Option.all_some, Option.all_none, List.getElem?_toArray, List.size_toArray, List.toList_toArray, List.all_toArray, List.length_nil, List.length_cons, beq_self_eq_true, beq_iff_eq, Bool.beq_eq_decide_eq, tyS, Try.f68, bne_self_eq_false]

theorem eq44 (xs : List (List D)) (hm : xs.length ≤ maxLen) (hx : ∀ x, x ∈ xs → x.length = 4 ∧ Gives Try.prog 15 [.agg x, .agg x] (.d (.bool true))) : Gives Try.prog 44 [.sl xs, .sl xs] (.d (.bool true)) := by
  have hm' : (xs.length : Int) ≤ 9223372036854775807 := by simp only [maxLen] at hm; omega
  refine ACalls.enter (fn := Try.f44) Try.func44 rfl (by show 2 ≤ _; decide) ?_
  refine run_sound Try.func44 mixed 100 _ _ (by kernel_rfl) ?_
  simp only [vcS, ev, Abs.get, Abs.put, okDst, okOperand, Abs.Value.flat, cv, cv1, norm1, norm, single, C.refsLtT, C.refsLt, C.refsLt1, O.refsLt, okCells, cellsOf, dataCells, toDs, C.cell, D.cell, cvD, cvDs, exitTo, List.length, List.range, List.range.loop, List.zip, List.zipWith, List.map, List.take, List.drop, List.all, List.any, List.getD, List.set, ↓reduceIte, Nat.reduceEqDiff, Nat.reduceLT, Nat.reduceLeDiff, Nat.reduceAdd, Nat.reduceMul, Nat.reduceSub, reduceCtorEq, ne_eq, List.nil_append, List.cons_append, List.append_nil, List.getElem?_cons_zero, List.getElem?_cons_succ, Option.getD_some, Option.getD_none, Option.map_some, Option.map_none, Option.bind_some, Option.bind_none, Option.all_some, Option.all_none, List.getElem?_toArray, List.size_toArray, List.toList_toArray, List.all_toArray, List.length_nil, List.length_cons, beq_self_eq_true, beq_iff_eq, Bool.beq_eq_decide_eq, tyS, Try.f44, bne_self_eq_false]
  refine AW.loop_ind (fun i : Nat => ⟨[(5, .d (.int .i64 i)), (0, .d (.sl xs)), (1, .d (.sl xs)), (4, .d (.bool false))], []⟩) (fun i => i ≤ xs.length) (fun i => xs.length - i) 0 (by omega) ?_ ?_
  · refine Weak.of (by simp) rfl ?_
    simp [Abs.get, C.refsLtT, C.refsLt, C.refsLt1]
  · intro i hi hnext
    by_cases h : i < xs.length
    · obtain ⟨x, hxi⟩ : ∃ x, xs[i]? = some x := ⟨_, List.getElem?_eq_getElem h⟩
      obtain ⟨e1, e2⟩ := hx x (List.mem_of_getElem? hxi)
      have hlt : ((i : Int) < (xs.length : Int)) = True := by simp; omega
      have h00 : (0 ≤ (i : Int)) = True := by simp
      refine run_sound Try.func44 mixed 100 _ _ (by kernel_rfl) ?_
      simp only [vcS, ev, Abs.get, Abs.put, okDst, okOperand, Abs.Value.flat, cv, cv1, norm1, norm, single, C.refsLtT, C.refsLt, C.refsLt1, O.refsLt, okCells, cellsOf, dataCells, toDs, C.cell, D.cell, cvD, cvDs, exitTo, List.length, List.range, List.range.loop, List.zip, List.zipWith, List.map, List.take, List.drop, List.all, List.any, List.getD, List.set, ↓reduceIte, Nat.reduceEqDiff, Nat.reduceLT, Nat.reduceLeDiff, Nat.reduceAdd, Nat.reduceMul, Nat.reduceSub, reduceCtorEq, ne_eq, List.nil_append, List.cons_append, List.append_nil, List.getElem?_cons_zero, List.getElem?_cons_succ, Option.getD_some, Option.getD_none, Option.map_some, Option.map_none, Option.bind_some, Option.bind_none, Option.all_some, Option.all_none, List.getElem?_toArray, List.size_toArray, List.toList_toArray, List.all_toArray, List.length_nil, List.length_cons, beq_self_eq_true, beq_iff_eq, Bool.beq_eq_decide_eq, tyS, Try.f44, Int.toNat_natCast, hlt, hxi, e1, h00, bne_self_eq_false]
      refine e2.callQ rfl ?_
      simp only [vcS, ev, Abs.get, Abs.put, okDst, okOperand, Abs.Value.flat, cv, cv1, norm1, norm, single, C.refsLtT, C.refsLt, C.refsLt1, O.refsLt, okCells, cellsOf, dataCells, toDs, C.cell, D.cell, cvD, cvDs, exitTo, List.length, List.range, List.range.loop, List.zip, List.zipWith, List.map, List.take, List.drop, List.all, List.any, List.getD, List.set, ↓reduceIte, Nat.reduceEqDiff, Nat.reduceLT, Nat.reduceLeDiff, Nat.reduceAdd, Nat.reduceMul, Nat.reduceSub, reduceCtorEq, ne_eq, List.nil_append, List.cons_append, List.append_nil, List.getElem?_cons_zero, List.getElem?_cons_succ, Option.getD_some, Option.getD_none, Option.map_some, Option.map_none, Option.bind_some, Option.bind_none, Option.all_some, Option.all_none, List.getElem?_toArray, List.size_toArray, List.toList_toArray, List.all_toArray, List.length_nil, List.length_cons, beq_self_eq_true, beq_iff_eq, Bool.beq_eq_decide_eq, tyS, Try.f44]
      rw [wrap_ok (by omega) (by omega)]
      refine hnext (i + 1) _ (by omega) (by omega) ?_
      refine Weak.of (by simp) rfl ?_
      simp [Abs.get, C.refsLtT, C.refsLt, C.refsLt1]
    · have hlt : ((i : Int) < (xs.length : Int)) = False := by simp; omega
      refine run_sound Try.func44 mixed 100 _ _ (by kernel_rfl) ?_
      simp only [vcS, ev, Abs.get, Abs.put, okDst, okOperand, Abs.Value.flat, cv, cv1, norm1, norm, single, C.refsLtT, C.refsLt, C.refsLt1, O.refsLt, okCells, cellsOf, dataCells, toDs, C.cell, D.cell, cvD, cvDs, exitTo, List.length, List.range, List.range.loop, List.zip, List.zipWith, List.map, List.take, List.drop, List.all, List.any, List.getD, List.set, ↓reduceIte, Nat.reduceEqDiff, Nat.reduceLT, Nat.reduceLeDiff, Nat.reduceAdd, Nat.reduceMul, Nat.reduceSub, reduceCtorEq, ne_eq, List.nil_append, List.cons_append, List.append_nil, List.getElem?_cons_zero, List.getElem?_cons_succ, Option.getD_some, Option.getD_none, Option.map_some, Option.map_none, Option.bind_some, Option.bind_none, Option.all_some, Option.all_none, List.getElem?_toArray, List.size_toArray, List.toList_toArray, List.all_toArray, List.length_nil, List.length_cons, beq_self_eq_true, beq_iff_eq, Bool.beq_eq_decide_eq, tyS, Try.f44, hlt]

theorem eq15 (a0 : List UInt8) (a1 : Int) (a2 : List (List D)) (a3 : List (List D)) (h2 : Gives Try.prog 43 [.sl a2, .sl a2] (.d (.bool true))) (h3 : Gives Try.prog 44 [.sl a3, .sl a3] (.d (.bool true))) : Gives Try.prog 15 [.agg [.str a0, .int .i64 a1, .sl a2, .sl a3], .agg [.str a0, .int .i64 a1, .sl a2, .sl a3]] (.d (.bool true)) := by
  refine ACalls.enter (fn := Try.f15) Try.func15 rfl (by show 2 ≤ _; decide) ?_
  refine run_sound Try.func15 mixed 100 _ _ (by kernel_rfl) ?_
  simp only [vcS, ev, Abs.get, Abs.put, okDst, okOperand, Abs.Value.flat, cv, cv1, norm1, norm, single, C.refsLtT, C.refsLt, C.refsLt1, O.refsLt, okCells, cellsOf, dataCells, toDs, C.cell, D.cell, cvD, cvDs, exitTo, List.length, List.range, List.range.loop, List.zip, List.zipWith, List.map, List.take, List.drop, List.all, List.any, List.getD, List.set, ↓reduceIte, Nat.reduceEqDiff, Nat.reduceLT, Nat.reduceLeDiff, Nat.reduceAdd, Nat.reduceMul, Nat.reduceSub, reduceCtorEq, ne_eq, List.nil_append, List.cons_append, List.append_nil, List.getElem?_cons_zero, List.getElem?_cons_succ, Option.getD_some, Option.getD_none, Option.map_some, Option.map_none, Option.bind_some, Option.bind_none, Option.all_some, Option.all_none, List.getElem?_toArray, List.size_toArray, List.toList_toArray, List.all_toArray, List.length_nil, List.length_cons, beq_self_eq_true, beq_iff_eq, Bool.beq_eq_decide_eq, tyS, Try.f15, bne_self_eq_false]
  refine h2.calls rfl ?_
  simp only [vcS, ev, Abs.get, Abs.put, okDst, okOperand, Abs.Value.flat, cv, cv1, norm1, norm, single, C.refsLtT, C.refsLt, C.refsLt1, O.refsLt, okCells, cellsOf, dataCells, toDs, C.cell, D.cell, cvD, cvDs, exitTo, List.length, List.range, List.range.loop, List.zip, List.zipWith, List.map, List.take, List.drop, List.all, List.any, List.getD, List.set, ↓reduceIte, Nat.reduceEqDiff, Nat.reduceLT, Nat.reduceLeDiff, Nat.reduceAdd, Nat.reduceMul, Nat.reduceSub, reduceCtorEq, ne_eq, List.nil_append, List.cons_append, List.append_nil, List.getElem?_cons_zero, List.getElem?_cons_succ, Option.getD_some, Option.getD_none, Option.map_some, Option.map_none, Option.bind_some, Option.bind_none, Option.all_some, Option.all_none, List.getElem?_toArray, List.size_toArray, List.toList_toArray, List.all_toArray, List.length_nil, List.length_cons, beq_self_eq_true, beq_iff_eq, Bool.beq_eq_decide_eq, tyS, Try.f15, bne_self_eq_false]
  refine h3.calls rfl ?_
  simp only [vcS, ev, Abs.get, Abs.put, okDst, okOperand, Abs.Value.flat, cv, cv1, norm1, norm, single, C.refsLtT, C.refsLt, C.refsLt1, O.refsLt, okCells, cellsOf, dataCells, toDs, C.cell, D.cell, cvD, cvDs, exitTo, List.length, List.range, List.range.loop, List.zip, List.zipWith, List.map, List.take, List.drop, List.all, List.any, List.getD, List.set, ↓reduceIte, Nat.reduceEqDiff, Nat.reduceLT, Nat.reduceLeDiff, Nat.reduceAdd, Nat.reduceMul, Nat.reduceSub, reduceCtorEq, ne_eq, List.nil_append, List.cons_append, List.append_nil, List.getElem?_cons_zero, List.getElem?_cons_succ, Option.getD_some, Option.getD_none, Option.map_some, Option.map_none, Option.bind_some, Option.bind_none, Option.all_some, Option.all_none, List.getElem?_toArray, List.size_toArray, List.toList_toArray, List.all_toArray, List.length_nil, List.length_cons, beq_self_eq_true, beq_iff_eq, Bool.beq_eq_decide_eq, tyS, Try.f15, bne_self_eq_false]

theorem eq22 (a0 : List UInt8) (a1 : List (List D)) (h1 : Gives Try.prog 43 [.sl a1, .sl a1] (.d (.bool true))) : Gives Try.prog 22 [.agg [.str a0, .sl a1], .agg [.str a0, .sl a1]] (.d (.bool true)) := by
  refine ACalls.enter (fn := Try.f22) Try.func22 rfl (by show 2 ≤ _; decide) ?_
  refine run_sound Try.func22 mixed 100 _ _ (by kernel_rfl) ?_
  simp only [vcS, ev, Abs.get, Abs.put, okDst, okOperand, Abs.Value.flat, cv, cv1, norm1, norm, single, C.refsLtT, C.refsLt, C.refsLt1, O.refsLt, okCells, cellsOf, dataCells, toDs, C.cell, D.cell, cvD, cvDs, exitTo, List.length, List.range, List.range.loop, List.zip, List.zipWith, List.map, List.take, List.drop, List.all, List.any, List.getD, List.set, ↓reduceIte, Nat.reduceEqDiff, Nat.reduceLT, Nat.reduceLeDiff, Nat.reduceAdd, Nat.reduceMul, Nat.reduceSub, reduceCtorEq, ne_eq, List.nil_append, List.cons_append, List.append_nil, List.getElem?_cons_zero, List.getElem?_cons_succ, Option.getD_some, Option.getD_none, Option.map_some, Option.map_none, Option.bind_some, Option.bind_none, Option.all_some, Option.all_none, List.getElem?_toArray, List.size_toArray, List.toList_toArray, List.all_toArray, List.length_nil, List.length_cons, beq_self_eq_true, beq_iff_eq, Bool.beq_eq_decide_eq, tyS, Try.f22, bne_self_eq_false]
  refine h1.calls rfl ?_
  simp only [vcS, ev, Abs.get, Abs.put, okDst, okOperand, Abs.Value.flat, cv, cv1, norm1, norm, single, C.refsLtT, C.refsLt, C.refsLt1, O.refsLt, okCells, cellsOf, dataCells, toDs, C.cell, D.cell, cvD, cvDs, exitTo, List.length, List.range, List.range.loop, List.zip, List.zipWith, List.map, List.take, List.drop, List.all, List.any, List.getD, List.set, ↓reduceIte, Nat.reduceEqDiff, Nat.reduceLT, Nat.reduceLeDiff, Nat.reduceAdd, Nat.reduceMul, Nat.reduceSub, reduceCtorEq, ne_eq, List.nil_append, List.cons_append, List.append_nil, List.getElem?_cons_zero, List.getElem?_cons_succ, Option.getD_some, Option.getD_none, Option.map_some, Option.map_none, Option.bind_some, Option.bind_none, Option.all_some, Option.all_none, List.getElem?_toArray, List.size_toArray, List.toList_toArray, List.all_toArray, List.length_nil, List.length_cons, beq_self_eq_true, beq_iff_eq, Bool.beq_eq_decide_eq, tyS, Try.f22, bne_self_eq_false]

theorem len117 {x : List D} (h : Sh Try.prog 117 x) : x.length = 4 := by
  obtain ⟨_, _, _, _, rfl, _⟩ := inv117 h
  rfl
theorem szc117 : ∀ (m : Nat) (x : List D), wtL x < m → Sh Try.prog 117 x → ∀ n : Int, 0 ≤ n → n ≤ 1048576 → Gives Try.prog 66 [.agg x, .int .i64 n] (.d (.int .i64 (szr n (wtL x))))
  | 0, _, hm, _ => by omega
  | m + 1, x, hm, h => by
    obtain ⟨a0, a1, a2, a3, rfl, q0, q1, q2, q3⟩ := inv117 h
    have hw : wtL [.int .i64 a0, .int .i64 a1, .str a2, .sl a3] = a2.length + wtR a3 := by simp only [wtL, D.wt] <;> omega
    exact fun n g0 g1 => sz66 a0 a1 a2 a3 q2 (fun n g0 g1 => sz37 a3 q3.1 (fun x hx => ⟨len117 (q3.2 x hx), szc117 m x (by have := wtL_lt a3 x hx; omega) (q3.2 x hx)⟩) n g0 g1) n g0 g1
theorem toc117 : ∀ (m : Nat) (x : List D), wtL x < m → wtL x ≤ 1048576 → Sh Try.prog 117 x → Gives Try.prog 67 [.agg x] (.d (.agg x))
  | 0, _, hm, _, _ => by omega
  | m + 1, x, hm, hb, h => by
    obtain ⟨a0, a1, a2, a3, rfl, q0, q1, q2, q3⟩ := inv117 h
    have hw : wtL [.int .i64 a0, .int .i64 a1, .str a2, .sl a3] = a2.length + wtR a3 := by simp only [wtL, D.wt] <;> omega
    exact to67 a0 a1 a2 a3 (to40 a3 (by have := sumW_le a3 0; omega) (fun x hx => ⟨len117 (q3.2 x hx), toc117 m x (by have := wtL_lt a3 x hx; omega) (by have := wtL_lt a3 x hx; omega) (q3.2 x hx)⟩))
theorem eqc117 : ∀ (m : Nat) (x : List D), wtL x < m → Sh Try.prog 117 x → Gives Try.prog 68 [.agg x, .agg x] (.d (.bool true))
  | 0, _, hm, _ => by omega
  | m + 1, x, hm, h => by
    obtain ⟨a0, a1, a2, a3, rfl, q0, q1, q2, q3⟩ := inv117 h
    have hw : wtL [.int .i64 a0, .int .i64 a1, .str a2, .sl a3] = a2.length + wtR a3 := by simp only [wtL, D.wt] <;> omega
    exact eq68 a0 a1 a2 a3 (eq43 a3 q3.1 (fun x hx => ⟨len117 (q3.2 x hx), eqc117 m x (by have := wtL_lt a3 x hx; omega) (q3.2 x hx)⟩))

theorem szs24 (xs : List (List D)) (hm : xs.length ≤ maxLen) (h : ∀ x, x ∈ xs → Sh Try.prog 117 x) (n : Int) (g0 : 0 ≤ n) (g1 : n ≤ 1048576) : Gives Try.prog 37 [.sl xs, .int .i64 n] (.d (.int .i64 (szr n (wtR xs)))) :=
  sz37 xs hm (fun x hx => ⟨len117 (h x hx), szc117 _ x (Nat.lt_succ_self _) (h x hx)⟩) n g0 g1
theorem tos24 (xs : List (List D)) (hb : wtR xs ≤ 1048576) (h : ∀ x, x ∈ xs → Sh Try.prog 117 x) : Gives Try.prog 40 [.sl xs] (.d (.sl xs)) :=
  to40 xs (by have := sumW_le xs 0; omega) (fun x hx => ⟨len117 (h x hx), toc117 _ x (Nat.lt_succ_self _) (by have := wtL_lt xs x hx; omega) (h x hx)⟩)
theorem eqs24 (xs : List (List D)) (hm : xs.length ≤ maxLen) (h : ∀ x, x ∈ xs → Sh Try.prog 117 x) : Gives Try.prog 43 [.sl xs, .sl xs] (.d (.bool true)) :=
  eq43 xs hm (fun x hx => ⟨len117 (h x hx), eqc117 _ x (Nat.lt_succ_self _) (h x hx)⟩)

theorem len27 {x : List D} (h : Sh Try.prog 27 x) : x.length = 4 := by
  obtain ⟨_, _, _, _, rfl, _⟩ := inv27 h
  rfl
theorem szc27 : ∀ (m : Nat) (x : List D), wtL x < m → Sh Try.prog 27 x → ∀ n : Int, 0 ≤ n → n ≤ 1048576 → Gives Try.prog 11 [.agg x, .int .i64 n] (.d (.int .i64 (szr n (wtL x))))
  | 0, _, hm, _ => by omega
  | m + 1, x, hm, h => by
    obtain ⟨a0, a1, a2, a3, rfl, q0, q1, q2, q3⟩ := inv27 h
    have hw : wtL [.str a0, .int .i64 a1, .sl a2, .sl a3] = a0.length + wtR a2 + wtR a3 := by simp only [wtL, D.wt] <;> omega
    exact fun n g0 g1 => sz11 a0 a1 a2 a3 q0 (fun n g0 g1 => szs24 a2 q2.1 q2.2 n g0 g1) (fun n g0 g1 => sz38 a3 q3.1 (fun x hx => ⟨len27 (q3.2 x hx), szc27 m x (by have := wtL_lt a3 x hx; omega) (q3.2 x hx)⟩) n g0 g1) n g0 g1
theorem toc27 : ∀ (m : Nat) (x : List D), wtL x < m → wtL x ≤ 1048576 → Sh Try.prog 27 x → Gives Try.prog 13 [.agg x] (.d (.agg x))
  | 0, _, hm, _, _ => by omega
  | m + 1, x, hm, hb, h => by
    obtain ⟨a0, a1, a2, a3, rfl, q0, q1, q2, q3⟩ := inv27 h
    have hw : wtL [.str a0, .int .i64 a1, .sl a2, .sl a3] = a0.length + wtR a2 + wtR a3 := by simp only [wtL, D.wt] <;> omega
    exact to13 a0 a1 a2 a3 (tos24 a2 (by omega) q2.2) (to41 a3 (by have := sumW_le a3 0; omega) (fun x hx => ⟨len27 (q3.2 x hx), toc27 m x (by have := wtL_lt a3 x hx; omega) (by have := wtL_lt a3 x hx; omega) (q3.2 x hx)⟩))
theorem eqc27 : ∀ (m : Nat) (x : List D), wtL x < m → Sh Try.prog 27 x → Gives Try.prog 15 [.agg x, .agg x] (.d (.bool true))
  | 0, _, hm, _ => by omega
  | m + 1, x, hm, h => by
    obtain ⟨a0, a1, a2, a3, rfl, q0, q1, q2, q3⟩ := inv27 h
    have hw : wtL [.str a0, .int .i64 a1, .sl a2, .sl a3] = a0.length + wtR a2 + wtR a3 := by simp only [wtL, D.wt] <;> omega
    exact eq15 a0 a1 a2 a3 (eqs24 a2 q2.1 q2.2) (eq44 a3 q3.1 (fun x hx => ⟨len27 (q3.2 x hx), eqc27 m x (by have := wtL_lt a3 x hx; omega) (q3.2 x hx)⟩))

theorem szs25 (xs : List (List D)) (hm : xs.length ≤ maxLen) (h : ∀ x, x ∈ xs → Sh Try.prog 27 x) (n : Int) (g0 : 0 ≤ n) (g1 : n ≤ 1048576) : Gives Try.prog 38 [.sl xs, .int .i64 n] (.d (.int .i64 (szr n (wtR xs)))) :=
  sz38 xs hm (fun x hx => ⟨len27 (h x hx), szc27 _ x (Nat.lt_succ_self _) (h x hx)⟩) n g0 g1
theorem tos25 (xs : List (List D)) (hb : wtR xs ≤ 1048576) (h : ∀ x, x ∈ xs → Sh Try.prog 27 x) : Gives Try.prog 41 [.sl xs] (.d (.sl xs)) :=
  to41 xs (by have := sumW_le xs 0; omega) (fun x hx => ⟨len27 (h x hx), toc27 _ x (Nat.lt_succ_self _) (by have := wtL_lt xs x hx; omega) (h x hx)⟩)
theorem eqs25 (xs : List (List D)) (hm : xs.length ≤ maxLen) (h : ∀ x, x ∈ xs → Sh Try.prog 27 x) : Gives Try.prog 44 [.sl xs, .sl xs] (.d (.bool true)) :=
  eq44 xs hm (fun x hx => ⟨len27 (h x hx), eqc27 _ x (Nat.lt_succ_self _) (h x hx)⟩)

theorem len38 {x : List D} (h : Sh Try.prog 38 x) : x.length = 2 := by
  obtain ⟨_, _, rfl, _⟩ := inv38 h
  rfl
theorem szc38 : ∀ (m : Nat) (x : List D), wtL x < m → Sh Try.prog 38 x → ∀ n : Int, 0 ≤ n → n ≤ 1048576 → Gives Try.prog 18 [.agg x, .int .i64 n] (.d (.int .i64 (szr n (wtL x))))
  | 0, _, hm, _ => by omega
  | m + 1, x, hm, h => by
    obtain ⟨a0, a1, rfl, q0, q1⟩ := inv38 h
    have hw : wtL [.str a0, .sl a1] = a0.length + wtR a1 := by simp only [wtL, D.wt] <;> omega
    exact fun n g0 g1 => sz18 a0 a1 q0 (fun n g0 g1 => szs24 a1 q1.1 q1.2 n g0 g1) n g0 g1
theorem toc38 : ∀ (m : Nat) (x : List D), wtL x < m → wtL x ≤ 1048576 → Sh Try.prog 38 x → Gives Try.prog 20 [.agg x] (.d (.agg x))
  | 0, _, hm, _, _ => by omega
  | m + 1, x, hm, hb, h => by
    obtain ⟨a0, a1, rfl, q0, q1⟩ := inv38 h
    have hw : wtL [.str a0, .sl a1] = a0.length + wtR a1 := by simp only [wtL, D.wt] <;> omega
    exact to20 a0 a1 (tos24 a1 (by omega) q1.2)
theorem eqc38 : ∀ (m : Nat) (x : List D), wtL x < m → Sh Try.prog 38 x → Gives Try.prog 22 [.agg x, .agg x] (.d (.bool true))
  | 0, _, hm, _ => by omega
  | m + 1, x, hm, h => by
    obtain ⟨a0, a1, rfl, q0, q1⟩ := inv38 h
    have hw : wtL [.str a0, .sl a1] = a0.length + wtR a1 := by simp only [wtL, D.wt] <;> omega
    exact eq22 a0 a1 (eqs24 a1 q1.1 q1.2)

end Go.Proofs.Ytiihkdmmanaooaa.fam
