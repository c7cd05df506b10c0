/- The counts and heights of proofs, as both texts compute them, walked on plain data. -/
import Derived.Test.YtiihkdmmanaooaaAbs23
import Derived.Test.YtiihkdmmanaooaaFam1
import Derived.KernelRfl
namespace Go.Proofs.Ytiihkdmmanaooaa.psize
open Go.Abs
set_option maxRecDepth 100000
set_option linter.unusedSimpArgs false
set_option linter.unusedVariables false

theorem mixed : Try.prog.follows .mixedOrders = true := by kernel_rfl
theorem ty9_a : tAgg Try.prog 9 = some false := by kernel_rfl
theorem ty9_s : tSize Try.prog 9 = some 1 := by kernel_rfl
theorem ty9_t : tIsStr Try.prog 9 = true := by kernel_rfl
theorem ty9_i : tIsSlice Try.prog 9 = false := by kernel_rfl
theorem ty9_u : (Try.prog.underlying 9).isSome = true := by kernel_rfl
theorem ty3_a : tAgg Try.prog 3 = some false := by kernel_rfl
theorem ty3_s : tSize Try.prog 3 = some 1 := by kernel_rfl
theorem ty3_n : tInt Try.prog 3 = some Go.IntKind.i64 := by kernel_rfl
theorem ty3_u : (Try.prog.underlying 3).isSome = true := by kernel_rfl
theorem ty30_a : tAgg Try.prog 30 = some false := by kernel_rfl
theorem ty30_s : tSize Try.prog 30 = some 1 := by kernel_rfl
theorem ty30_i : tIsSlice Try.prog 30 = true := by kernel_rfl
theorem ty30_e : tElem Try.prog 30 = some 119 := by kernel_rfl
theorem ty30_l : tSlice Try.prog 30 = some (119, 4, 56) := by kernel_rfl
theorem ty30_t : tIsStr Try.prog 30 = false := by kernel_rfl
theorem ty30_u : (Try.prog.underlying 30).isSome = true := by kernel_rfl
theorem ty31_a : tAgg Try.prog 31 = some false := by kernel_rfl
theorem ty31_s : tSize Try.prog 31 = some 1 := by kernel_rfl
theorem ty31_i : tIsSlice Try.prog 31 = true := by kernel_rfl
theorem ty31_e : tElem Try.prog 31 = some 33 := by kernel_rfl
theorem ty31_l : tSlice Try.prog 31 = some (33, 4, 72) := by kernel_rfl
theorem ty31_t : tIsStr Try.prog 31 = false := by kernel_rfl
theorem ty31_u : (Try.prog.underlying 31).isSome = true := by kernel_rfl
theorem ty33_a : tAgg Try.prog 33 = some true := by kernel_rfl
theorem ty33_s : tSize Try.prog 33 = some 4 := by kernel_rfl
theorem ty33_f0 : tField Try.prog 33 0 = some (0, 9) := by kernel_rfl
theorem ty33_f1 : tField Try.prog 33 1 = some (1, 3) := by kernel_rfl
theorem ty33_f2 : tField Try.prog 33 2 = some (2, 30) := by kernel_rfl
theorem ty33_f3 : tField Try.prog 33 3 = some (3, 31) := by kernel_rfl
theorem tz33 : tZero Try.prog 33 = some [.string ⟨#[]⟩, .int .i64 0, .slice none 0 0, .slice none 0 0] := by kernel_rfl
theorem tz3 : tZero Try.prog 3 = some [.int .i64 0] := by kernel_rfl
theorem go12 : isGo Try.prog 12 = true := by kernel_rfl
theorem go14 : isGo Try.prog 14 = true := by kernel_rfl
theorem go16 : isGo Try.prog 16 = true := by kernel_rfl
theorem go17 : isGo Try.prog 17 = true := by kernel_rfl
theorem go39 : isGo Try.prog 39 = true := by kernel_rfl
theorem go42 : isGo Try.prog 42 = true := by kernel_rfl
theorem go45 : isGo Try.prog 45 = true := by kernel_rfl
theorem tyS : type_of% (And.intro ty9_a <| And.intro ty9_s <| And.intro ty9_t <| And.intro ty9_i <| And.intro ty9_u <| And.intro ty3_a <| And.intro ty3_s <| And.intro ty3_n <| And.intro ty3_u <| And.intro ty30_a <| And.intro ty30_s <| And.intro ty30_i <| And.intro ty30_e <| And.intro ty30_l <| And.intro ty30_t <| And.intro ty30_u <| And.intro ty31_a <| And.intro ty31_s <| And.intro ty31_i <| And.intro ty31_e <| And.intro ty31_l <| And.intro ty31_t <| And.intro ty31_u <| And.intro ty33_a <| And.intro ty33_s <| And.intro ty33_f0 <| And.intro ty33_f1 <| And.intro ty33_f2 <| And.intro ty33_f3 <| And.intro tz33 <| And.intro tz3 <| And.intro go12 <| And.intro go14 <| And.intro go16 <| And.intro go17 <| And.intro go39 <| And.intro go42 <| go45) := And.intro ty9_a <| And.intro ty9_s <| And.intro ty9_t <| And.intro ty9_i <| And.intro ty9_u <| And.intro ty3_a <| And.intro ty3_s <| And.intro ty3_n <| And.intro ty3_u <| And.intro ty30_a <| And.intro ty30_s <| And.intro ty30_i <| And.intro ty30_e <| And.intro ty30_l <| And.intro ty30_t <| And.intro ty30_u <| And.intro ty31_a <| And.intro ty31_s <| And.intro ty31_i <| And.intro ty31_e <| And.intro ty31_l <| And.intro ty31_t <| And.intro ty31_u <| And.intro ty33_a <| And.intro ty33_s <| And.intro ty33_f0 <| And.intro ty33_f1 <| And.intro ty33_f2 <| And.intro ty33_f3 <| And.intro tz33 <| And.intro tz3 <| And.intro go12 <| And.intro go14 <| And.intro go16 <| And.intro go17 <| And.intro go39 <| And.intro go42 <| go45

def kids : List D → List (List D)
  | [_, _, _, .sl ks] => ks
  | _ => []

def cntL (g : List D → Int → Int) : List (List D) → Int → Int → Int
  | [], _, n => n
  | k :: r, lim, n => if n > lim then n else cntL g r lim (n + g k (lim - n))
def cnt : Nat → List D → Int → Int
  | 0, _, _ => 1
  | m + 1, x, lim => cntL (cnt m) (kids x) lim 1

theorem cntL_le {g : List D → Int → Int} : ∀ (l : List (List D)) (lim n : Int), (∀ k, k ∈ l → ∀ lim, 1 ≤ g k lim ∧ g k lim ≤ 1 + wtL k) → n ≤ cntL g l lim n ∧ cntL g l lim n ≤ n + wtR l
  | [], lim, n, _ => by simp [cntL, wtR]
  | k :: r, lim, n, h => by
    unfold cntL
    have h1 := h k (by simp) (lim - n)
    have h2 := cntL_le r lim (n + g k (lim - n)) (fun k hk => h k (by simp [hk]))
    simp only [wtR]
    split <;> omega

theorem wt_kids : ∀ x : List D, wtR (kids x) ≤ wtL x := by
  intro x
  unfold kids
  split
  · simp only [wtL, D.wt]; omega
  · simp only [wtR]; omega

theorem cnt_le : ∀ (m : Nat) (x : List D) (lim : Int), 1 ≤ cnt m x lim ∧ cnt m x lim ≤ 1 + wtL x
  | 0, x, lim => by simp only [cnt]; omega
  | m + 1, x, lim => by
    have := cntL_le (g := cnt m) (kids x) lim 1 (fun k _ lim => cnt_le m k lim)
    have := wt_kids x
    simp only [cnt]; omega

theorem cnt39 (g : List D → Int → Int) (a0 : List UInt8) (a1 : Int) (a2 ks : List (List D)) (hb : wtR ks ≤ 1048576) (hg : ∀ k, k ∈ ks → ∀ lim, 1 ≤ g k lim ∧ g k lim ≤ 1 + wtL k)
    (hk : ∀ k, k ∈ ks → (∃ b0 b1 b2 b3, k = [.str b0, .int .i64 b1, .sl b2, .sl b3]) ∧ ∀ lim : Int, 0 ≤ lim → lim ≤ 200 → Gives Try.prog 39 [.agg k, .int .i64 lim] (.d (.int .i64 (g k lim))))
    (lim : Int) (h0 : 0 ≤ lim) (h1 : lim ≤ 200) : Gives Try.prog 39 [.agg [.str a0, .int .i64 a1, .sl a2, .sl ks], .int .i64 lim] (.d (.int .i64 (cntL g ks lim 1))) := by
  have hlen := sumW_le ks 0
  simp only [sumW] at hlen
  refine ACalls.enter (fn := Try.f39) Try.func39 rfl (by show 2 ≤ _; decide) ?_
  refine run_sound Try.func39 mixed 100 _ _ (by kernel_rfl) ?_
  simp only [vcS, ev, Abs.get, Abs.put, okDst, okOperand, Abs.Value.flat, cv, cv1, norm1, norm, single, C.refsLtT, C.refsLt, C.refsLt1, O.refsLt, okCells, cellsOf, dataCells, toDs, C.cell, D.cell, cvD, cvDs, exitTo, List.length, List.range, List.range.loop, List.zip, List.zipWith, List.map, List.take, List.drop, List.all, List.any, List.getD, List.set, ↓reduceIte, Nat.reduceEqDiff, Nat.reduceLT, Nat.reduceLeDiff, Nat.reduceAdd, Nat.reduceMul, Nat.reduceSub, reduceCtorEq, ne_eq, List.nil_append, List.cons_append, List.append_nil, List.getElem?_cons_zero, List.getElem?_cons_succ, Option.getD_some, Option.getD_none, Option.map_some, Option.map_none, Option.bind_some, Option.bind_none, Option.all_some, Option.all_none, List.getElem?_toArray, List.size_toArray, List.toList_toArray, List.all_toArray, List.length_nil, List.length_cons, beq_self_eq_true, beq_iff_eq, Bool.beq_eq_decide_eq, tyS, Try.f39]
  refine AW.loop_ind (fun p : Nat × Int => ⟨[(11, .d (.int .i64 p.1)), (9, .d (.sl ks)), (10, .d (.int .i64 ks.length)), (5, .d (.int .i64 p.2)), (1, .d (.int .i64 lim))], []⟩)
    (fun p => p.1 ≤ ks.length ∧ 1 ≤ p.2 ∧ p.2 ≤ 1 + p.1 + sumW ks p.1 ∧ cntL g (ks.drop p.1) lim p.2 = cntL g ks lim 1) (fun p => ks.length - p.1) (0, 1) ⟨by simp, by simp, by simp only [sumW]; simp, rfl⟩ ?_ ?_
  · refine ⟨by simp, by simp, by simp, ?_⟩
    simp [Abs.get, C.refsLtT, C.refsLt, C.refsLt1]
  · rintro ⟨i, n⟩ ⟨hi, hn1, hn2, hinv⟩ hnext
    dsimp only at hi hn1 hn2 hinv hnext ⊢
    have hs := sumW_le ks i
    by_cases h : i < ks.length
    · obtain ⟨x, hxi⟩ : ∃ x, ks[i]? = some x := ⟨_, List.getElem?_eq_getElem h⟩
      have hgx := hg x (List.mem_of_getElem? hxi) (lim - n)
      have hsum := sumW_at hxi
      have hs' := sumW_le ks (i + 1)
      have hlt : ((i : Int) < (ks.length : Int)) = True := by simp; omega
      have h00 : (0 ≤ (i : Int)) = True := by simp
      have hdrop : ks.drop i = x :: ks.drop (i + 1) := by
        obtain ⟨h2, h3⟩ := List.getElem?_eq_some_iff.1 hxi
        rw [← h3]; exact List.drop_eq_getElem_cons h2
      rw [hdrop] at hinv
      simp only [cntL] at hinv
      obtain ⟨⟨b0, b1, b2, b3, rfl⟩, e2⟩ := hk x (List.mem_of_getElem? hxi)
      refine run_sound Try.func39 mixed 100 _ _ (by kernel_rfl) ?_
      simp only [vcS, ev, Abs.get, Abs.put, okDst, okOperand, Abs.Value.flat, cv, cv1, norm1, norm, single, C.refsLtT, C.refsLt, C.refsLt1, O.refsLt, okCells, cellsOf, dataCells, toDs, C.cell, D.cell, cvD, cvDs, exitTo, List.length, List.range, List.range.loop, List.zip, List.zipWith, List.map, List.take, List.drop, List.all, List.any, List.getD, List.set, ↓reduceIte, Nat.reduceEqDiff, Nat.reduceLT, Nat.reduceLeDiff, Nat.reduceAdd, Nat.reduceMul, Nat.reduceSub, reduceCtorEq, ne_eq, List.nil_append, List.cons_append, List.append_nil, List.getElem?_cons_zero, List.getElem?_cons_succ, Option.getD_some, Option.getD_none, Option.map_some, Option.map_none, Option.bind_some, Option.bind_none, Option.all_some, Option.all_none, List.getElem?_toArray, List.size_toArray, List.toList_toArray, List.all_toArray, List.length_nil, List.length_cons, beq_self_eq_true, beq_iff_eq, Bool.beq_eq_decide_eq, tyS, Try.f39, Int.toNat_natCast, hlt, hxi, h00]
      refine br_intro (fun h => ?_) (fun h => ?_)
      · simp only [decide_eq_true_eq] at h
        rw [if_pos h] at hinv
        simp only [vcS, ev, Abs.get, Abs.put, okDst, okOperand, Abs.Value.flat, cv, cv1, norm1, norm, single, C.refsLtT, C.refsLt, C.refsLt1, O.refsLt, okCells, cellsOf, dataCells, toDs, C.cell, D.cell, cvD, cvDs, exitTo, List.length, List.range, List.range.loop, List.zip, List.zipWith, List.map, List.take, List.drop, List.all, List.any, List.getD, List.set, ↓reduceIte, Nat.reduceEqDiff, Nat.reduceLT, Nat.reduceLeDiff, Nat.reduceAdd, Nat.reduceMul, Nat.reduceSub, reduceCtorEq, ne_eq, List.nil_append, List.cons_append, List.append_nil, List.getElem?_cons_zero, List.getElem?_cons_succ, Option.getD_some, Option.getD_none, Option.map_some, Option.map_none, Option.bind_some, Option.bind_none, Option.all_some, Option.all_none, List.getElem?_toArray, List.size_toArray, List.toList_toArray, List.all_toArray, List.length_nil, List.length_cons, beq_self_eq_true, beq_iff_eq, Bool.beq_eq_decide_eq, tyS, Try.f39, hinv]
      · simp only [decide_eq_false_iff_not] at h
        rw [if_neg h] at hinv
        simp only [vcS, ev, Abs.get, Abs.put, okDst, okOperand, Abs.Value.flat, cv, cv1, norm1, norm, single, C.refsLtT, C.refsLt, C.refsLt1, O.refsLt, okCells, cellsOf, dataCells, toDs, C.cell, D.cell, cvD, cvDs, exitTo, List.length, List.range, List.range.loop, List.zip, List.zipWith, List.map, List.take, List.drop, List.all, List.any, List.getD, List.set, ↓reduceIte, Nat.reduceEqDiff, Nat.reduceLT, Nat.reduceLeDiff, Nat.reduceAdd, Nat.reduceMul, Nat.reduceSub, reduceCtorEq, ne_eq, List.nil_append, List.cons_append, List.append_nil, List.getElem?_cons_zero, List.getElem?_cons_succ, Option.getD_some, Option.getD_none, Option.map_some, Option.map_none, Option.bind_some, Option.bind_none, Option.all_some, Option.all_none, List.getElem?_toArray, List.size_toArray, List.toList_toArray, List.all_toArray, List.length_nil, List.length_cons, beq_self_eq_true, beq_iff_eq, Bool.beq_eq_decide_eq, tyS, Try.f39]
        rw [wrap_ok (by omega) (by omega)]
        refine (e2 _ (by omega) (by omega)).calls rfl ?_
        simp only [vcS, ev, Abs.get, Abs.put, okDst, okOperand, Abs.Value.flat, cv, cv1, norm1, norm, single, C.refsLtT, C.refsLt, C.refsLt1, O.refsLt, okCells, cellsOf, dataCells, toDs, C.cell, D.cell, cvD, cvDs, exitTo, List.length, List.range, List.range.loop, List.zip, List.zipWith, List.map, List.take, List.drop, List.all, List.any, List.getD, List.set, ↓reduceIte, Nat.reduceEqDiff, Nat.reduceLT, Nat.reduceLeDiff, Nat.reduceAdd, Nat.reduceMul, Nat.reduceSub, reduceCtorEq, ne_eq, List.nil_append, List.cons_append, List.append_nil, List.getElem?_cons_zero, List.getElem?_cons_succ, Option.getD_some, Option.getD_none, Option.map_some, Option.map_none, Option.bind_some, Option.bind_none, Option.all_some, Option.all_none, List.getElem?_toArray, List.size_toArray, List.toList_toArray, List.all_toArray, List.length_nil, List.length_cons, beq_self_eq_true, beq_iff_eq, Bool.beq_eq_decide_eq, tyS, Try.f39]
        rw [wrap_ok (m := n + _) (by omega) (by omega), wrap_ok (by omega) (by omega)]
        refine hnext (i + 1, _) _ ⟨by dsimp only; omega, ?_, ?_, hinv⟩ (by dsimp only; omega) ?_
        · dsimp only; omega
        · dsimp only; omega
        · refine ⟨by simp, by simp, by simp, ?_⟩
          simp [Abs.get, C.refsLtT, C.refsLt, C.refsLt1]
    · have hlt : ((i : Int) < (ks.length : Int)) = False := by simp; omega
      have hd : ks.drop i = [] := List.drop_eq_nil_of_le (by omega)
      rw [hd, cntL] at hinv
      refine run_sound Try.func39 mixed 100 _ _ (by kernel_rfl) ?_
      simp only [vcS, ev, Abs.get, Abs.put, okDst, okOperand, Abs.Value.flat, cv, cv1, norm1, norm, single, C.refsLtT, C.refsLt, C.refsLt1, O.refsLt, okCells, cellsOf, dataCells, toDs, C.cell, D.cell, cvD, cvDs, exitTo, List.length, List.range, List.range.loop, List.zip, List.zipWith, List.map, List.take, List.drop, List.all, List.any, List.getD, List.set, ↓reduceIte, Nat.reduceEqDiff, Nat.reduceLT, Nat.reduceLeDiff, Nat.reduceAdd, Nat.reduceMul, Nat.reduceSub, reduceCtorEq, ne_eq, List.nil_append, List.cons_append, List.append_nil, List.getElem?_cons_zero, List.getElem?_cons_succ, Option.getD_some, Option.getD_none, Option.map_some, Option.map_none, Option.bind_some, Option.bind_none, Option.all_some, Option.all_none, List.getElem?_toArray, List.size_toArray, List.toList_toArray, List.all_toArray, List.length_nil, List.length_cons, beq_self_eq_true, beq_iff_eq, Bool.beq_eq_decide_eq, tyS, Try.f39, Int.toNat_natCast, hlt, hinv]

def mx (a b : Int) : Int := if a < b then b else a
def meaL (g : List D → Int → Int × Int) : List (List D) → Int → Int → Int × Int
  | [], h, c => (h + 1, c)
  | k :: r, h, c => if c > 200 then (0, c) else meaL g r (mx h (g k c).1) (g k c).2
def mea : Nat → List D → Int → Int × Int
  | 0, _, c => (1, c + 1)
  | m + 1, x, c => meaL (mea m) (kids x) 0 (c + 1)

/-- A walk of 'measure' on one proof, which counts into the integer behind its second argument. -/
def Mea (x : List D) (c : Int) (r : Int × Int) : Prop :=
  ACalls Try.prog 42 [.d (.agg x), .ptr 0 0] [.box [.d (.int .i64 c)]] fun v H' => v = .d (.int .i64 r.1) ∧ H' = [.box [.d (.int .i64 r.2)]]

theorem mea42 (g : List D → Int → Int × Int) (a0 : List UInt8) (a1 : Int) (a2 ks : List (List D)) (hb : wtR ks ≤ 1048576)
    (hg : ∀ k, k ∈ ks → ∀ c, 0 ≤ c → c ≤ 200 → 0 ≤ (g k c).1 ∧ (g k c).1 ≤ 1 + wtL k ∧ 0 ≤ (g k c).2 ∧ (g k c).2 ≤ c + 1 + wtL k)
    (hk : ∀ k, k ∈ ks → (∃ b0 b1 b2 b3, k = [.str b0, .int .i64 b1, .sl b2, .sl b3]) ∧ ∀ c : Int, 0 ≤ c → c ≤ 200 → Mea k c (g k c))
    (c : Int) (h0 : 0 ≤ c) (h1 : c ≤ 200) : Mea [.str a0, .int .i64 a1, .sl a2, .sl ks] c (meaL g ks 0 (c + 1)) := by
  have hlen := sumW_le ks 0
  simp only [sumW] at hlen
  refine ACalls.enter (fn := Try.f42) Try.func42 rfl (by show 2 ≤ _; decide) ?_
  refine run_sound Try.func42 mixed 100 _ _ (by kernel_rfl) ?_
  simp only [vcS, ev, Abs.get, Abs.put, okDst, okOperand, Abs.Value.flat, cv, cv1, norm1, norm, single, C.refsLtT, C.refsLt, C.refsLt1, O.refsLt, okCells, cellsOf, dataCells, toDs, C.cell, D.cell, cvD, cvDs, exitTo, List.length, List.range, List.range.loop, List.zip, List.zipWith, List.map, List.take, List.drop, List.all, List.any, List.getD, List.set, ↓reduceIte, Nat.reduceEqDiff, Nat.reduceLT, Nat.reduceLeDiff, Nat.reduceAdd, Nat.reduceMul, Nat.reduceSub, reduceCtorEq, ne_eq, List.nil_append, List.cons_append, List.append_nil, List.getElem?_cons_zero, List.getElem?_cons_succ, Option.getD_some, Option.getD_none, Option.map_some, Option.map_none, Option.bind_some, Option.bind_none, Option.all_some, Option.all_none, List.getElem?_toArray, List.size_toArray, List.toList_toArray, List.all_toArray, List.length_nil, List.length_cons, beq_self_eq_true, beq_iff_eq, Bool.beq_eq_decide_eq, tyS, Try.f42]
  rw [wrap_ok (by omega) (by omega)]
  refine AW.loop_ind (fun p : Nat × Int × Int => ⟨[(17, .d (.int .i64 p.1)), (15, .d (.sl ks)), (16, .d (.int .i64 ks.length)), (5, .d (.int .i64 p.2.1)), (1, .ptr 0 0)], [.box [.d (.int .i64 p.2.2)]]⟩)
    (fun p => p.1 ≤ ks.length ∧ 0 ≤ p.2.1 ∧ p.2.1 ≤ 1048577 ∧ 0 ≤ p.2.2 ∧ p.2.2 ≤ 1048777 ∧ meaL g (ks.drop p.1) p.2.1 p.2.2 = meaL g ks 0 (c + 1)) (fun p => ks.length - p.1) (0, 0, c + 1) ⟨by simp, by simp, by simp, by dsimp only; omega, by dsimp only; omega, rfl⟩ ?_ ?_
  · refine ⟨by simp, by simp, by simp [O.refsLt, C.refsLt, C.refsLt1], ?_⟩
    simp [Abs.get, C.refsLtT, C.refsLt, C.refsLt1]
  · rintro ⟨i, h', n⟩ ⟨hi, hh1, hh2, hn1, hn2, hinv⟩ hnext
    dsimp only at hi hh1 hh2 hn1 hn2 hinv hnext ⊢
    have hs := sumW_le ks i
    by_cases h : i < ks.length
    · obtain ⟨x, hxi⟩ : ∃ x, ks[i]? = some x := ⟨_, List.getElem?_eq_getElem h⟩
      have hsum := sumW_at hxi
      have hs' := sumW_le ks (i + 1)
      have hlt : ((i : Int) < (ks.length : Int)) = True := by simp; omega
      have h00 : (0 ≤ (i : Int)) = True := by simp
      have hdrop : ks.drop i = x :: ks.drop (i + 1) := by
        obtain ⟨h2, h3⟩ := List.getElem?_eq_some_iff.1 hxi
        rw [← h3]; exact List.drop_eq_getElem_cons h2
      rw [hdrop] at hinv
      simp only [meaL] at hinv
      have hgx := hg x (List.mem_of_getElem? hxi) n hn1
      obtain ⟨⟨b0, b1, b2, b3, rfl⟩, e2⟩ := hk x (List.mem_of_getElem? hxi)
      refine run_sound Try.func42 mixed 100 _ _ (by kernel_rfl) ?_
      simp only [vcS, ev, Abs.get, Abs.put, okDst, okOperand, Abs.Value.flat, cv, cv1, norm1, norm, single, C.refsLtT, C.refsLt, C.refsLt1, O.refsLt, okCells, cellsOf, dataCells, toDs, C.cell, D.cell, cvD, cvDs, exitTo, List.length, List.range, List.range.loop, List.zip, List.zipWith, List.map, List.take, List.drop, List.all, List.any, List.getD, List.set, ↓reduceIte, Nat.reduceEqDiff, Nat.reduceLT, Nat.reduceLeDiff, Nat.reduceAdd, Nat.reduceMul, Nat.reduceSub, reduceCtorEq, ne_eq, List.nil_append, List.cons_append, List.append_nil, List.getElem?_cons_zero, List.getElem?_cons_succ, Option.getD_some, Option.getD_none, Option.map_some, Option.map_none, Option.bind_some, Option.bind_none, Option.all_some, Option.all_none, List.getElem?_toArray, List.size_toArray, List.toList_toArray, List.all_toArray, List.length_nil, List.length_cons, beq_self_eq_true, beq_iff_eq, Bool.beq_eq_decide_eq, tyS, Try.f42, Int.toNat_natCast, hlt, hxi, h00]
      refine br_intro (fun h => ?_) (fun h => ?_)
      · simp only [decide_eq_true_eq] at h
        rw [if_pos h] at hinv
        simp only [vcS, ev, Abs.get, Abs.put, okDst, okOperand, Abs.Value.flat, cv, cv1, norm1, norm, single, C.refsLtT, C.refsLt, C.refsLt1, O.refsLt, okCells, cellsOf, dataCells, toDs, C.cell, D.cell, cvD, cvDs, exitTo, List.length, List.range, List.range.loop, List.zip, List.zipWith, List.map, List.take, List.drop, List.all, List.any, List.getD, List.set, ↓reduceIte, Nat.reduceEqDiff, Nat.reduceLT, Nat.reduceLeDiff, Nat.reduceAdd, Nat.reduceMul, Nat.reduceSub, reduceCtorEq, ne_eq, List.nil_append, List.cons_append, List.append_nil, List.getElem?_cons_zero, List.getElem?_cons_succ, Option.getD_some, Option.getD_none, Option.map_some, Option.map_none, Option.bind_some, Option.bind_none, Option.all_some, Option.all_none, List.getElem?_toArray, List.size_toArray, List.toList_toArray, List.all_toArray, List.length_nil, List.length_cons, beq_self_eq_true, beq_iff_eq, Bool.beq_eq_decide_eq, tyS, Try.f42, ← hinv]
      · simp only [decide_eq_false_iff_not] at h
        rw [if_neg h] at hinv
        have hgy := hgx (by omega)
        simp only [vcS, ev, Abs.get, Abs.put, okDst, okOperand, Abs.Value.flat, cv, cv1, norm1, norm, single, C.refsLtT, C.refsLt, C.refsLt1, O.refsLt, okCells, cellsOf, dataCells, toDs, C.cell, D.cell, cvD, cvDs, exitTo, List.length, List.range, List.range.loop, List.zip, List.zipWith, List.map, List.take, List.drop, List.all, List.any, List.getD, List.set, ↓reduceIte, Nat.reduceEqDiff, Nat.reduceLT, Nat.reduceLeDiff, Nat.reduceAdd, Nat.reduceMul, Nat.reduceSub, reduceCtorEq, ne_eq, List.nil_append, List.cons_append, List.append_nil, List.getElem?_cons_zero, List.getElem?_cons_succ, Option.getD_some, Option.getD_none, Option.map_some, Option.map_none, Option.bind_some, Option.bind_none, Option.all_some, Option.all_none, List.getElem?_toArray, List.size_toArray, List.toList_toArray, List.all_toArray, List.length_nil, List.length_cons, beq_self_eq_true, beq_iff_eq, Bool.beq_eq_decide_eq, tyS, Try.f42]
        refine ACalls.at1 (e2 n hn1 (by omega)) rfl 0 rfl rfl ?_
        rintro v o' ⟨rfl, ho⟩
        cases ho
        refine ⟨rfl, rfl, ?_⟩
        simp only [vcS, ev, Abs.get, Abs.put, okDst, okOperand, Abs.Value.flat, cv, cv1, norm1, norm, single, C.refsLtT, C.refsLt, C.refsLt1, O.refsLt, okCells, cellsOf, dataCells, toDs, C.cell, D.cell, cvD, cvDs, exitTo, List.length, List.range, List.range.loop, List.zip, List.zipWith, List.map, List.take, List.drop, List.all, List.any, List.getD, List.set, ↓reduceIte, Nat.reduceEqDiff, Nat.reduceLT, Nat.reduceLeDiff, Nat.reduceAdd, Nat.reduceMul, Nat.reduceSub, reduceCtorEq, ne_eq, List.nil_append, List.cons_append, List.append_nil, List.getElem?_cons_zero, List.getElem?_cons_succ, Option.getD_some, Option.getD_none, Option.map_some, Option.map_none, Option.bind_some, Option.bind_none, Option.all_some, Option.all_none, List.getElem?_toArray, List.size_toArray, List.toList_toArray, List.all_toArray, List.length_nil, List.length_cons, beq_self_eq_true, beq_iff_eq, Bool.beq_eq_decide_eq, tyS, Try.f42, C.at1]
        rw [wrap_ok (by omega) (by omega)]
        have hmx : 0 ≤ mx h' (g [D.str b0, D.int IntKind.i64 b1, D.sl b2, D.sl b3] n).1 ∧ mx h' (g [D.str b0, D.int IntKind.i64 b1, D.sl b2, D.sl b3] n).1 ≤ 1048577 := by
          unfold mx; split <;> omega
        refine hnext (i + 1, mx h' (g [D.str b0, D.int IntKind.i64 b1, D.sl b2, D.sl b3] n).1, (g [D.str b0, D.int IntKind.i64 b1, D.sl b2, D.sl b3] n).2) _ ⟨by dsimp only; omega, hmx.1, hmx.2, hgy.2.2.1, ?_, hinv⟩ (by dsimp only; omega) ?_
        · dsimp only; omega
        · refine ⟨by simp, by simp, by simp [O.refsLt, C.refsLt, C.refsLt1], ?_⟩
          simp [Abs.get, C.refsLtT, C.refsLt, C.refsLt1, mx]
    · have hlt : ((i : Int) < (ks.length : Int)) = False := by simp; omega
      have hd : ks.drop i = [] := List.drop_eq_nil_of_le (by omega)
      rw [hd, meaL] at hinv
      refine run_sound Try.func42 mixed 100 _ _ (by kernel_rfl) ?_
      simp only [vcS, ev, Abs.get, Abs.put, okDst, okOperand, Abs.Value.flat, cv, cv1, norm1, norm, single, C.refsLtT, C.refsLt, C.refsLt1, O.refsLt, okCells, cellsOf, dataCells, toDs, C.cell, D.cell, cvD, cvDs, exitTo, List.length, List.range, List.range.loop, List.zip, List.zipWith, List.map, List.take, List.drop, List.all, List.any, List.getD, List.set, ↓reduceIte, Nat.reduceEqDiff, Nat.reduceLT, Nat.reduceLeDiff, Nat.reduceAdd, Nat.reduceMul, Nat.reduceSub, reduceCtorEq, ne_eq, List.nil_append, List.cons_append, List.append_nil, List.getElem?_cons_zero, List.getElem?_cons_succ, Option.getD_some, Option.getD_none, Option.map_some, Option.map_none, Option.bind_some, Option.bind_none, Option.all_some, Option.all_none, List.getElem?_toArray, List.size_toArray, List.toList_toArray, List.all_toArray, List.length_nil, List.length_cons, beq_self_eq_true, beq_iff_eq, Bool.beq_eq_decide_eq, tyS, Try.f42, Int.toNat_natCast, hlt]
      rw [wrap_ok (by omega) (by omega)]
      simp only [← hinv, and_self]

/-! ### Both counts are the same -/

theorem meaL_cnt {g : List D → Int → Int} {g' : List D → Int → Int × Int} : ∀ (l : List (List D)) (h n c : Int), (∀ k, k ∈ l → ∀ c, (g' k c).2 = c + g k (200 - c)) → (meaL g' l h (c + n)).2 = c + cntL g l (200 - c) n
  | [], h, n, c, _ => by simp [meaL, cntL]
  | k :: r, h, n, c, hk => by
    unfold meaL cntL
    by_cases e : c + n > 200
    · rw [if_pos e, if_pos (by omega)]
    · rw [if_neg e, if_neg (by omega), hk k (by simp), show 200 - (c + n) = 200 - c - n by omega, show c + n + g k (200 - c - n) = c + (n + g k (200 - c - n)) by omega]
      exact meaL_cnt r _ _ c (fun k hk' => hk k (by simp [hk']))

theorem mea_cnt : ∀ (m : Nat) (x : List D) (c : Int), (mea m x c).2 = c + cnt m x (200 - c)
  | 0, x, c => rfl
  | m + 1, x, c => meaL_cnt (kids x) 0 1 c (fun k _ c => mea_cnt m k c)

def hgtL (g : List D → Int) : List (List D) → Int → Int
  | [], h => h + 1
  | k :: r, h => hgtL g r (mx h (g k))
def hgt : Nat → List D → Int
  | 0, _ => 1
  | m + 1, x => hgtL (hgt m) (kids x) 0

theorem meaL_up {g : List D → Int → Int × Int} : ∀ (l : List (List D)) (h c : Int), (∀ k, k ∈ l → ∀ c, c ≤ (g k c).2) → c ≤ (meaL g l h c).2
  | [], h, c, _ => by simp [meaL]
  | k :: r, h, c, hk => by
    unfold meaL
    split
    · exact Int.le_refl _
    · have := hk k (by simp) c
      have := meaL_up r (mx h (g k c).1) (g k c).2 (fun k hk' => hk k (by simp [hk']))
      omega

theorem mea_up (m : Nat) (x : List D) (c : Int) : c + 1 ≤ (mea m x c).2 := by
  rw [mea_cnt]
  have := cnt_le m x (200 - c)
  omega

theorem meaL_hgt {g : List D → Int} {g' : List D → Int → Int × Int} : ∀ (l : List (List D)) (h c : Int), (∀ k, k ∈ l → ∀ c, c ≤ (g' k c).2 ∧ ((g' k c).2 ≤ 200 → (g' k c).1 = g k)) → (meaL g' l h c).2 ≤ 200 → (meaL g' l h c).1 = hgtL g l h
  | [], h, c, _, _ => rfl
  | k :: r, h, c, hk, hc => by
    unfold meaL at hc ⊢
    unfold hgtL
    by_cases e : c > 200
    · rw [if_pos e] at hc; omega
    · rw [if_neg e] at hc ⊢
      have h1 := hk k (by simp) c
      have h2 := meaL_up r (mx h (g' k c).1) (g' k c).2 (fun k hk' c => (hk k (by simp [hk']) c).1)
      rw [meaL_hgt r _ _ (fun k hk' => hk k (by simp [hk'])) hc, h1.2 (by omega)]

theorem mea_hgt : ∀ (m : Nat) (x : List D) (c : Int), (mea m x c).2 ≤ 200 → (mea m x c).1 = hgt m x
  | 0, x, c, _ => rfl
  | m + 1, x, c, h => meaL_hgt (kids x) 0 (c + 1) (fun k _ c => ⟨by have := mea_up m k c; omega, mea_hgt m k c⟩) h

theorem meaL_fst {g : List D → Int → Int × Int} (hg : ∀ k c, 0 ≤ (g k c).1 ∧ (g k c).1 ≤ 1 + wtL k) : ∀ (l : List (List D)) (h c b : Int), 0 ≤ h → h ≤ b → wtR l ≤ b → 0 ≤ (meaL g l h c).1 ∧ (meaL g l h c).1 ≤ 1 + b
  | [], h, c, b, h0, h1, _ => by simp only [meaL]; omega
  | k :: r, h, c, b, h0, h1, hb => by
    unfold meaL
    simp only [wtR] at hb
    have hk := hg k c
    split
    · dsimp only; omega
    · exact meaL_fst hg r _ _ b (by unfold mx; split <;> omega) (by unfold mx; split <;> omega) (by omega)

theorem mea_fst : ∀ (m : Nat) (x : List D) (c : Int), 0 ≤ (mea m x c).1 ∧ (mea m x c).1 ≤ 1 + wtL x
  | 0, x, c => by simp only [mea]; omega
  | m + 1, x, c => by
    have h1 := meaL_fst (g := mea m) (fun k c => mea_fst m k c) (kids x) 0 (c + 1) (wtR (kids x)) (by omega) (by omega) (by omega)
    have h2 := wt_kids x
    simp only [mea]; omega

/-! ### The recursion closed -/

theorem cnt_fn : ∀ (m : Nat) (x : List D), wtL x < m → wtL x ≤ 1048576 → Sh Try.prog 27 x → ∀ lim : Int, 0 ≤ lim → lim ≤ 200 → Gives Try.prog 39 [.agg x, .int .i64 lim] (.d (.int .i64 (cnt m x lim)))
  | 0, _, h, _, _ => by omega
  | m + 1, x, hm, hb, h => by
    obtain ⟨a0, a1, a2, a3, rfl, q0, q1, q2, q3⟩ := fam.inv27 h
    have hw : wtL [D.str a0, D.int IntKind.i64 a1, D.sl a2, D.sl a3] = a0.length + wtR a2 + wtR a3 := by simp only [wtL, D.wt] <;> omega
    exact fun lim h0 h1 => cnt39 (cnt m) a0 a1 a2 a3 (by omega) (fun k _ lim => cnt_le m k lim) (fun k hk => ⟨by
      obtain ⟨b0, b1, b2, b3, rfl, _⟩ := fam.inv27 (q3.2 k hk)
      exact ⟨b0, b1, b2, b3, rfl⟩, cnt_fn m k (by have := wtL_lt a3 k hk; omega) (by have := wtL_lt a3 k hk; omega) (q3.2 k hk)⟩) lim h0 h1

theorem mea_fn : ∀ (m : Nat) (x : List D), wtL x < m → wtL x ≤ 1048576 → Sh Try.prog 27 x → ∀ c : Int, 0 ≤ c → c ≤ 200 → Mea x c (mea m x c)
  | 0, _, h, _, _ => by omega
  | m + 1, x, hm, hb, h => by
    obtain ⟨a0, a1, a2, a3, rfl, q0, q1, q2, q3⟩ := fam.inv27 h
    have hw : wtL [D.str a0, D.int IntKind.i64 a1, D.sl a2, D.sl a3] = a0.length + wtR a2 + wtR a3 := by simp only [wtL, D.wt] <;> omega
    exact fun c h0 h1 => mea42 (mea m) a0 a1 a2 a3 (by omega) (fun k _ c g0 g1 => by
      have h1 := mea_fst m k c
      have h2 := mea_up m k c
      have h3 := mea_cnt m k c
      have h4 := cnt_le m k (200 - c)
      omega) (fun k hk => ⟨by
      obtain ⟨b0, b1, b2, b3, rfl, _⟩ := fam.inv27 (q3.2 k hk)
      exact ⟨b0, b1, b2, b3, rfl⟩, mea_fn m k (by have := wtL_lt a3 k hk; omega) (by have := wtL_lt a3 k hk; omega) (q3.2 k hk)⟩) c h0 h1
end Go.Proofs.Ytiihkdmmanaooaa.psize
