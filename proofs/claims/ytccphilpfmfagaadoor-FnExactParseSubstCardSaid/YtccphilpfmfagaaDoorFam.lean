import Derived.Test.YtccphilpfmfagaaDoorFx
namespace Go.Proofs.YtccphilpfmfagaaDoor
open Go.Abs
set_option maxRecDepth 100000
set_option maxHeartbeats 4000000
set_option linter.unusedSimpArgs false
set_option linter.unusedVariables false
theorem eq33 (xs : List (List D)) (hm : xs.length ≤ maxLen) (hx : ∀ x, x ∈ xs → x.length = 4 ∧ Gives Tryd.prog 14 [.agg x, .agg x] (.d (.bool true))) : Gives Tryd.prog 33 [.sl xs, .sl xs] (.d (.bool true)) := by
 have hm' : (xs.length : Int) ≤ 9223372036854775807 := by simp only [maxLen] at hm; omega
 refine ACalls.enter (fn := Tryd.f33) Tryd.func33 rfl (by show 2 ≤ _; decide) ?_
 refine run_sound Tryd.func33 mixed 100 _ _ (by kernel_rfl) ?_
 simp only [go_sem, seval, bne_self_eq_false]
 refine AW.loop_ind (fun i : Nat => ⟨[(5, .d (.int .i64 i)), (0, .d (.sl xs)), (1, .d (.sl xs)), (4, .d (.bool false))], []⟩) (fun i => i ≤ xs.length) (fun i => xs.length - i) 0 (by omega) ?_ ?_
 ·refine Weak.of (by simp) rfl ?_
  simp [Abs.get, C.refsLtT, C.refsLt, C.refsLt1]
 ·intro i hi hnext
  by_cases h : i < xs.length
  ·obtain ⟨x, hxi⟩ : ∃ x, xs[i]? = some x := ⟨_, List.getElem?_eq_getElem h⟩
   obtain ⟨e1, e2⟩ := hx x (List.mem_of_getElem? hxi)
   have hlt : ((i : Int) < (xs.length : Int)) = True := by simp; omega
   have h00 : (0 ≤ (i : Int)) = True := by simp
   refine run_sound Tryd.func33 mixed 100 _ _ (by kernel_rfl) ?_
   simp only [go_sem, seval, Int.toNat_natCast, hlt, hxi, idx_of hxi, e1, h00, bne_self_eq_false]
   refine e2.callQ rfl ?_
   simp only [go_sem, seval]
   rw [wrap_ok (by omega) (by omega)]
   refine hnext (i + 1) _ (by omega) (by omega) ?_
   refine Weak.of (by simp) rfl ?_
   simp [Abs.get, C.refsLtT, C.refsLt, C.refsLt1]
  ·have hlt : ((i : Int) < (xs.length : Int)) = False := by simp; omega
   refine run_sound Tryd.func33 mixed 100 _ _ (by kernel_rfl) ?_
   simp only [go_sem, seval, hlt]
theorem eq14 (a0 : Int) (a1 : Int) (a2 : List UInt8) (a3 : List (List D)) (h3 : Gives Tryd.prog 33 [.sl a3, .sl a3] (.d (.bool true))) : Gives Tryd.prog 14 [.agg [.int .i64 a0, .int .i64 a1, .str a2, .sl a3], .agg [.int .i64 a0, .int .i64 a1, .str a2, .sl a3]] (.d (.bool true)) := by
 refine ACalls.enter (fn := Tryd.f14) Tryd.func14 rfl (by show 2 ≤ _; decide) ?_
 refine run_sound Tryd.func14 mixed 100 _ _ (by kernel_rfl) ?_
 simp only [go_sem, seval, bne_self_eq_false]
 refine h3.calls rfl ?_
 simp only [go_sem, seval, bne_self_eq_false]
theorem eq19 (xs : List (List D)) (hm : xs.length ≤ maxLen) (hx : ∀ x, x ∈ xs → x.length = 5 ∧ Gives Tryd.prog 40 [.agg x, .agg x] (.d (.bool true))) : Gives Tryd.prog 19 [.sl xs, .sl xs] (.d (.bool true)) := by
 have hm' : (xs.length : Int) ≤ 9223372036854775807 := by simp only [maxLen] at hm; omega
 refine ACalls.enter (fn := Tryd.f19) Tryd.func19 rfl (by show 2 ≤ _; decide) ?_
 refine run_sound Tryd.func19 mixed 100 _ _ (by kernel_rfl) ?_
 simp only [go_sem, seval, bne_self_eq_false]
 refine AW.loop_ind (fun i : Nat => ⟨[(5, .d (.int .i64 i)), (0, .d (.sl xs)), (1, .d (.sl xs)), (4, .d (.bool false))], []⟩) (fun i => i ≤ xs.length) (fun i => xs.length - i) 0 (by omega) ?_ ?_
 ·refine Weak.of (by simp) rfl ?_
  simp [Abs.get, C.refsLtT, C.refsLt, C.refsLt1]
 ·intro i hi hnext
  by_cases h : i < xs.length
  ·obtain ⟨x, hxi⟩ : ∃ x, xs[i]? = some x := ⟨_, List.getElem?_eq_getElem h⟩
   obtain ⟨e1, e2⟩ := hx x (List.mem_of_getElem? hxi)
   have hlt : ((i : Int) < (xs.length : Int)) = True := by simp; omega
   have h00 : (0 ≤ (i : Int)) = True := by simp
   refine run_sound Tryd.func19 mixed 100 _ _ (by kernel_rfl) ?_
   simp only [go_sem, seval, Int.toNat_natCast, hlt, hxi, idx_of hxi, e1, h00, bne_self_eq_false]
   refine e2.callQ rfl ?_
   simp only [go_sem, seval]
   rw [wrap_ok (by omega) (by omega)]
   refine hnext (i + 1) _ (by omega) (by omega) ?_
   refine Weak.of (by simp) rfl ?_
   simp [Abs.get, C.refsLtT, C.refsLt, C.refsLt1]
  ·have hlt : ((i : Int) < (xs.length : Int)) = False := by simp; omega
   refine run_sound Tryd.func19 mixed 100 _ _ (by kernel_rfl) ?_
   simp only [go_sem, seval, hlt]
theorem eq40 (a0 : Int) (a1 : Int) (a2 : Int) (a3 : List UInt8) (a4 : List (List D)) (h1 : Gives Tryd.prog 14 [.agg [.int .i64 a1, .int .i64 a2, .str a3, .sl a4], .agg [.int .i64 a1, .int .i64 a2, .str a3, .sl a4]] (.d (.bool true))) : Gives Tryd.prog 40 [.agg [.int .i64 a0, .int .i64 a1, .int .i64 a2, .str a3, .sl a4], .agg [.int .i64 a0, .int .i64 a1, .int .i64 a2, .str a3, .sl a4]] (.d (.bool true)) := by
 refine ACalls.enter (fn := Tryd.f40) Tryd.func40 rfl (by show 2 ≤ _; decide) ?_
 refine run_sound Tryd.func40 mixed 100 _ _ (by kernel_rfl) ?_
 simp only [go_sem, seval, bne_self_eq_false]
 refine h1.calls rfl ?_
 simp only [go_sem, seval, bne_self_eq_false]
end Go.Proofs.YtccphilpfmfagaaDoor
