import Derived.Test.YtbncaodnnbldmaaGreatW20
import Derived.Test.YtbncaodnnbldmaaGreatW27
import Derived.Test.YtbncaodnnbldmaaGreatA8
namespace Go.Proofs.YtbncaodnnbldmaaGreat
open Go.Abs
set_option maxRecDepth 100000
set_option maxHeartbeats 4000000
set_option linter.unusedSimpArgs false
set_option linter.unusedVariables false
theorem l16Single_fn (g : Gl) (hw : wtL g.enc ≤ 1048576) : Gives Tryz.prog 82 [.agg g.enc] (.d (.bool (sgl g))) := by
 unfold sgl
 by_cases hgo : glOk g = true
 ·by_cases h7 : g.kind = 7
  ·refine ACalls.enter (fn := Tryz.f82) Tryz.func82 rfl (by show 1 ≤ _; decide) ?_
   refine run_sound Tryz.func82 mixed 200 _ _ (by kernel_rfl) ?_
   simp only [go_sem, seval, hgo, h7]
   repeat' (first
    | ((first | (refine br_n (fun hq => ?_) (fun hq => ?_)) | (refine idx_intro (fun x hx => have hq := hx; ?_))) <;> (try simp only [go_sem, seval, hgo, h7, hq]))
    | (simp (disch := omega) only [wrap_ok])
    | ((first
     | (refine (sGoalOk_fn _ sd).calls rfl ?_)
     | (refine ⟨sd, ?_⟩)
     | (refine ⟨by assumption, ?_⟩)) <;> (try simp only [go_sem, seval, hgo, h7]))
    | assumption)
   all_goals simp [hgo, h7]
  ·by_cases h8 : g.kind = 8
   ·refine ACalls.enter (fn := Tryz.f82) Tryz.func82 rfl (by show 1 ≤ _; decide) ?_
    refine run_sound Tryz.func82 mixed 200 _ _ (by kernel_rfl) ?_
    simp only [go_sem, seval, hgo, h7, h8]
    repeat' (first
     | ((first | (refine br_n (fun hq => ?_) (fun hq => ?_)) | (refine idx_intro (fun x hx => have hq := hx; ?_))) <;> (try simp only [go_sem, seval, hgo, h7, h8, hq]))
     | (simp (disch := omega) only [wrap_ok])
     | ((first
      | (refine (sGoalOk_fn _ sd).calls rfl ?_)
      | (refine ⟨sd, ?_⟩)
      | (refine ⟨by assumption, ?_⟩)) <;> (try simp only [go_sem, seval, hgo, h7, h8]))
     | assumption)
    all_goals simp [hgo, h7, h8]
   ·refine ACalls.enter (fn := Tryz.f82) Tryz.func82 rfl (by show 1 ≤ _; decide) ?_
    refine run_sound Tryz.func82 mixed 200 _ _ (by kernel_rfl) ?_
    simp only [go_sem, seval, hgo, h7, h8]
    repeat' (first
     | ((first | (refine br_n (fun hq => ?_) (fun hq => ?_)) | (refine idx_intro (fun x hx => have hq := hx; ?_))) <;> (try simp only [go_sem, seval, hgo, h7, h8, hq]))
     | (simp (disch := omega) only [wrap_ok])
     | ((first
      | (refine (sGoalOk_fn _ sd).calls rfl ?_)
      | (refine ⟨sd, ?_⟩)
      | (refine ⟨by assumption, ?_⟩)) <;> (try simp only [go_sem, seval, hgo, h7, h8]))
     | assumption)
    all_goals first | (simp [hgo, h7, h8]; done) | (exfalso; first | omega | (simp_all; done))
 ·simp only [Bool.not_eq_true] at hgo
  refine ACalls.enter (fn := Tryz.f82) Tryz.func82 rfl (by show 1 ≤ _; decide) ?_
  refine run_sound Tryz.func82 mixed 200 _ _ (by kernel_rfl) ?_
  simp only [go_sem, seval, hgo]
  repeat' (first
   | ((first | (refine br_n (fun hq => ?_) (fun hq => ?_)) | (refine idx_intro (fun x hx => have hq := hx; ?_))) <;> (try simp only [go_sem, seval, hgo, hq]))
   | (simp (disch := omega) only [wrap_ok])
   | ((first
    | (refine (sGoalOk_fn _ sd).calls rfl ?_)
    | (refine ⟨sd, ?_⟩)
    | (refine ⟨by assumption, ?_⟩)) <;> (try simp only [go_sem, seval, hgo]))
   | assumption)
  all_goals simp [hgo]
theorem l13Make_fn (k : Int) (c : List Gl) : Gives Tryz.prog 83 [.int .i64 k, .sl [], .sl (c.map Gl.enc)] (.d (.agg [.int .i64 k, .str [], .sl [], .sl (c.map Gl.enc)])) := by
 refine ACalls.enter (fn := Tryz.f83) Tryz.func83 rfl (by show 3 ≤ _; decide) ?_
 refine run_sound Tryz.func83 mixed 200 _ _ (by kernel_rfl) ?_
 simp only [go_sem, seval]
 repeat' (first
  | ((first | (refine br_n (fun hq => ?_) (fun hq => ?_)) | (refine idx_intro (fun x hx => have hq := hx; ?_))) <;> (try simp only [go_sem, seval, hq]))
  | (simp (disch := omega) only [wrap_ok])
  | ((first
   | (refine ⟨sd, ?_⟩)
   | (refine ⟨by assumption, ?_⟩)) <;> (try simp only [go_sem, seval]))
  | assumption)
theorem sClauseGoal_fn (L : List (List Gl)) (hl : L.length ≤ 1048576) (hr : ∀ c, c ∈ L → c.length ≤ 1048576) (hw : ∀ c, c ∈ L → ∀ x, x ∈ c → wtL x.enc ≤ 1048576) : Gives Tryz.prog 34 [.sl (L.map encL)] (.tup [.d (.agg [.int .i64 (cgK L), .str [], .sl [], .sl (((cgV L).map mkC).map Gl.enc)]), .d (.bool (cgOk L))]) := by
 have hmx : maxLen = 9223372036854775807 := rfl
 unfold cgK cgV
 refine ACalls.enter (fn := Tryz.f34) Tryz.func34 rfl (by show 1 ≤ _; decide) ?_
 refine run_sound Tryz.func34 mixed 5 _ _ (by kernel_rfl) ?_
 simp only [go_sem, seval, run.eq_1]
 repeat' (first
  | ((first | (refine br_n (fun hq => ?_) (fun hq => ?_)) | (refine idx_intro (fun x hx => have hq := hx; ?_))) <;> (try simp only [go_sem, seval, run.eq_1, hq]))
  | (simp (disch := omega) only [wrap_ok])
  | ((first
   | (refine ⟨sd, ?_⟩)
   | (refine ⟨by assumption, ?_⟩)) <;> (try simp only [go_sem, seval, run.eq_1]))
  | assumption)
 refine AW.adoptGB 1 3 4 52 (by decide) rfl rfl ?_
 refine run_sound Tryz.func34 mixed 200 _ _ (by kernel_rfl) ?_
 simp only [go_sem, seval]
 repeat' (first
  | ((first | (refine br_n (fun hq => ?_) (fun hq => ?_)) | (refine idx_intro (fun x hx => have hq := hx; ?_))) <;> (try simp only [go_sem, seval, hq]))
  | (simp (disch := omega) only [wrap_ok])
  | ((first
   | (refine ⟨sd, ?_⟩)
   | (refine ⟨by assumption, ?_⟩)) <;> (try simp only [go_sem, seval]))
  | assumption)
 refine AW.rng L [0, 2, 4, 10, 11] 12 10 (fun p : Nat × List (List Gl) => []) (fun _ p => [.box [.d (.int .i64 0), .d (.str []), .nil0, .nil0], .box [.d (.int .i64 8), .d (.str []), .nil0, .own 2 p.1], .grow p.1 4 52 ((p.2.map mkC).map Gl.enc)]) (fun r p => p.2 ++ r = L ∧ L.all okCl = r.all okCl ∧ (p.2 ≠ [] → L.length ≤ 8)) (0, []) rfl (by simp) ⟨rfl, rfl, by simp⟩ (by refine ⟨by simp [mkS], by simp [mkS], by simp only [mkS, List.all_cons, List.all_nil, O.refsLt, C.refsLt, C.refsLt1, all_dmap]; first | done | rfl | (simp; done), ?_⟩; simp [mkS, Abs.get, C.refsLtT, C.refsLt, C.refsLt1]) (fun i c r p hxi hdr hlt hm hinv hnext => ?_) (fun p hinv => ?_)
 ·obtain ⟨hi1, hi2, hi3⟩ := hinv
  have hcm := List.mem_of_getElem? hxi
  have hcw := hw c hcm
  have hcr := hr c hcm
  have hpl : p.2.length + (r.length + 1) = L.length := by rw [← hi1]; simp
  simp only [List.all_cons] at hi2
  refine run_sound Tryz.func34 mixed 200 _ _ (by kernel_rfl) ?_
  simp only [go_sem, seval, hlt, idx_of hxi, encL_eq]
  repeat' (first
   | ((first | (refine br_n (fun hq => ?_) (fun hq => ?_)) | (refine idx_intro (fun x hx => have hq := hx; ?_))) <;> (try simp only [go_sem, seval, hlt, idx_of hxi, encL_eq, hq]))
   | (simp (disch := omega) only [wrap_ok])
   | ((first
    | (refine ⟨sd, ?_⟩)
    | (refine ⟨by assumption, ?_⟩)) <;> (try simp only [go_sem, seval, hlt, idx_of hxi, encL_eq]))
   | assumption)
  refine AW.rng c [0, 2, 4, 6, 10, 11, 12, 16, 17] 18 16 (fun _ : Unit => []) (fun _ _ => [.box [.d (.int .i64 0), .d (.str []), .nil0, .nil0], .box [.d (.int .i64 8), .d (.str []), .nil0, .own 2 p.1], .grow p.1 4 52 ((p.2.map mkC).map Gl.enc)]) (fun s _ => c.all sgl = s.all sgl) () rfl (by simp) rfl (by refine ⟨by simp [mkS], by simp [mkS], by simp only [mkS, List.all_cons, List.all_nil, O.refsLt, C.refsLt, C.refsLt1, all_dmap]; first | done | rfl | (simp; done), ?_⟩; simp [mkS, Abs.get, C.refsLtT, C.refsLt, C.refsLt1]) (fun j g s u hgj hds hjt hmj hinu hnxu => ?_) (fun u hinu => ?_)
  ·have hgm := hcw g (List.mem_of_getElem? hgj)
   have hs1 := l16Single_fn g hgm
   simp only [List.all_cons] at hinu
   by_cases hs : sgl g = true
   ·rw [hs] at hs1
    refine run_sound Tryz.func34 mixed 200 _ _ (by kernel_rfl) ?_
    simp only [go_sem, seval, hjt, idx_of hgj]
    repeat' (first
     | ((first | (refine br_n (fun hq => ?_) (fun hq => ?_)) | (refine idx_intro (fun x hx => have hq := hx; ?_))) <;> (try simp only [go_sem, seval, hjt, idx_of hgj, hq]))
     | (simp (disch := omega) only [wrap_ok])
     | ((first
      | (refine hs1.calls rfl ?_)
      | (refine ⟨sd, ?_⟩)
      | (refine ⟨by assumption, ?_⟩)) <;> (try simp only [go_sem, seval, hjt, idx_of hgj]))
     | assumption)
    refine hnxu () _ (by rw [hinu, hs]; rfl) (by refine ⟨by simp [mkS], by simp [mkS], by simp only [mkS, List.all_cons, List.all_nil, O.refsLt, C.refsLt, C.refsLt1, all_dmap]; first | done | rfl | (simp; done), ?_⟩; simp [mkS, Abs.get, C.refsLtT, C.refsLt, C.refsLt1])
   ·simp only [Bool.not_eq_true] at hs
    rw [hs] at hs1
    have hbad : cgOk L = false := by simp [cgOk, hi2, okCl, hinu, hs]
    rw [hbad]
    refine run_sound Tryz.func34 mixed 200 _ _ (by kernel_rfl) ?_
    simp only [go_sem, seval, hjt, idx_of hgj]
    repeat' (first
     | ((first | (refine br_n (fun hq => ?_) (fun hq => ?_)) | (refine idx_intro (fun x hx => have hq := hx; ?_))) <;> (try simp only [go_sem, seval, hjt, idx_of hgj, hq]))
     | (simp (disch := omega) only [wrap_ok])
     | ((first
      | (refine hs1.calls rfl ?_)
      | (refine ⟨sd, ?_⟩)
      | (refine ⟨by assumption, ?_⟩)) <;> (try simp only [go_sem, seval, hjt, idx_of hgj]))
     | assumption)
    all_goals rfl
  ·by_cases hc8 : c.length ≤ 8 ∧ L.length ≤ 8
   ·have hlc : ¬ (8 : Int) < (c.length : Int) := by omega
    have hl8 : ¬ (8 : Int) < (L.length : Int) := by omega
    have hcc := l16Copy_fn c (by omega) hcw
    refine run_sound Tryz.func34 mixed 10 _ _ (by kernel_rfl) ?_
    simp only [go_sem, seval, run.eq_1, hlc, hl8]
    repeat' (first
     | ((first | (refine br_n (fun hq => ?_) (fun hq => ?_)) | (refine idx_intro (fun x hx => have hq := hx; ?_))) <;> (try simp only [go_sem, seval, hlc, hl8, run.eq_1, hq]))
     | (simp (disch := omega) only [wrap_ok])
     | ((first
      | (refine ⟨sd, ?_⟩)
      | (refine ⟨by assumption, ?_⟩)) <;> (try simp only [go_sem, seval, hlc, hl8, run.eq_1]))
     | assumption)
    refine AW.drawA mixed #[true, true, true, true, true, true, true, false, false] [(1, .box [.d (.int .i64 8), .d (.str []), .nil0, .own 2 p.1])] [] [0, 1, 2, 3, 4, 5, 6] [7, 8] none (by kernel_rfl) trivial (by simp [holdsB]) ?_
    simp only [go_sem, seval]
    repeat' (first
     | ((first | (refine br_n (fun hq => ?_) (fun hq => ?_)) | (refine idx_intro (fun x hx => have hq := hx; ?_))) <;> (try simp only [go_sem, seval, hq]))
     | (simp (disch := omega) only [wrap_ok])
     | ((first
      | (refine hcc.calls rfl ?_)
      | (refine ⟨sd, ?_⟩)
      | (refine ⟨by assumption, ?_⟩)) <;> (try simp only [go_sem, seval]))
     | assumption)
    refine ACalls.nilArg (pre := [.d (.int .i64 7)]) (post := [.d (.sl (c.map Gl.enc))]) ?_
    refine (l13Make_fn 7 c).calls rfl ?_
    simp only [go_sem, seval]
    refine ⟨by omega, by omega, ?_⟩
    refine run_sound Tryz.func34 mixed 200 _ _ (by kernel_rfl) ?_
    simp only [go_sem, seval]
    repeat' (first
     | ((first | (refine br_n (fun hq => ?_) (fun hq => ?_)) | (refine idx_intro (fun x hx => have hq := hx; ?_))) <;> (try simp only [go_sem, seval, hq]))
     | (simp (disch := omega) only [wrap_ok])
     | ((first
      | (refine ⟨sd, ?_⟩)
      | (refine ⟨by assumption, ?_⟩)) <;> (try simp only [go_sem, seval]))
     | assumption)
    have hokc : okCl c = true := by
     simp only [List.all_nil] at hinu
     simp [okCl, hc8.1, hinu]
    refine hnext (p.1 + 1, p.2 ++ [c]) _ ⟨by simp [← hi1], by rw [hi2, hokc]; rfl, fun _ => hc8.2⟩ (by refine ⟨by simp [mkS, mkC_enc], by simp [mkS, mkC_enc], by simp only [mkS, List.all_cons, List.all_nil, O.refsLt, C.refsLt, C.refsLt1, all_dmap]; first | done | rfl | (simp; done), ?_⟩; simp [mkS, Abs.get, C.refsLtT, C.refsLt, C.refsLt1, mkC_enc])
   ·have hbad : cgOk L = false := by
     rcases Nat.lt_or_ge 8 L.length with h | h
     ·have h2 : ¬ L.length ≤ 8 := by omega
      simp [cgOk, h2]
     ·have h2 : ¬ c.length ≤ 8 := fun h2 => hc8 ⟨h2, h⟩
      simp [cgOk, hi2, okCl, h2]
    rw [hbad]
    refine run_sound Tryz.func34 mixed 200 _ _ (by kernel_rfl) ?_
    simp only [go_sem, seval]
    repeat' (first
     | ((first | (refine br_n (fun hq => ?_) (fun hq => ?_)) | (refine idx_intro (fun x hx => have hq := hx; ?_))) <;> (try simp only [go_sem, seval, hq]))
     | (simp (disch := omega) only [wrap_ok])
     | ((first
      | (refine ⟨sd, ?_⟩)
      | (refine ⟨by assumption, ?_⟩)) <;> (try simp only [go_sem, seval]))
     | assumption)
    all_goals first | rfl | (exfalso; omega)
 ·obtain ⟨hi1, hi2, hi3⟩ := hinv
  simp only [List.append_nil] at hi1
  simp only [List.all_nil] at hi2
  have hok : cgOk L = true := by
   simp only [cgOk, hi2, Bool.and_true, decide_eq_true_eq]
   rcases Nat.eq_zero_or_pos L.length with h | h
   ·omega
   ·exact hi3 (by rw [hi1]; intro h2; rw [h2] at h; simp at h)
  rw [hok]
  simp only [if_true]
  rw [hi1]
  refine run_sound Tryz.func34 mixed 200 _ _ (by kernel_rfl) ?_
  simp only [go_sem, seval]
  repeat' (first
   | ((first | (refine br_n (fun hq => ?_) (fun hq => ?_)) | (refine idx_intro (fun x hx => have hq := hx; ?_))) <;> (try simp only [go_sem, seval, hq]))
   | (simp (disch := omega) only [wrap_ok])
   | ((first
    | (refine ⟨sd, ?_⟩)
    | (refine ⟨by assumption, ?_⟩)) <;> (try simp only [go_sem, seval]))
   | assumption)
end Go.Proofs.YtbncaodnnbldmaaGreat
