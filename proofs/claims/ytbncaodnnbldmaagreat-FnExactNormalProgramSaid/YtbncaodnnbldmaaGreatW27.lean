import Derived.Test.YtbncaodnnbldmaaGreatW14
import Derived.Test.YtbncaodnnbldmaaGreatA8
import Derived.Test.YtbncaodnnbldmaaGreatP3
namespace Go.Proofs.YtbncaodnnbldmaaGreat
open Go.Abs
set_option maxRecDepth 100000
set_option maxHeartbeats 4000000
set_option linter.unusedSimpArgs false
set_option linter.unusedVariables false
def encL (c : List Gl) : List D := [.sl (c.map Gl.enc)]
theorem encL_eq (c : List Gl) : encL c = [.sl (c.map Gl.enc)] := rfl
def sgl (g : Gl) : Bool := glOk g && !decide (g.kind = 7) && !decide (g.kind = 8)
def okCl (c : List Gl) : Bool := decide (c.length ≤ 8) && c.all sgl
def cgOk (L : List (List Gl)) : Bool := decide (L.length ≤ 8) && L.all okCl
def mkC (c : List Gl) : Gl := .mk 7 [] [] c
theorem mkC_enc (c : List Gl) : (mkC c).enc = [.int .i64 7, .str [], .sl [], .sl (c.map Gl.enc)] := by rw [Gl.enc_eq]; rfl
def cgK (L : List (List Gl)) : Int := if cgOk L = true then 8 else 0
def cgV (L : List (List Gl)) : List (List Gl) := if cgOk L = true then L else []
theorem clauseGoal_T (L : List (List Gl)) (hw : ∀ c, c ∈ L → ∀ x, x ∈ c → wtL x.enc ≤ 1048576) : ACalls Tryz.prog 39 [.d (.sl (L.map encL))] [.hole] (fun c H' => c = .tup [.agg [.d (.int .i64 (cgK L)), .d (.str []), .d (.sl []), .own 0 1], .d (.bool (cgOk L))] ∧ ∃ e B, H' = [.tree 1 4 e (((cgV L).map mkC).map Gl.enc) B none]) := by
 have hmx : maxLen = 9223372036854775807 := rfl
 unfold cgK cgV
 by_cases h8 : L.length ≤ 8
 ·have hg : cgOk L = L.all okCl := by simp [cgOk, h8]
  have hl8 : ¬ (8 : Int) < (L.length : Int) := by omega
  refine ACalls.enter (fn := Tryz.f39) Tryz.func39 rfl (by show 1 ≤ _; decide) ?_
  refine run_sound Tryz.func39 mixed 10 _ _ (by kernel_rfl) ?_
  simp only [go_sem, seval, run.eq_1, hl8]
  repeat' (first
   | ((first | (refine br_n (fun hq => ?_) (fun hq => ?_)) | (refine idx_intro (fun x hx => have hq := hx; ?_))) <;> (try simp only [go_sem, seval, hl8, run.eq_1, hq]))
   | (simp (disch := omega) only [wrap_ok])
   | ((first
    | (refine (iGoalOk_fn _ sd).calls rfl ?_)
    | (refine (iGoalOk_fn _ sd).callQ rfl ?_)
    | (refine ⟨sd, ?_⟩)
    | (refine ⟨by assumption, ?_⟩)) <;> (try simp only [go_sem, seval, hl8, run.eq_1]))
   | assumption)
  refine AW.adoptTB 2 3 4 52 (by decide) rfl rfl ?_
  refine run_sound Tryz.func39 mixed 200 _ _ (by kernel_rfl) ?_
  simp only [go_sem, seval]
  repeat' (first
   | ((first | (refine br_n (fun hq => ?_) (fun hq => ?_)) | (refine idx_intro (fun x hx => have hq := hx; ?_))) <;> (try simp only [go_sem, seval, hq]))
   | (simp (disch := omega) only [wrap_ok])
   | ((first
    | (refine (iGoalOk_fn _ sd).calls rfl ?_)
    | (refine (iGoalOk_fn _ sd).callQ rfl ?_)
    | (refine ⟨sd, ?_⟩)
    | (refine ⟨by assumption, ?_⟩)) <;> (try simp only [go_sem, seval]))
   | assumption)
  refine AW.rng L [2, 4, 15, 16] 17 15 (fun p : List (List Gl) × (Nat → Prop) => []) (fun _ p => [.hole, .box [.d (.int .i64 0), .d (.str []), .nil0, .nil0], .box [.d (.int .i64 8), .d (.str []), .nil0, .own 3 p.1.length], .tree p.1.length 4 52 ((p.1.map mkC).map Gl.enc) p.2 none]) (fun r p => p.1 ++ r = L ∧ cgOk L = r.all okCl) ([], fun _ => False) rfl (by simp) ⟨rfl, hg⟩ (by refine ⟨by simp [mkS], by simp [mkS], by simp only [mkS, List.all_cons, List.all_nil, O.refsLt, C.refsLt, C.refsLt1, all_dmap]; first | done | rfl | (simp; done), ?_⟩; simp [mkS, Abs.get, C.refsLtT, C.refsLt, C.refsLt1]) (fun i c r p hxi hdr hlt hm hinv hnext => ?_) (fun p hinv => ?_)
  ·obtain ⟨hi1, hi2⟩ := hinv
   have hcm := List.mem_of_getElem? hxi
   have hcw := hw c hcm
   have hpl : p.1.length + (r.length + 1) = L.length := by rw [← hi1]; simp
   simp only [List.all_cons] at hi2
   by_cases hc8 : c.length ≤ 8
   ·have hlc : ¬ (8 : Int) < (c.length : Int) := by omega
    have hok : okCl c = c.all sgl := by simp [okCl, hc8]
    refine run_sound Tryz.func39 mixed 200 _ _ (by kernel_rfl) ?_
    simp only [go_sem, seval, hlt, idx_of hxi, encL_eq, hlc]
    repeat' (first
     | ((first | (refine br_n (fun hq => ?_) (fun hq => ?_)) | (refine idx_intro (fun x hx => have hq := hx; ?_))) <;> (try simp only [go_sem, seval, hlt, idx_of hxi, encL_eq, hlc, hq]))
     | (simp (disch := omega) only [wrap_ok])
     | ((first
      | (refine (iGoalOk_fn _ sd).calls rfl ?_)
      | (refine (iGoalOk_fn _ sd).callQ rfl ?_)
      | (refine ⟨sd, ?_⟩)
      | (refine ⟨by assumption, ?_⟩)) <;> (try simp only [go_sem, seval, hlt, idx_of hxi, encL_eq, hlc]))
     | assumption)
    refine AW.adoptTB 4 3 4 52 (by decide) rfl rfl ?_
    refine AW.rng c [2, 4, 7, 15, 16, 17, 26, 27] 28 26 (fun u : List Gl × (Nat → Prop) => []) (fun _ u => [.hole, .box [.d (.int .i64 0), .d (.str []), .nil0, .nil0], .box [.d (.int .i64 8), .d (.str []), .nil0, .own 3 p.1.length], .tree p.1.length 4 52 ((p.1.map mkC).map Gl.enc) p.2 none, .box [.d (.int .i64 7), .d (.str []), .nil0, .own 5 u.1.length], .tree u.1.length 4 52 (u.1.map Gl.enc) u.2 none]) (fun s u => u.1 ++ s = c ∧ okCl c = s.all sgl) ([], fun _ => False) rfl (by simp) ⟨rfl, hok⟩ (by refine ⟨by simp [mkS], by simp [mkS], by simp only [mkS, List.all_cons, List.all_nil, O.refsLt, C.refsLt, C.refsLt1, all_dmap]; first | done | rfl | (simp; done), ?_⟩; simp [mkS, Abs.get, C.refsLtT, C.refsLt, C.refsLt1]) (fun j g s u hgj hds hjt hmj hinu hnxu => ?_) (fun u hinu => ?_)
    ·obtain ⟨hu1, hu2⟩ := hinu
     have hgm := hcw g (List.mem_of_getElem? hgj)
     have hul : u.1.length + (s.length + 1) = c.length := by rw [← hu1]; simp
     simp only [List.all_cons] at hu2
     by_cases hgo : glOk g = true
     ·by_cases h7 : g.kind = 7
      ·have hbad : cgOk L = false := by rw [hi2, hu2]; simp [sgl, h7]
       refine run_sound Tryz.func39 mixed 15 _ _ (by kernel_rfl) ?_
       simp only [go_sem, seval, run.eq_1, hjt, idx_of hgj, hgo, h7]
       repeat' (first
        | ((first | (refine br_n (fun hq => ?_) (fun hq => ?_)) | (refine idx_intro (fun x hx => have hq := hx; ?_))) <;> (try simp only [go_sem, seval, hjt, idx_of hgj, hgo, h7, run.eq_1, hq]))
        | (simp (disch := omega) only [wrap_ok])
        | ((first
         | (refine (iGoalOk_fn _ sd).calls rfl ?_)
         | (refine (iGoalOk_fn _ sd).callQ rfl ?_)
         | (refine ⟨sd, ?_⟩)
         | (refine ⟨by assumption, ?_⟩)) <;> (try simp only [go_sem, seval, hjt, idx_of hgj, hgo, h7, run.eq_1]))
        | assumption)
       rw [hbad]
       refine AW.adoptTB 1 3 4 52 (by decide) rfl rfl ?_
       refine AW.placeB 1 3 7 0 rfl rfl rfl rfl (by decide) ?_
       refine run_sound Tryz.func39 mixed 200 _ _ (by kernel_rfl) ?_
       simp only [go_sem, seval]
       repeat' (first
        | (exact ⟨_, _, rfl⟩)
        | ((first | (refine br_n (fun hq => ?_) (fun hq => ?_)) | (refine idx_intro (fun x hx => have hq := hx; ?_))) <;> (try simp only [go_sem, seval, hq]))
        | (simp (disch := omega) only [wrap_ok])
        | ((first
         | (refine (iGoalOk_fn _ sd).calls rfl ?_)
         | (refine (iGoalOk_fn _ sd).callQ rfl ?_)
         | (refine ⟨sd, ?_⟩)
         | (refine ⟨by assumption, ?_⟩)) <;> (try simp only [go_sem, seval]))
        | assumption)
      ·by_cases h8g : g.kind = 8
       ·have hbad : cgOk L = false := by rw [hi2, hu2]; simp [sgl, h8g]
        refine run_sound Tryz.func39 mixed 15 _ _ (by kernel_rfl) ?_
        simp only [go_sem, seval, run.eq_1, hjt, idx_of hgj, hgo, h7, h8g]
        repeat' (first
         | ((first | (refine br_n (fun hq => ?_) (fun hq => ?_)) | (refine idx_intro (fun x hx => have hq := hx; ?_))) <;> (try simp only [go_sem, seval, hjt, idx_of hgj, hgo, h7, h8g, run.eq_1, hq]))
         | (simp (disch := omega) only [wrap_ok])
         | ((first
          | (refine (iGoalOk_fn _ sd).calls rfl ?_)
          | (refine (iGoalOk_fn _ sd).callQ rfl ?_)
          | (refine ⟨sd, ?_⟩)
          | (refine ⟨by assumption, ?_⟩)) <;> (try simp only [go_sem, seval, hjt, idx_of hgj, hgo, h7, h8g, run.eq_1]))
         | assumption)
        rw [hbad]
        refine AW.adoptTB 1 3 4 52 (by decide) rfl rfl ?_
        refine AW.placeB 1 3 7 0 rfl rfl rfl rfl (by decide) ?_
        refine run_sound Tryz.func39 mixed 200 _ _ (by kernel_rfl) ?_
        simp only [go_sem, seval]
        repeat' (first
         | (exact ⟨_, _, rfl⟩)
         | ((first | (refine br_n (fun hq => ?_) (fun hq => ?_)) | (refine idx_intro (fun x hx => have hq := hx; ?_))) <;> (try simp only [go_sem, seval, hq]))
         | (simp (disch := omega) only [wrap_ok])
         | ((first
          | (refine (iGoalOk_fn _ sd).calls rfl ?_)
          | (refine (iGoalOk_fn _ sd).callQ rfl ?_)
          | (refine ⟨sd, ?_⟩)
          | (refine ⟨by assumption, ?_⟩)) <;> (try simp only [go_sem, seval]))
         | assumption)
       ·have hu3 : okCl c = s.all sgl := by rw [hu2]; simp [sgl, hgo, h7, h8g]
        have hx := copyGoal_T g hgm (glOk_shape hgo)
        unfold cpG at hx
        refine AW.hole ?_
        refine AW.hole ?_
        refine run_sound Tryz.func39 mixed 14 _ _ (by kernel_rfl) ?_
        simp only [go_sem, seval, run.eq_1, hjt, idx_of hgj, hgo, h7, h8g]
        repeat' (first
         | ((first | (refine br_n (fun hq => ?_) (fun hq => ?_)) | (refine idx_intro (fun x hx => have hq := hx; ?_))) <;> (try simp only [go_sem, seval, hjt, idx_of hgj, hgo, h7, h8g, run.eq_1, hq]))
         | (simp (disch := omega) only [wrap_ok])
         | ((first
          | (refine (iGoalOk_fn _ sd).calls rfl ?_)
          | (refine (iGoalOk_fn _ sd).callQ rfl ?_)
          | (refine ⟨sd, ?_⟩)
          | (refine ⟨by assumption, ?_⟩)) <;> (try simp only [go_sem, seval, hjt, idx_of hgj, hgo, h7, h8g, run.eq_1]))
         | assumption)
        refine AW.drawA mixed #[true, true, true, true, true, true, false, false] [(4, .box [.d (.int .i64 7), .d (.str []), .nil0, .own 5 u.1.length]), (8, .box (g.enc.map .d))] [] [0, 1, 2, 3, 4, 5] [6, 7] none (by kernel_rfl) trivial (by simp [holdsB]) ?_
        simp only [go_sem, seval]
        repeat' (first
         | ((first | (refine br_n (fun hq => ?_) (fun hq => ?_)) | (refine idx_intro (fun x hx => have hq := hx; ?_))) <;> (try simp only [go_sem, seval, hq]))
         | (simp (disch := omega) only [wrap_ok])
         | ((first
          | (refine ACalls.fresh (ds := [.agg g.enc]) (m := 2) hx [6, 7] rfl rfl (by simp) (by simp) ?_ <;> (rintro c H' ⟨rfl, e2, B2, e3, B3, rfl⟩ _; refine ⟨rfl, rfl, ?_⟩))
          | (refine all_intro (fun Bz => ?_))
          | (refine (iGoalOk_fn _ sd).calls rfl ?_)
          | (refine (iGoalOk_fn _ sd).callQ rfl ?_)
          | (refine ⟨sd, ?_⟩)
          | (refine ⟨by assumption, ?_⟩)) <;> (try simp only [go_sem, seval]))
         | assumption)
        refine run_sound Tryz.func39 mixed 200 _ _ (by kernel_rfl) ?_
        simp only [go_sem, seval]
        try simp (disch := omega) only [wrap_ok]
        refine hnxu (u.1 ++ [g], Bz) _ ⟨by simp [← hu1], hu3⟩ (by refine ⟨by simp [mkS, Gl.enc_eq g], by simp [mkS, Gl.enc_eq g], by simp only [mkS, List.all_cons, List.all_nil, O.refsLt, C.refsLt, C.refsLt1, all_dmap]; first | done | rfl | (simp; done), ?_⟩; simp [mkS, Abs.get, C.refsLtT, C.refsLt, C.refsLt1])
     ·simp only [Bool.not_eq_true] at hgo
      have hbad : cgOk L = false := by rw [hi2, hu2]; simp [sgl, hgo]
      refine run_sound Tryz.func39 mixed 15 _ _ (by kernel_rfl) ?_
      simp only [go_sem, seval, run.eq_1, hjt, idx_of hgj, hgo]
      repeat' (first
       | ((first | (refine br_n (fun hq => ?_) (fun hq => ?_)) | (refine idx_intro (fun x hx => have hq := hx; ?_))) <;> (try simp only [go_sem, seval, hjt, idx_of hgj, hgo, run.eq_1, hq]))
       | (simp (disch := omega) only [wrap_ok])
       | ((first
        | (refine (iGoalOk_fn _ sd).calls rfl ?_)
        | (refine (iGoalOk_fn _ sd).callQ rfl ?_)
        | (refine ⟨sd, ?_⟩)
        | (refine ⟨by assumption, ?_⟩)) <;> (try simp only [go_sem, seval, hjt, idx_of hgj, hgo, run.eq_1]))
       | assumption)
      rw [hbad]
      refine AW.adoptTB 1 3 4 52 (by decide) rfl rfl ?_
      refine AW.placeB 1 3 7 0 rfl rfl rfl rfl (by decide) ?_
      refine run_sound Tryz.func39 mixed 200 _ _ (by kernel_rfl) ?_
      simp only [go_sem, seval]
      repeat' (first
       | (exact ⟨_, _, rfl⟩)
       | ((first | (refine br_n (fun hq => ?_) (fun hq => ?_)) | (refine idx_intro (fun x hx => have hq := hx; ?_))) <;> (try simp only [go_sem, seval, hq]))
       | (simp (disch := omega) only [wrap_ok])
       | ((first
        | (refine (iGoalOk_fn _ sd).calls rfl ?_)
        | (refine (iGoalOk_fn _ sd).callQ rfl ?_)
        | (refine ⟨sd, ?_⟩)
        | (refine ⟨by assumption, ?_⟩)) <;> (try simp only [go_sem, seval]))
       | assumption)
    ·obtain ⟨hu1, hu2⟩ := hinu
     simp only [List.append_nil] at hu1
     simp only [List.all_nil] at hu2
     subst hu1
     refine run_sound Tryz.func39 mixed 5 _ _ (by kernel_rfl) ?_
     simp only [go_sem, seval, run.eq_1]
     repeat' (first
      | ((first | (refine br_n (fun hq => ?_) (fun hq => ?_)) | (refine idx_intro (fun x hx => have hq := hx; ?_))) <;> (try simp only [go_sem, seval, run.eq_1, hq]))
      | (simp (disch := omega) only [wrap_ok])
      | ((first
       | (refine (iGoalOk_fn _ sd).calls rfl ?_)
       | (refine (iGoalOk_fn _ sd).callQ rfl ?_)
       | (refine ⟨sd, ?_⟩)
       | (refine ⟨by assumption, ?_⟩)) <;> (try simp only [go_sem, seval, run.eq_1]))
      | assumption)
     refine AW.regT ?_
     simp only [go_sem, seval]
     repeat' (first
      | ((first | (refine br_n (fun hq => ?_) (fun hq => ?_)) | (refine idx_intro (fun x hx => have hq := hx; ?_))) <;> (try simp only [go_sem, seval, hq]))
      | (simp (disch := omega) only [wrap_ok])
      | ((first
       | (refine all_intro (fun Bz => ?_))
       | (refine (iGoalOk_fn _ sd).calls rfl ?_)
       | (refine (iGoalOk_fn _ sd).callQ rfl ?_)
       | (refine ⟨sd, ?_⟩)
       | (refine ⟨by assumption, ?_⟩)) <;> (try simp only [go_sem, seval]))
      | assumption)
     refine run_sound Tryz.func39 mixed 200 _ _ (by kernel_rfl) ?_
     simp only [go_sem, seval]
     try simp (disch := omega) only [wrap_ok]
     refine hnext (p.1 ++ [u.1], Bz) _ ⟨by simp [← hi1], by rw [hi2, hu2]; simp⟩ (by refine ⟨by simp [mkS, mkC_enc], by simp [mkS, mkC_enc], by simp only [mkS, List.all_cons, List.all_nil, O.refsLt, C.refsLt, C.refsLt1, all_dmap]; first | done | rfl | (simp; done), ?_⟩; simp [mkS, Abs.get, C.refsLtT, C.refsLt, C.refsLt1, mkC_enc])
   ·have hlc : (8 : Int) < (c.length : Int) := by omega
    have hbad : cgOk L = false := by rw [hi2]; simp [okCl, hc8]
    refine run_sound Tryz.func39 mixed 15 _ _ (by kernel_rfl) ?_
    simp only [go_sem, seval, run.eq_1, hlt, idx_of hxi, encL_eq, hlc]
    repeat' (first
     | ((first | (refine br_n (fun hq => ?_) (fun hq => ?_)) | (refine idx_intro (fun x hx => have hq := hx; ?_))) <;> (try simp only [go_sem, seval, hlt, idx_of hxi, encL_eq, hlc, run.eq_1, hq]))
     | (simp (disch := omega) only [wrap_ok])
     | ((first
      | (refine (iGoalOk_fn _ sd).calls rfl ?_)
      | (refine (iGoalOk_fn _ sd).callQ rfl ?_)
      | (refine ⟨sd, ?_⟩)
      | (refine ⟨by assumption, ?_⟩)) <;> (try simp only [go_sem, seval, hlt, idx_of hxi, encL_eq, hlc, run.eq_1]))
     | assumption)
    rw [hbad]
    refine AW.adoptTB 1 3 4 52 (by decide) rfl rfl ?_
    refine AW.placeB 1 3 4 0 rfl rfl rfl rfl (by decide) ?_
    refine run_sound Tryz.func39 mixed 200 _ _ (by kernel_rfl) ?_
    simp only [go_sem, seval]
    repeat' (first
     | (exact ⟨_, _, rfl⟩)
     | ((first | (refine br_n (fun hq => ?_) (fun hq => ?_)) | (refine idx_intro (fun x hx => have hq := hx; ?_))) <;> (try simp only [go_sem, seval, hq]))
     | (simp (disch := omega) only [wrap_ok])
     | ((first
      | (refine (iGoalOk_fn _ sd).calls rfl ?_)
      | (refine (iGoalOk_fn _ sd).callQ rfl ?_)
      | (refine ⟨sd, ?_⟩)
      | (refine ⟨by assumption, ?_⟩)) <;> (try simp only [go_sem, seval]))
     | assumption)
  ·obtain ⟨hi1, hi2⟩ := hinv
   simp only [List.append_nil] at hi1
   simp only [List.all_nil] at hi2
   rw [hi2]
   simp only [if_true]
   refine run_sound Tryz.func39 mixed 7 _ _ (by kernel_rfl) ?_
   simp only [go_sem, seval, run.eq_1]
   repeat' (first
    | ((first | (refine br_n (fun hq => ?_) (fun hq => ?_)) | (refine idx_intro (fun x hx => have hq := hx; ?_))) <;> (try simp only [go_sem, seval, run.eq_1, hq]))
    | (simp (disch := omega) only [wrap_ok])
    | ((first
     | (refine (iGoalOk_fn _ sd).calls rfl ?_)
     | (refine (iGoalOk_fn _ sd).callQ rfl ?_)
     | (refine ⟨sd, ?_⟩)
     | (refine ⟨by assumption, ?_⟩)) <;> (try simp only [go_sem, seval, run.eq_1]))
    | assumption)
   refine AW.placeB 1 3 3 0 rfl rfl rfl rfl (by decide) ?_
   rw [hi1]
   refine run_sound Tryz.func39 mixed 200 _ _ (by kernel_rfl) ?_
   simp only [go_sem, seval]
   repeat' (first
    | (exact ⟨_, _, rfl⟩)
    | ((first | (refine br_n (fun hq => ?_) (fun hq => ?_)) | (refine idx_intro (fun x hx => have hq := hx; ?_))) <;> (try simp only [go_sem, seval, hq]))
    | (simp (disch := omega) only [wrap_ok])
    | ((first
     | (refine (iGoalOk_fn _ sd).calls rfl ?_)
     | (refine (iGoalOk_fn _ sd).callQ rfl ?_)
     | (refine ⟨sd, ?_⟩)
     | (refine ⟨by assumption, ?_⟩)) <;> (try simp only [go_sem, seval]))
    | assumption)
 ·have hbad : cgOk L = false := by simp [cgOk, h8]
  have hl8 : (8 : Int) < (L.length : Int) := by omega
  refine ACalls.enter (fn := Tryz.f39) Tryz.func39 rfl (by show 1 ≤ _; decide) ?_
  refine run_sound Tryz.func39 mixed 8 _ _ (by kernel_rfl) ?_
  simp only [go_sem, seval, run.eq_1, hl8]
  repeat' (first
   | ((first | (refine br_n (fun hq => ?_) (fun hq => ?_)) | (refine idx_intro (fun x hx => have hq := hx; ?_))) <;> (try simp only [go_sem, seval, hl8, run.eq_1, hq]))
   | (simp (disch := omega) only [wrap_ok])
   | ((first
    | (refine (iGoalOk_fn _ sd).calls rfl ?_)
    | (refine (iGoalOk_fn _ sd).callQ rfl ?_)
    | (refine ⟨sd, ?_⟩)
    | (refine ⟨by assumption, ?_⟩)) <;> (try simp only [go_sem, seval, hl8, run.eq_1]))
   | assumption)
  rw [hbad]
  refine AW.adoptTB 1 3 4 52 (by decide) rfl rfl ?_
  refine AW.placeB 1 3 2 0 rfl rfl rfl rfl (by decide) ?_
  refine run_sound Tryz.func39 mixed 200 _ _ (by kernel_rfl) ?_
  simp only [go_sem, seval]
  repeat' (first
   | (exact ⟨_, _, rfl⟩)
   | ((first | (refine br_n (fun hq => ?_) (fun hq => ?_)) | (refine idx_intro (fun x hx => have hq := hx; ?_))) <;> (try simp only [go_sem, seval, hq]))
   | (simp (disch := omega) only [wrap_ok])
   | ((first
    | (refine (iGoalOk_fn _ sd).calls rfl ?_)
    | (refine (iGoalOk_fn _ sd).callQ rfl ?_)
    | (refine ⟨sd, ?_⟩)
    | (refine ⟨by assumption, ?_⟩)) <;> (try simp only [go_sem, seval]))
   | assumption)
end Go.Proofs.YtbncaodnnbldmaaGreat
