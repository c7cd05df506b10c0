import Derived.Test.YtgmfoklmkpdjdaaW14
import Derived.Test.YtgmfoklmkpdjdaaW17
import Derived.Test.YtgmfoklmkpdjdaaP3
namespace Go.Proofs.Ytgmfoklmkpdjdaa
open Go.Abs
set_option maxRecDepth 100000
set_option maxHeartbeats 4000000
set_option linter.unusedSimpArgs false
set_option linter.unusedVariables false
theorem sub_wt {t : Gl} (h : wtL t.enc ≤ 1048576) : ∀ x, x ∈ t.subs → wtL x.enc ≤ 1048576 :=
 Gl.subs_ind (Q := fun x => wtL x.enc ≤ 1048576) (fun t ht x hx => by have := Gl.wt_goals hx; omega) t h
theorem copyClauses_T (L : List (List Gl)) (hL : L.length ≤ 1000000) (hr : ∀ c, c ∈ L → c.length ≤ 2000000) (hg : ∀ c, c ∈ L → ∀ x, x ∈ c → wtL x.enc ≤ 1048576 ∧ x.shape = true) : ACalls Try.prog 18 [.d (.sl (L.map encC))] [.hole] (fun c H' => c = .own 0 1 ∧ ∃ e B, H' = [.tree 1 1 e (L.map encC) B none]) := by
 have hmx : maxLen = 9223372036854775807 := rfl
 refine ACalls.enter (fn := Try.f18) Try.func18 rfl (by show 1 ≤ _; decide) ?_
 refine run_sound Try.func18 mixed 5 _ _ (by kernel_rfl) ?_
 simp only [go_sem, seval, run.eq_1]
 refine AW.adoptT 3 1 28 (by decide) rfl ?_
 refine run_sound Try.func18 mixed 200 _ _ (by kernel_rfl) ?_
 simp only [go_sem, seval]
 repeat' (first
  | ((first | (refine br_n (fun hq => ?_) (fun hq => ?_)) | (refine idx_intro (fun x hx => have hq := hx; ?_))) <;> (try simp only [go_sem, seval, hq]))
  | (simp (disch := omega) only [wrap_ok])
  | ((first
   | (refine ⟨sd, ?_⟩)
   | (refine ⟨by assumption, ?_⟩)) <;> (try simp only [go_sem, seval]))
  | assumption)
 refine AW.rng L [10, 11] 12 10 (fun p : List (List Gl) × (Nat → Prop) => [(3, .own 1 p.1.length)]) (fun _ p => [.hole, .tree p.1.length 1 28 (p.1.map encC) p.2 none]) (fun r p => p.1 ++ r = L) ([], fun _ => False) rfl (by simp) rfl (by refine ⟨by simp [mkS], by simp [mkS], by simp only [mkS, List.all_cons, List.all_nil, O.refsLt, C.refsLt, C.refsLt1, all_dmap]; first | done | rfl | (simp; done), ?_⟩; simp [mkS, Abs.get, C.refsLtT, C.refsLt, C.refsLt1]) (fun i c r p hxi hdr hlt hm hinv hnext => ?_) (fun p hinv => ?_)
 ·have hcm := List.mem_of_getElem? hxi
  have hcl := hr c hcm
  have hcg := hg c hcm
  have hpl : p.1.length + (r.length + 1) = L.length := by rw [← hinv]; simp
  refine run_sound Try.func18 mixed 200 _ _ (by kernel_rfl) ?_
  simp only [go_sem, seval, hlt, idx_of hxi, encC_eq]
  repeat' (first
   | ((first | (refine br_n (fun hq => ?_) (fun hq => ?_)) | (refine idx_intro (fun x hx => have hq := hx; ?_))) <;> (try simp only [go_sem, seval, hlt, idx_of hxi, encC_eq, hq]))
   | (simp (disch := omega) only [wrap_ok])
   | ((first
    | (refine ⟨sd, ?_⟩)
    | (refine ⟨by assumption, ?_⟩)) <;> (try simp only [go_sem, seval, hlt, idx_of hxi, encC_eq]))
   | assumption)
  refine AW.adoptT 6 4 30 (by decide) rfl ?_
  refine AW.rng c [3, 10, 11, 12, 17, 18] 19 17 (fun u : List Gl × (Nat → Prop) => [(6, .own 2 u.1.length)]) (fun _ u => [.hole, .tree p.1.length 1 28 (p.1.map encC) p.2 none, .tree u.1.length 4 30 (u.1.map Gl.enc) u.2 none]) (fun r u => u.1 ++ r = c) ([], fun _ => False) rfl (by simp) rfl (by refine ⟨by simp [mkS], by simp [mkS], by simp only [mkS, List.all_cons, List.all_nil, O.refsLt, C.refsLt, C.refsLt1, all_dmap]; first | done | rfl | (simp; done), ?_⟩; simp [mkS, Abs.get, C.refsLtT, C.refsLt, C.refsLt1]) (fun j x s u hxj hds hjt hmj hinu hnxu => ?_) (fun u hinu => ?_)
  ·have hxm := hcg x (List.mem_of_getElem? hxj)
   have hul : u.1.length + (s.length + 1) = c.length := by rw [← hinu]; simp
   have hx := copyGoal_T x hxm.1 hxm.2
   unfold cpG at hx
   refine AW.hole ?_
   refine AW.hole ?_
   refine run_sound Try.func18 mixed 9 _ _ (by kernel_rfl) ?_
   simp only [go_sem, seval, run.eq_1, hjt, idx_of hxj]
   repeat' (first
    | ((first | (refine br_n (fun hq => ?_) (fun hq => ?_)) | (refine idx_intro (fun x hx => have hq := hx; ?_))) <;> (try simp only [go_sem, seval, hjt, idx_of hxj, run.eq_1, hq]))
    | (simp (disch := omega) only [wrap_ok])
    | ((first
     | (refine ⟨sd, ?_⟩)
     | (refine ⟨by assumption, ?_⟩)) <;> (try simp only [go_sem, seval, hjt, idx_of hxj, run.eq_1]))
    | assumption)
   refine AW.regT ?_
   simp only [go_sem, seval]
   repeat' (first
    | ((first | (refine br_n (fun hq => ?_) (fun hq => ?_)) | (refine idx_intro (fun x hx => have hq := hx; ?_))) <;> (try simp only [go_sem, seval, hjt, idx_of hxj, hq]))
    | (simp (disch := omega) only [wrap_ok])
    | ((first
     | (refine ACalls.fresh (ds := [.agg x.enc]) (m := 2) hx [3, 4] rfl rfl (by simp) (by simp) ?_ <;> (rintro c H' ⟨rfl, e1, B1, e2, B2, rfl⟩ _; refine ⟨rfl, rfl, ?_⟩))
     | (refine all_intro (fun Bz => ?_))
     | (refine ⟨sd, ?_⟩)
     | (refine ⟨by assumption, ?_⟩)) <;> (try simp only [go_sem, seval, hjt, idx_of hxj]))
    | assumption)
   refine run_sound Try.func18 mixed 200 _ _ (by kernel_rfl) ?_
   simp only [go_sem, seval]
   try simp (disch := omega) only [wrap_ok]
   refine hnxu (u.1 ++ [x], Bz) _ (by simp [← hinu]) (by refine ⟨by simp [mkS, Gl.enc_eq x], by simp [mkS, Gl.enc_eq x], by simp only [mkS, List.all_cons, List.all_nil, O.refsLt, C.refsLt, C.refsLt1, all_dmap]; first | done | rfl | (simp; done), ?_⟩; simp [mkS, Abs.get, C.refsLtT, C.refsLt, C.refsLt1])
  ·simp only [List.append_nil] at hinu
   subst hinu
   refine run_sound Try.func18 mixed 5 _ _ (by kernel_rfl) ?_
   simp only [go_sem, seval, run.eq_1]
   repeat' (first
    | ((first | (refine br_n (fun hq => ?_) (fun hq => ?_)) | (refine idx_intro (fun x hx => have hq := hx; ?_))) <;> (try simp only [go_sem, seval, run.eq_1, hq]))
    | (simp (disch := omega) only [wrap_ok])
    | ((first
     | (refine ⟨sd, ?_⟩)
     | (refine ⟨by assumption, ?_⟩)) <;> (try simp only [go_sem, seval, run.eq_1]))
    | assumption)
   refine AW.regT ?_
   simp only [go_sem, seval]
   repeat' (first
    | ((first | (refine br_n (fun hq => ?_) (fun hq => ?_)) | (refine idx_intro (fun x hx => have hq := hx; ?_))) <;> (try simp only [go_sem, seval, hq]))
    | (simp (disch := omega) only [wrap_ok])
    | ((first
     | (refine all_intro (fun Bz => ?_))
     | (refine ⟨sd, ?_⟩)
     | (refine ⟨by assumption, ?_⟩)) <;> (try simp only [go_sem, seval]))
    | assumption)
   refine run_sound Try.func18 mixed 200 _ _ (by kernel_rfl) ?_
   simp only [go_sem, seval]
   try simp (disch := omega) only [wrap_ok]
   refine hnext (p.1 ++ [u.1], Bz) _ (by simp [← hinv]) (by refine ⟨by simp [mkS, encC_eq], by simp [mkS, encC_eq], by simp only [mkS, List.all_cons, List.all_nil, O.refsLt, C.refsLt, C.refsLt1, all_dmap]; first | done | rfl | (simp; done), ?_⟩; simp [mkS, Abs.get, C.refsLtT, C.refsLt, C.refsLt1, encC_eq])
 ·simp only [List.append_nil] at hinv
  subst hinv
  refine run_sound Try.func18 mixed 7 _ _ (by kernel_rfl) ?_
  simp only [go_sem, seval, run.eq_1]
  repeat' (first
   | ((first | (refine br_n (fun hq => ?_) (fun hq => ?_)) | (refine idx_intro (fun x hx => have hq := hx; ?_))) <;> (try simp only [go_sem, seval, run.eq_1, hq]))
   | (simp (disch := omega) only [wrap_ok])
   | ((first
    | (refine ⟨sd, ?_⟩)
    | (refine ⟨by assumption, ?_⟩)) <;> (try simp only [go_sem, seval, run.eq_1]))
   | assumption)
  refine AW.place 2 1 0 rfl rfl rfl (by decide) ?_
  refine run_sound Try.func18 mixed 200 _ _ (by kernel_rfl) ?_
  simp only [go_sem, seval]
  repeat' (first
   | ((first | (refine br_n (fun hq => ?_) (fun hq => ?_)) | (refine idx_intro (fun x hx => have hq := hx; ?_))) <;> (try simp only [go_sem, seval, hq]))
   | (simp (disch := omega) only [wrap_ok])
   | ((first
    | (refine ⟨sd, ?_⟩)
    | (refine ⟨by assumption, ?_⟩)) <;> (try simp only [go_sem, seval]))
   | assumption)
  all_goals exact ⟨_, _, rfl⟩
def clsV (t : Gl) : List (List Gl) := if glOk t = true ∧ t.clsS.length ≤ 64 then t.clsS else []
def clsB (t : Gl) : Bool := decide (glOk t = true ∧ t.clsS.length ≤ 64)
theorem iClausesOf_T (t : Gl) (hw : wtL t.enc ≤ 1048576) : ACalls Try.prog 5 [.d (.agg t.enc)] [.hole] (fun c H' => c = .tup [.own 0 1, .d (.bool (clsB t))] ∧ ∃ e B, H' = [.tree 1 1 e ((clsV t).map encC) B none]) := by
 have hcw := Gl.cnt_le_wt t
 unfold clsV clsB
 by_cases hc : glOk t = true ∧ t.clsS.length ≤ 64
 ·obtain ⟨hok, hl⟩ := hc
  have h1 := clausesOf_fn t hw
  rw [Gl.cls_same, if_pos hl] at h1
  have hrow := Gl.clsS_row t
  have hsw := sub_wt hw
  have hss := Gl.shape_sub (glOk_shape hok)
  have e1 := copyClauses_T t.clsS (by omega) (fun c hc => by have := (hrow c hc).1; omega) (fun c hc x hx => ⟨hsw x ((hrow c hc).2 x hx), hss x ((hrow c hc).2 x hx)⟩)
  simp only [if_pos (show glOk t = true ∧ t.clsS.length ≤ 64 from ⟨hok, hl⟩), decide_eq_true (show glOk t = true ∧ t.clsS.length ≤ 64 from ⟨hok, hl⟩)]
  refine ACalls.enter (fn := Try.f5) Try.func5 rfl (by show 1 ≤ _; decide) ?_
  refine run_sound Try.func5 mixed 200 _ _ (by kernel_rfl) ?_
  simp only [go_sem, seval, hok]
  repeat' (first
   | (exact ⟨_, _, rfl⟩)
   | ((first | (refine br_n (fun hq => ?_) (fun hq => ?_)) | (refine idx_intro (fun x hx => have hq := hx; ?_))) <;> (try simp only [go_sem, seval, hok, clsR, Option.getD_some, Option.isSome_some, hq]))
   | (simp (disch := omega) only [wrap_ok])
   | ((first
    | (refine h1.calls rfl ?_)
    | (refine ACalls.fresh (ds := [.sl (t.clsS.map encC)]) (m := 1) e1 [0] rfl rfl (by simp) (by simp) ?_ <;> (rintro c H' ⟨rfl, e, B1, rfl⟩ _; refine ⟨rfl, rfl, ?_⟩))
    | (refine (iGoalOk_fn _ sd).calls rfl ?_)
    | (refine ⟨sd, ?_⟩)
    | (refine ⟨by assumption, ?_⟩)) <;> (try simp only [go_sem, seval, hok, clsR, Option.getD_some, Option.isSome_some]))
   | assumption)
 ·simp only [if_neg hc, decide_eq_false hc, List.map_nil]
  by_cases hok : glOk t = true
  ·have h1 := clausesOf_fn t hw
   rw [Gl.cls_same, if_neg (fun h => hc ⟨hok, h⟩)] at h1
   refine ACalls.enter (fn := Try.f5) Try.func5 rfl (by show 1 ≤ _; decide) ?_
   refine run_sound Try.func5 mixed 15 _ _ (by kernel_rfl) ?_
   simp only [go_sem, seval, run.eq_1, hok]
   repeat' (first
    | ((first | (refine br_n (fun hq => ?_) (fun hq => ?_)) | (refine idx_intro (fun x hx => have hq := hx; ?_))) <;> (try simp only [go_sem, seval, hok, clsR, Option.getD_none, Option.isSome_none, run.eq_1, hq]))
    | (simp (disch := omega) only [wrap_ok])
    | ((first
     | (refine h1.calls rfl ?_)
     | (refine (iGoalOk_fn _ sd).calls rfl ?_)
     | (refine ⟨sd, ?_⟩)
     | (refine ⟨by assumption, ?_⟩)) <;> (try simp only [go_sem, seval, hok, clsR, Option.getD_none, Option.isSome_none, run.eq_1]))
    | assumption)
   refine AW.adoptT 2 1 28 (by decide) rfl ?_
   refine AW.place 2 2 0 rfl rfl rfl (by decide) ?_
   refine run_sound Try.func5 mixed 200 _ _ (by kernel_rfl) ?_
   simp only [go_sem, seval]
   repeat' (first
    | ((first | (refine br_n (fun hq => ?_) (fun hq => ?_)) | (refine idx_intro (fun x hx => have hq := hx; ?_))) <;> (try simp only [go_sem, seval, hq]))
    | (simp (disch := omega) only [wrap_ok])
    | ((first
     | (refine (iGoalOk_fn _ sd).calls rfl ?_)
     | (refine ⟨sd, ?_⟩)
     | (refine ⟨by assumption, ?_⟩)) <;> (try simp only [go_sem, seval]))
    | assumption)
   all_goals exact ⟨_, _, rfl⟩
  ·simp only [Bool.not_eq_true] at hok
   refine ACalls.enter (fn := Try.f5) Try.func5 rfl (by show 1 ≤ _; decide) ?_
   refine run_sound Try.func5 mixed 8 _ _ (by kernel_rfl) ?_
   simp only [go_sem, seval, run.eq_1, hok]
   repeat' (first
    | ((first | (refine br_n (fun hq => ?_) (fun hq => ?_)) | (refine idx_intro (fun x hx => have hq := hx; ?_))) <;> (try simp only [go_sem, seval, hok, run.eq_1, hq]))
    | (simp (disch := omega) only [wrap_ok])
    | ((first
     | (refine (iGoalOk_fn _ sd).calls rfl ?_)
     | (refine ⟨sd, ?_⟩)
     | (refine ⟨by assumption, ?_⟩)) <;> (try simp only [go_sem, seval, hok, run.eq_1]))
    | assumption)
   refine AW.adoptT 2 1 28 (by decide) rfl ?_
   refine AW.place 2 2 0 rfl rfl rfl (by decide) ?_
   refine run_sound Try.func5 mixed 200 _ _ (by kernel_rfl) ?_
   simp only [go_sem, seval]
   repeat' (first
    | ((first | (refine br_n (fun hq => ?_) (fun hq => ?_)) | (refine idx_intro (fun x hx => have hq := hx; ?_))) <;> (try simp only [go_sem, seval, hq]))
    | (simp (disch := omega) only [wrap_ok])
    | ((first
     | (refine (iGoalOk_fn _ sd).calls rfl ?_)
     | (refine ⟨sd, ?_⟩)
     | (refine ⟨by assumption, ?_⟩)) <;> (try simp only [go_sem, seval]))
    | assumption)
   all_goals exact ⟨_, _, rfl⟩
end Go.Proofs.Ytgmfoklmkpdjdaa
