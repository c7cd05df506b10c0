import Derived.Test.YtccphilpfmfagaaDoorW94
namespace Go.Proofs.YtccphilpfmfagaaDoor
open Go.Abs
set_option maxRecDepth 100000
set_option maxHeartbeats 4000000
set_option linter.unusedSimpArgs false
set_option linter.unusedVariables false
def getB (s : List Bd) (v : Int) : C := match s.find? (fun b => b.var == v) with
 | some b => .tup [.d (.agg b.to.enc), .d (.bool true)]
 | none => .tup [.d (.agg [.int .i64 0, .int .i64 0, .str [], .sl []]), .d (.bool false)]
theorem l04Get_fn (s : List Bd) (v : Int) : Gives Tryd.prog 58 [.sl (s.map Bd.enc), .int .i64 v] (getB s v) := by
 have hmap : (s.map Bd.enc).length = s.length := List.length_map _
 unfold getB
 obtain ⟨R, hR⟩ : ∃ R, s.find? (fun b => b.var == v) = R := ⟨_, rfl⟩
 rw [hR]
 refine ACalls.enter (fn := Tryd.f58) Tryd.func58 rfl (by show 2 ≤ _; decide) ?_
 refine run_sound Tryd.func58 mixed 200 _ _ (by kernel_rfl) ?_
 simp only [go_sem, seval, hmap]
 repeat' (first
  | ((first | (refine br_n (fun hq => ?_) (fun hq => ?_)) | (refine idx_intro (fun x hx => have hq := hx; ?_))) <;> (try simp only [go_sem, seval, hmap, hq]))
  | (simp (disch := omega) only [wrap_ok])
  | ((first
   | (refine ⟨sd, ?_⟩)
   | (refine ⟨by assumption, ?_⟩)) <;> (try simp only [go_sem, seval, hmap]))
  | assumption)
 refine AW.rng s [1, 4, 8, 9] 10 8 (fun _ : Unit => []) (fun H _ => H) (fun r _ => r.find? (fun b => b.var == v) = R) () rfl (by simp) hR (by refine ⟨by simp [mkS], by simp [mkS], by simp [mkS, O.refsLt, C.refsLt, C.refsLt1], ?_⟩; simp [mkS, Abs.get, C.refsLtT, C.refsLt, C.refsLt1]) (fun i x r p hxi hdr hlt hm hinv hnext => ?_) (fun p hinv => ?_)
 ·rw [List.find?_cons] at hinv
  by_cases e : x.var = v
  ·have e2 : (x.var == v) = true := by simpa using e
   rw [e2] at hinv
   dsimp only at hinv
   rw [← hinv]
   refine run_sound Tryd.func58 mixed 200 _ _ (by kernel_rfl) ?_
   simp only [go_sem, seval, hlt, idx_of hxi, e]
   repeat' (first
    | ((first | (refine br_n (fun hq => ?_) (fun hq => ?_)) | (refine idx_intro (fun x hx => have hq := hx; ?_))) <;> (try simp only [go_sem, seval, hlt, idx_of hxi, e, hq]))
    | (simp (disch := omega) only [wrap_ok])
    | ((first
     | (refine ⟨sd, ?_⟩)
     | (refine ⟨by assumption, ?_⟩)) <;> (try simp only [go_sem, seval, hlt, idx_of hxi, e]))
    | assumption)
  ·have e2 : (x.var == v) = false := by simpa using e
   rw [e2] at hinv
   dsimp only at hinv
   refine run_sound Tryd.func58 mixed 200 _ _ (by kernel_rfl) ?_
   simp only [go_sem, seval, hlt, idx_of hxi, e]
   repeat' (first
    | ((first | (refine br_n (fun hq => ?_) (fun hq => ?_)) | (refine idx_intro (fun x hx => have hq := hx; ?_))) <;> (try simp only [go_sem, seval, hlt, idx_of hxi, e, hq]))
    | (simp (disch := omega) only [wrap_ok])
    | (refine hnext () _ hinv (by refine ⟨by simp [mkS], by simp [mkS], by simp [mkS, O.refsLt, C.refsLt, C.refsLt1], ?_⟩; simp [mkS, Abs.get, C.refsLtT, C.refsLt, C.refsLt1]))
    | ((first
     | (refine ⟨sd, ?_⟩)
     | (refine ⟨by assumption, ?_⟩)) <;> (try simp only [go_sem, seval, hlt, idx_of hxi, e]))
    | assumption)
   all_goals (exfalso; exact e (by assumption))
 ·simp only [List.find?_nil] at hinv
  rw [← hinv]
  refine run_sound Tryd.func58 mixed 200 _ _ (by kernel_rfl) ?_
  simp only [go_sem, seval]
  repeat' (first
   | ((first | (refine br_n (fun hq => ?_) (fun hq => ?_)) | (refine idx_intro (fun x hx => have hq := hx; ?_))) <;> (try simp only [go_sem, seval, hq]))
   | (simp (disch := omega) only [wrap_ok])
   | ((first
    | (refine ⟨sd, ?_⟩)
    | (refine ⟨by assumption, ?_⟩)) <;> (try simp only [go_sem, seval]))
   | assumption)
theorem getB_cases (s : List Bd) (v : Int) : (∃ b, bound s v = true ∧ getB s v = .tup [.d (.agg (Tm.enc b)), .d (.bool true)]) ∨ (bound s v = false ∧ getB s v = .tup [.d (.agg [.int .i64 0, .int .i64 0, .str [], .sl []]), .d (.bool false)]) := by
 unfold getB
 cases h : s.find? (fun b => b.var == v) with
 | some b =>
  refine .inl ⟨b.to, ?_, rfl⟩
  unfold bound
  rw [List.any_eq_true]
  exact ⟨b, List.mem_of_find?_eq_some h, by simpa using List.find?_some h⟩
 | none =>
  refine .inr ⟨?_, rfl⟩
  unfold bound
  rw [List.any_eq_false]
  intro b hb
  have := List.find?_eq_none.1 h b hb
  simpa using this
theorem all_asc (l : List Int) (f : Int → Bool) : (l.foldl insA []).all f = l.all f := by
 show (ascOf l).all f = l.all f
 rw [Bool.eq_iff_iff, List.all_eq_true, List.all_eq_true]
 exact ⟨fun h x hx => h x (ascOf_mem.2 hx), fun h x hx => h x (ascOf_mem.1 hx)⟩
theorem substB_of {s : List Bd} (h : (decide (s.length ≤ 400) && valL none s) = true) : substB s = s.all (subB s) := by unfold substB; rw [h]; simp
theorem sSubstOk_fn (s : List Bd) (hw : ∀ b, b ∈ s → wtL b.to.enc ≤ 8000000) (hl : s.length ≤ 9000000) : Gives Tryd.prog 38 [.sl (s.map Bd.enc)] (.d (.bool (substB s))) := by
 have hmap : (s.map Bd.enc).length = s.length := List.length_map _
 have hv := l04Values_fn s (fun b hb => Nat.le_trans (hw b hb) (by decide)) hl
 cases h : (decide (s.length ≤ 400) && valL none s) with
 | false =>
  rw [h] at hv
  rw [show substB s = false from by unfold substB; rw [h]; simp]
  refine ACalls.enter (fn := Tryd.f38) Tryd.func38 rfl (by show 1 ≤ _; decide) ?_
  refine run_sound Tryd.func38 mixed 200 _ _ (by kernel_rfl) ?_
  simp only [go_sem, seval, hmap]
  repeat' (first
   | ((first | (refine br_n (fun hq => ?_) (fun hq => ?_)) | (refine idx_intro (fun x hx => have hq := hx; ?_))) <;> (try simp only [go_sem, seval, hmap, hq]))
   | (simp (disch := omega) only [wrap_ok])
   | ((first
    | (refine hv.calls rfl ?_)
    | (refine (l04Values_fn _ (by assumption) sd).calls rfl ?_)
    | (refine (l02Vars_fn _ _ (by assumption) sd).calls rfl ?_)
    | (refine ⟨sd, ?_⟩)
    | (refine ⟨by assumption, ?_⟩)) <;> (try simp only [go_sem, seval, hmap]))
   | assumption)
 | true =>
  rw [h] at hv
  rw [substB_of h]
  have hok : valL none s = true := by rw [Bool.and_eq_true] at h; exact h.2
  obtain ⟨R, hR⟩ : ∃ R, s.all (subB s) = R := ⟨_, rfl⟩
  rw [hR]
  refine ACalls.enter (fn := Tryd.f38) Tryd.func38 rfl (by show 1 ≤ _; decide) ?_
  refine run_sound Tryd.func38 mixed 200 _ _ (by kernel_rfl) ?_
  simp only [go_sem, seval, hmap]
  repeat' (first
   | ((first | (refine br_n (fun hq => ?_) (fun hq => ?_)) | (refine idx_intro (fun x hx => have hq := hx; ?_))) <;> (try simp only [go_sem, seval, hmap, hq]))
   | (simp (disch := omega) only [wrap_ok])
   | ((first
    | (refine hv.calls rfl ?_)
    | (refine (l04Values_fn _ (by assumption) sd).calls rfl ?_)
    | (refine (l02Vars_fn _ _ (by assumption) sd).calls rfl ?_)
    | (refine ⟨sd, ?_⟩)
    | (refine ⟨by assumption, ?_⟩)) <;> (try simp only [go_sem, seval, hmap]))
   | assumption)
  refine AW.rng s [0, 12, 13] 14 12 (fun _ : Unit => []) (fun H _ => H) (fun r _ => r.all (subB s) = R) () rfl (by simp) hR (by refine ⟨by simp [mkS], by simp [mkS], by simp [mkS, O.refsLt, C.refsLt, C.refsLt1], ?_⟩; simp [mkS, Abs.get, C.refsLtT, C.refsLt, C.refsLt1]) (fun i x r p hxi hdr hlt hm hinv hnext => ?_) (fun p hinv => ?_)
  ·have hxm := List.mem_of_getElem? hxi
   obtain ⟨k1, k2, k3⟩ := valL_ok s none hok x hxm
   obtain ⟨v, hxv, hvo⟩ := tmOk_of k1
   have hxw := hw x hxm
   have hV : x.to.V = v := by rw [hxv]; simp [Tm.V, V.v?_tm v (by unfold V.ok at hvo; rw [Bool.and_eq_true] at hvo; exact hvo.1)]
   rw [List.all_cons] at hinv
   by_cases c : x.to.kind = 1 ∧ x.var ≤ x.to.int
   ·have c1 := c.1
    have c2 := c.2
    have hf : R = false := by rw [← hinv, show subB s x = false from by unfold subB; simp [c1, c2]]; rfl
    rw [hf]
    refine run_sound Tryd.func38 mixed 200 _ _ (by kernel_rfl) ?_
    simp only [go_sem, seval, hlt, idx_of hxi, c1, c2]
    repeat' (first
     | ((first | (refine br_n (fun hq => ?_) (fun hq => ?_)) | (refine idx_intro (fun x hx => have hq := hx; ?_))) <;> (try simp only [go_sem, seval, hlt, idx_of hxi, c1, c2, hq]))
     | (simp (disch := omega) only [wrap_ok])
     | ((first
      | (refine (l04Values_fn _ (by assumption) sd).calls rfl ?_)
      | (refine (l02Vars_fn _ _ (by assumption) sd).calls rfl ?_)
      | (refine ⟨sd, ?_⟩)
      | (refine ⟨by assumption, ?_⟩)) <;> (try simp only [go_sem, seval, hlt, idx_of hxi, c1, c2]))
     | assumption)
   ·have hs : subB s x = v.vars.all (fun y => !bound s y) := by
     unfold subB
     rw [hV]
     have : (x.to.kind == 1 && decide (x.var ≤ x.to.int)) = false := by
      cases hh : (x.to.kind == 1 && decide (x.var ≤ x.to.int)) with
      | false => rfl
      | true => simp at hh; exact absurd hh c
     rw [this]; simp
    rw [hs] at hinv
    have hcs : ¬ x.to.kind = 1 ∨ (x.to.kind = 1 ∧ ¬ x.var ≤ x.to.int) := by
     by_cases e : x.to.kind = 1
     ·exact .inr ⟨e, fun h => c ⟨e, h⟩⟩
     ·exact .inl e
    have hlv := l02Vars_fn x.to [] (by simp [Asc]) (by have := Tm.vars_wt x.to; simp; omega)
    rw [hxv, V.vars_tm, ← hxv] at hlv
    rw [← all_asc] at hinv
    generalize v.vars.foldl insA [] = L at hlv hinv
    rcases hcs with c1 | ⟨c1, c2⟩
    ·refine run_sound Tryd.func38 mixed 200 _ _ (by kernel_rfl) ?_
     simp only [go_sem, seval, hlt, idx_of hxi, c1]
     repeat' (first
      | ((first | (refine br_n (fun hq => ?_) (fun hq => ?_)) | (refine idx_intro (fun x hx => have hq := hx; ?_))) <;> (try simp only [go_sem, seval, hlt, idx_of hxi, c1, intsD_len, hq]))
      | (simp (disch := omega) only [wrap_ok])
      | ((first
       | (refine hlv.calls rfl ?_)
       | (refine (l04Values_fn _ (by assumption) sd).calls rfl ?_)
       | (refine (l02Vars_fn _ _ (by assumption) sd).calls rfl ?_)
       | (refine ⟨sd, ?_⟩)
       | (refine ⟨by assumption, ?_⟩)) <;> (try simp only [go_sem, seval, hlt, idx_of hxi, c1, intsD_len]))
      | assumption)
     all_goals first | (exfalso; omega) | skip
     refine AW.rng L [0, 12, 13, 14, 32, 33] 34 32 (fun _ : Unit => []) (fun H _ => H) (fun r2 _ => (r2.all (fun y => !bound s y) && r.all (subB s)) = R) () rfl (by simp [intsD]) hinv (by refine ⟨by simp [mkS], by simp [mkS], by simp only [mkS, List.all_cons, List.all_nil, O.refsLt, C.refsLt, C.refsLt1, all_dmap]; first | done | rfl | (simp; done), ?_⟩; simp [mkS, Abs.get, C.refsLtT, C.refsLt, C.refsLt1]) (fun i2 y r2 p2 hyi hdr2 hlt2 hm2 hinv2 hnext2 => ?_) (fun p2 hinv2 => ?_)
     ·have hyd : (intsD L)[i2]? = some [.int .i64 y] := by simp [intsD, hyi]
      rw [List.all_cons] at hinv2
      have hg := l04Get_fn s y
      rcases getB_cases s y with ⟨b, e1, e2⟩ | ⟨e1, e2⟩
      ·rw [e2] at hg
       rw [e1] at hinv2
       rw [← hinv2]
       refine run_sound Tryd.func38 mixed 200 _ _ (by kernel_rfl) ?_
       simp only [go_sem, seval, hlt2, idx_of hyd]
       repeat' (first
        | ((first | (refine br_n (fun hq => ?_) (fun hq => ?_)) | (refine idx_intro (fun x hx => have hq := hx; ?_))) <;> (try simp only [go_sem, seval, hlt2, idx_of hyd, hq]))
        | (simp (disch := omega) only [wrap_ok])
        | ((first
         | (refine hg.calls rfl ?_)
         | (refine (l04Values_fn _ (by assumption) sd).calls rfl ?_)
         | (refine (l02Vars_fn _ _ (by assumption) sd).calls rfl ?_)
         | (refine ⟨sd, ?_⟩)
         | (refine ⟨by assumption, ?_⟩)) <;> (try simp only [go_sem, seval, hlt2, idx_of hyd]))
        | assumption)
       all_goals rfl
      ·rw [e2] at hg
       rw [e1] at hinv2
       refine run_sound Tryd.func38 mixed 200 _ _ (by kernel_rfl) ?_
       simp only [go_sem, seval, hlt2, idx_of hyd]
       repeat' (first
        | ((first | (refine br_n (fun hq => ?_) (fun hq => ?_)) | (refine idx_intro (fun x hx => have hq := hx; ?_))) <;> (try simp only [go_sem, seval, hlt2, idx_of hyd, hq]))
        | (simp (disch := omega) only [wrap_ok])
        | (refine hnext2 () _ hinv2 (by refine ⟨by simp [mkS], by simp [mkS], by simp only [mkS, List.all_cons, List.all_nil, O.refsLt, C.refsLt, C.refsLt1, all_dmap]; first | done | rfl | (simp; done), ?_⟩; simp [mkS, Abs.get, C.refsLtT, C.refsLt, C.refsLt1]))
        | ((first
         | (refine hg.calls rfl ?_)
         | (refine (l04Values_fn _ (by assumption) sd).calls rfl ?_)
         | (refine (l02Vars_fn _ _ (by assumption) sd).calls rfl ?_)
         | (refine ⟨sd, ?_⟩)
         | (refine ⟨by assumption, ?_⟩)) <;> (try simp only [go_sem, seval, hlt2, idx_of hyd]))
        | assumption)
     ·simp only [List.all_nil, Bool.true_and] at hinv2
      refine run_sound Tryd.func38 mixed 200 _ _ (by kernel_rfl) ?_
      simp only [go_sem, seval]
      repeat' (first
       | ((first | (refine br_n (fun hq => ?_) (fun hq => ?_)) | (refine idx_intro (fun x hx => have hq := hx; ?_))) <;> (try simp only [go_sem, seval, hq]))
       | (simp (disch := omega) only [wrap_ok])
       | (refine hnext () _ hinv2 (by refine ⟨by simp [mkS], by simp [mkS], by simp [mkS, O.refsLt, C.refsLt, C.refsLt1], ?_⟩; simp [mkS, Abs.get, C.refsLtT, C.refsLt, C.refsLt1]))
       | ((first
        | (refine (l04Values_fn _ (by assumption) sd).calls rfl ?_)
        | (refine (l02Vars_fn _ _ (by assumption) sd).calls rfl ?_)
        | (refine ⟨sd, ?_⟩)
        | (refine ⟨by assumption, ?_⟩)) <;> (try simp only [go_sem, seval]))
       | assumption)
    ·refine run_sound Tryd.func38 mixed 200 _ _ (by kernel_rfl) ?_
     simp only [go_sem, seval, hlt, idx_of hxi, c1, c2]
     repeat' (first
      | ((first | (refine br_n (fun hq => ?_) (fun hq => ?_)) | (refine idx_intro (fun x hx => have hq := hx; ?_))) <;> (try simp only [go_sem, seval, hlt, idx_of hxi, c1, c2, intsD_len, hq]))
      | (simp (disch := omega) only [wrap_ok])
      | ((first
       | (refine hlv.calls rfl ?_)
       | (refine (l04Values_fn _ (by assumption) sd).calls rfl ?_)
       | (refine (l02Vars_fn _ _ (by assumption) sd).calls rfl ?_)
       | (refine ⟨sd, ?_⟩)
       | (refine ⟨by assumption, ?_⟩)) <;> (try simp only [go_sem, seval, hlt, idx_of hxi, c1, c2, intsD_len]))
      | assumption)
     all_goals first | (exfalso; omega) | skip
     refine AW.rng L [0, 12, 13, 14, 32, 33] 34 32 (fun _ : Unit => []) (fun H _ => H) (fun r2 _ => (r2.all (fun y => !bound s y) && r.all (subB s)) = R) () rfl (by simp [intsD]) hinv (by refine ⟨by simp [mkS], by simp [mkS], by simp only [mkS, List.all_cons, List.all_nil, O.refsLt, C.refsLt, C.refsLt1, all_dmap]; first | done | rfl | (simp; done), ?_⟩; simp [mkS, Abs.get, C.refsLtT, C.refsLt, C.refsLt1]) (fun i2 y r2 p2 hyi hdr2 hlt2 hm2 hinv2 hnext2 => ?_) (fun p2 hinv2 => ?_)
     ·have hyd : (intsD L)[i2]? = some [.int .i64 y] := by simp [intsD, hyi]
      rw [List.all_cons] at hinv2
      have hg := l04Get_fn s y
      rcases getB_cases s y with ⟨b, e1, e2⟩ | ⟨e1, e2⟩
      ·rw [e2] at hg
       rw [e1] at hinv2
       rw [← hinv2]
       refine run_sound Tryd.func38 mixed 200 _ _ (by kernel_rfl) ?_
       simp only [go_sem, seval, hlt2, idx_of hyd]
       repeat' (first
        | ((first | (refine br_n (fun hq => ?_) (fun hq => ?_)) | (refine idx_intro (fun x hx => have hq := hx; ?_))) <;> (try simp only [go_sem, seval, hlt2, idx_of hyd, hq]))
        | (simp (disch := omega) only [wrap_ok])
        | ((first
         | (refine hg.calls rfl ?_)
         | (refine (l04Values_fn _ (by assumption) sd).calls rfl ?_)
         | (refine (l02Vars_fn _ _ (by assumption) sd).calls rfl ?_)
         | (refine ⟨sd, ?_⟩)
         | (refine ⟨by assumption, ?_⟩)) <;> (try simp only [go_sem, seval, hlt2, idx_of hyd]))
        | assumption)
       all_goals rfl
      ·rw [e2] at hg
       rw [e1] at hinv2
       refine run_sound Tryd.func38 mixed 200 _ _ (by kernel_rfl) ?_
       simp only [go_sem, seval, hlt2, idx_of hyd]
       repeat' (first
        | ((first | (refine br_n (fun hq => ?_) (fun hq => ?_)) | (refine idx_intro (fun x hx => have hq := hx; ?_))) <;> (try simp only [go_sem, seval, hlt2, idx_of hyd, hq]))
        | (simp (disch := omega) only [wrap_ok])
        | (refine hnext2 () _ hinv2 (by refine ⟨by simp [mkS], by simp [mkS], by simp only [mkS, List.all_cons, List.all_nil, O.refsLt, C.refsLt, C.refsLt1, all_dmap]; first | done | rfl | (simp; done), ?_⟩; simp [mkS, Abs.get, C.refsLtT, C.refsLt, C.refsLt1]))
        | ((first
         | (refine hg.calls rfl ?_)
         | (refine (l04Values_fn _ (by assumption) sd).calls rfl ?_)
         | (refine (l02Vars_fn _ _ (by assumption) sd).calls rfl ?_)
         | (refine ⟨sd, ?_⟩)
         | (refine ⟨by assumption, ?_⟩)) <;> (try simp only [go_sem, seval, hlt2, idx_of hyd]))
        | assumption)
     ·simp only [List.all_nil, Bool.true_and] at hinv2
      refine run_sound Tryd.func38 mixed 200 _ _ (by kernel_rfl) ?_
      simp only [go_sem, seval]
      repeat' (first
       | ((first | (refine br_n (fun hq => ?_) (fun hq => ?_)) | (refine idx_intro (fun x hx => have hq := hx; ?_))) <;> (try simp only [go_sem, seval, hq]))
       | (simp (disch := omega) only [wrap_ok])
       | (refine hnext () _ hinv2 (by refine ⟨by simp [mkS], by simp [mkS], by simp [mkS, O.refsLt, C.refsLt, C.refsLt1], ?_⟩; simp [mkS, Abs.get, C.refsLtT, C.refsLt, C.refsLt1]))
       | ((first
        | (refine (l04Values_fn _ (by assumption) sd).calls rfl ?_)
        | (refine (l02Vars_fn _ _ (by assumption) sd).calls rfl ?_)
        | (refine ⟨sd, ?_⟩)
        | (refine ⟨by assumption, ?_⟩)) <;> (try simp only [go_sem, seval]))
       | assumption)
  ·simp only [List.all_nil] at hinv
   rw [← hinv]
   refine run_sound Tryd.func38 mixed 200 _ _ (by kernel_rfl) ?_
   simp only [go_sem, seval]
   repeat' (first
    | ((first | (refine br_n (fun hq => ?_) (fun hq => ?_)) | (refine idx_intro (fun x hx => have hq := hx; ?_))) <;> (try simp only [go_sem, seval, hq]))
    | (simp (disch := omega) only [wrap_ok])
    | ((first
     | (refine (l04Values_fn _ (by assumption) sd).calls rfl ?_)
     | (refine (l02Vars_fn _ _ (by assumption) sd).calls rfl ?_)
     | (refine ⟨sd, ?_⟩)
     | (refine ⟨by assumption, ?_⟩)) <;> (try simp only [go_sem, seval]))
    | assumption)
theorem so1_clo (s : List Bd) (bb : List D) (hl : s.length ≤ 9000000) (ha : ascB none s = true) : Clo Tryd.prog 61 [.ptr 0 0, .ptr 2 0] 3 (fun n : Int => D.int .i64 n) (fun b : Bool => [.box [.d (.sl (s.map Bd.enc))], .box (bb.map .d), .box [.d (.bool b)]]) (fun _ => True) (fun b v => b && !bound s v) := by
 refine ⟨by kernel_rfl, rfl, fun _ => rfl, fun a => by simp only [List.all_cons, List.all_nil, O.refsLt, all_dmap]; rfl, fun a v _ => ?_⟩
 have hf := find_fn s v hl ha
 have hb := bfind_bound ha v
 generalize bfind s v = k at hf hb
 by_cases hk : 0 ≤ k
 ·rw [hb.1 hk]
  rw [show (a && !true) = false from by simp]
  refine ACalls.enter (fn := Tryd.f61) Tryd.func61 rfl (by show 3 ≤ _; decide) ?_
  refine run_sound Tryd.func61 mixed 200 _ _ (by kernel_rfl) ?_
  simp only [go_sem, seval, hk]
  repeat' (first
   | ((first | (refine br_n (fun hq => ?_) (fun hq => ?_)) | (refine idx_intro (fun x hx => have hq := hx; ?_))) <;> (try simp only [go_sem, seval, hk, hq]))
   | (simp (disch := omega) only [wrap_ok])
   | ((first
    | (refine hf.calls rfl ?_)
    | (refine (find_fn _ _ sd (by assumption)).calls rfl ?_)
    | (refine ⟨sd, ?_⟩)
    | (refine ⟨by assumption, ?_⟩)) <;> (try simp only [go_sem, seval, hk]))
   | assumption)
  all_goals simp [O.refsLt, C.refsLt, C.refsLt1, all_dmap, all_dcomp]
 ·have hbf : bound s v = false := by
   cases h : bound s v with
   | false => rfl
   | true => exact absurd (hb.2 h) hk
  rw [hbf]
  rw [show (a && !false) = a from by simp]
  refine ACalls.enter (fn := Tryd.f61) Tryd.func61 rfl (by show 3 ≤ _; decide) ?_
  refine run_sound Tryd.func61 mixed 200 _ _ (by kernel_rfl) ?_
  simp only [go_sem, seval, hk]
  repeat' (first
   | ((first | (refine br_n (fun hq => ?_) (fun hq => ?_)) | (refine idx_intro (fun x hx => have hq := hx; ?_))) <;> (try simp only [go_sem, seval, hk, hq]))
   | (simp (disch := omega) only [wrap_ok])
   | ((first
    | (refine hf.calls rfl ?_)
    | (refine (find_fn _ _ sd (by assumption)).calls rfl ?_)
    | (refine ⟨sd, ?_⟩)
    | (refine ⟨by assumption, ?_⟩)) <;> (try simp only [go_sem, seval, hk]))
   | assumption)
  all_goals first | (exfalso; omega) | simp [O.refsLt, C.refsLt, C.refsLt1, all_dmap, all_dcomp]
theorem foldl_all (f : Int → Bool) : ∀ (l : List Int) (a : Bool), l.foldl (fun b v => b && f v) a = (a && l.all f)
 | [], a => by simp
 | x :: r, a => by rw [List.foldl_cons, foldl_all f r, List.all_cons, Bool.and_assoc]
theorem iSubstOk_fn (s : List Bd) (hw : ∀ b, b ∈ s → wtL b.to.enc ≤ 8000000) (hl : s.length ≤ 9000000) : Gives Tryd.prog 39 [.sl (s.map Bd.enc)] (.d (.bool (substB s))) := by
 have hmap : (s.map Bd.enc).length = s.length := List.length_map _
 have hv := ValuesOk_fn s (fun b hb => Nat.le_trans (hw b hb) (by decide)) hl
 cases h : (decide (s.length ≤ 400) && valL none s) with
 | false =>
  rw [h] at hv
  rw [show substB s = false from by unfold substB; rw [h]; simp]
  refine ACalls.enter (fn := Tryd.f39) Tryd.func39 rfl (by show 1 ≤ _; decide) ?_
  refine run_sound Tryd.func39 mixed 200 _ _ (by kernel_rfl) ?_
  simp only [go_sem, seval, hmap]
  repeat' (first
   | ((first | (refine br_n (fun hq => ?_) (fun hq => ?_)) | (refine idx_intro (fun x hx => have hq := hx; ?_))) <;> (try simp only [go_sem, seval, hmap, hq]))
   | (simp (disch := omega) only [wrap_ok])
   | ((first
    | (refine hv.calls rfl ?_)
    | (refine (ValuesOk_fn _ (by assumption) sd).calls rfl ?_)
    | (refine ⟨sd, ?_⟩)
    | (refine ⟨by assumption, ?_⟩)) <;> (try simp only [go_sem, seval, hmap]))
   | assumption)
 | true =>
  rw [h] at hv
  rw [substB_of h]
  have hok : valL none s = true := by rw [Bool.and_eq_true] at h; exact h.2
  have hasc := valL_asc s none hok
  obtain ⟨R, hR⟩ : ∃ R, s.all (subB s) = R := ⟨_, rfl⟩
  rw [hR]
  refine ACalls.enter (fn := Tryd.f39) Tryd.func39 rfl (by show 1 ≤ _; decide) ?_
  refine run_sound Tryd.func39 mixed 200 _ _ (by kernel_rfl) ?_
  simp only [go_sem, seval, hmap]
  repeat' (first
   | ((first | (refine br_n (fun hq => ?_) (fun hq => ?_)) | (refine idx_intro (fun x hx => have hq := hx; ?_))) <;> (try simp only [go_sem, seval, hmap, hq]))
   | (simp (disch := omega) only [wrap_ok])
   | ((first
    | (refine hv.calls rfl ?_)
    | (refine (ValuesOk_fn _ (by assumption) sd).calls rfl ?_)
    | (refine ⟨sd, ?_⟩)
    | (refine ⟨by assumption, ?_⟩)) <;> (try simp only [go_sem, seval, hmap]))
   | assumption)
  refine AW.rng s [1, 9, 10] 11 9 (fun _ : Unit => []) (fun H _ => H) (fun r _ => r.all (subB s) = R) () rfl (by simp) hR (by refine ⟨by simp [mkS], by simp [mkS], by simp only [mkS, List.all_cons, List.all_nil, O.refsLt, C.refsLt, C.refsLt1, all_dmap]; first | done | rfl | (simp; done), ?_⟩; simp [mkS, Abs.get, C.refsLtT, C.refsLt, C.refsLt1]) (fun i x r p hxi hdr hlt hm hinv hnext => ?_) (fun p hinv => ?_)
  ·have hxm := List.mem_of_getElem? hxi
   obtain ⟨k1, k2, k3⟩ := valL_ok s none hok x hxm
   obtain ⟨v, hxv, hvo⟩ := tmOk_of k1
   have hV : x.to.V = v := by rw [hxv]; simp [Tm.V, V.v?_tm v (by unfold V.ok at hvo; rw [Bool.and_eq_true] at hvo; exact hvo.1)]
   rw [List.all_cons] at hinv
   have hev := eachVar_fn (so1_clo s x.enc hl hasc) v true
   rw [foldl_all (fun y => !bound s y), Bool.true_and] at hev
   rw [show V.enc v = x.to.enc from by rw [hxv]; rfl] at hev
   have hsb : subB s x = (v.vars.all (fun y => !bound s y) && !(x.to.kind == 1 && decide (x.var ≤ x.to.int))) := by unfold subB; rw [hV]
   rw [hsb] at hinv
   generalize v.vars.all (fun y => !bound s y) = q at hev hinv
   cases q with
   | false =>
    simp only [Bool.false_and] at hinv
    rw [← hinv]
    refine run_sound Tryd.func39 mixed 200 _ _ (by kernel_rfl) ?_
    simp only [go_sem, seval, hlt, idx_of hxi]
    repeat' (first
     | ((first | (refine br_n (fun hq => ?_) (fun hq => ?_)) | (refine idx_intro (fun x hx => have hq := hx; ?_))) <;> (try simp only [go_sem, seval, hlt, idx_of hxi, hq]))
     | (simp (disch := omega) only [wrap_ok])
     | ((first
      | (refine (so1_clo s x.enc hl hasc).sub (X := []) hev ?_)
      | (refine (ValuesOk_fn _ (by assumption) sd).calls rfl ?_)
      | (refine ⟨sd, ?_⟩)
      | (refine ⟨by assumption, ?_⟩)) <;> (try simp only [go_sem, seval, hlt, idx_of hxi]))
     | assumption)
    all_goals fail "A"
   | true =>
    by_cases c : x.to.kind = 1 ∧ x.var ≤ x.to.int
    ·have c1 := c.1
     have c2 := c.2
     have hf : R = false := by rw [← hinv]; simp [c1, c2]
     rw [hf]
     refine run_sound Tryd.func39 mixed 200 _ _ (by kernel_rfl) ?_
     simp only [go_sem, seval, hlt, idx_of hxi, c1, c2]
     repeat' (first
      | ((first | (refine br_n (fun hq => ?_) (fun hq => ?_)) | (refine idx_intro (fun x hx => have hq := hx; ?_))) <;> (try simp only [go_sem, seval, hlt, idx_of hxi, c1, c2, hq]))
      | (simp (disch := omega) only [wrap_ok])
      | ((first
       | (refine (so1_clo s x.enc hl hasc).sub (X := []) hev ?_)
       | (refine (ValuesOk_fn _ (by assumption) sd).calls rfl ?_)
       | (refine ⟨sd, ?_⟩)
       | (refine ⟨by assumption, ?_⟩)) <;> (try simp only [go_sem, seval, hlt, idx_of hxi, c1, c2]))
      | assumption)
     all_goals fail "B"
    ·have hi : r.all (subB s) = R := by
      rw [← hinv]
      have : (x.to.kind == 1 && decide (x.var ≤ x.to.int)) = false := by
       cases hh : (x.to.kind == 1 && decide (x.var ≤ x.to.int)) with
       | false => rfl
       | true => simp at hh; exact absurd hh c
      rw [this]; simp
     have hcs : ¬ x.to.kind = 1 ∨ (x.to.kind = 1 ∧ ¬ x.var ≤ x.to.int) := by
      by_cases e : x.to.kind = 1
      ·exact .inr ⟨e, fun h => c ⟨e, h⟩⟩
      ·exact .inl e
     rcases hcs with c1 | ⟨c1, c2⟩
     ·refine run_sound Tryd.func39 mixed 200 _ _ (by kernel_rfl) ?_
      simp only [go_sem, seval, hlt, idx_of hxi, c1]
      repeat' (first
       | ((first | (refine br_n (fun hq => ?_) (fun hq => ?_)) | (refine idx_intro (fun x hx => have hq := hx; ?_))) <;> (try simp only [go_sem, seval, hlt, idx_of hxi, c1, hq]))
       | (simp (disch := omega) only [wrap_ok])
       | (refine hnext () _ hi (by refine ⟨by simp [mkS], by simp [mkS], by simp only [mkS, List.all_cons, List.all_nil, O.refsLt, C.refsLt, C.refsLt1, all_dmap]; first | done | rfl | (simp; done), ?_⟩; simp [mkS, Abs.get, C.refsLtT, C.refsLt, C.refsLt1]))
       | ((first
        | (refine (so1_clo s x.enc hl hasc).sub (X := []) hev ?_)
        | (refine (ValuesOk_fn _ (by assumption) sd).calls rfl ?_)
        | (refine ⟨sd, ?_⟩)
        | (refine ⟨by assumption, ?_⟩)) <;> (try simp only [go_sem, seval, hlt, idx_of hxi, c1]))
       | assumption)
      all_goals fail "C"
     ·refine run_sound Tryd.func39 mixed 200 _ _ (by kernel_rfl) ?_
      simp only [go_sem, seval, hlt, idx_of hxi, c1, c2]
      repeat' (first
       | ((first | (refine br_n (fun hq => ?_) (fun hq => ?_)) | (refine idx_intro (fun x hx => have hq := hx; ?_))) <;> (try simp only [go_sem, seval, hlt, idx_of hxi, c1, c2, hq]))
       | (simp (disch := omega) only [wrap_ok])
       | (refine hnext () _ hi (by refine ⟨by simp [mkS], by simp [mkS], by simp only [mkS, List.all_cons, List.all_nil, O.refsLt, C.refsLt, C.refsLt1, all_dmap]; first | done | rfl | (simp; done), ?_⟩; simp [mkS, Abs.get, C.refsLtT, C.refsLt, C.refsLt1]))
       | ((first
        | (refine (so1_clo s x.enc hl hasc).sub (X := []) hev ?_)
        | (refine (ValuesOk_fn _ (by assumption) sd).calls rfl ?_)
        | (refine ⟨sd, ?_⟩)
        | (refine ⟨by assumption, ?_⟩)) <;> (try simp only [go_sem, seval, hlt, idx_of hxi, c1, c2]))
       | assumption)
      all_goals fail "D"
  ·simp only [List.all_nil] at hinv
   rw [← hinv]
   refine run_sound Tryd.func39 mixed 200 _ _ (by kernel_rfl) ?_
   simp only [go_sem, seval]
   repeat' (first
    | ((first | (refine br_n (fun hq => ?_) (fun hq => ?_)) | (refine idx_intro (fun x hx => have hq := hx; ?_))) <;> (try simp only [go_sem, seval, hq]))
    | (simp (disch := omega) only [wrap_ok])
    | ((first
     | (refine (ValuesOk_fn _ (by assumption) sd).calls rfl ?_)
     | (refine ⟨sd, ?_⟩)
     | (refine ⟨by assumption, ?_⟩)) <;> (try simp only [go_sem, seval]))
    | assumption)
end Go.Proofs.YtccphilpfmfagaaDoor
