import Derived.Test.YtbncaodnnbldmaaGreatW63
import Derived.Test.YtbncaodnnbldmaaGreatW22
import Derived.Test.YtbncaodnnbldmaaGreatW28
namespace Go.Proofs.YtbncaodnnbldmaaGreat
open Go.Abs
set_option maxRecDepth 100000
set_option maxHeartbeats 4000000
set_option linter.unusedSimpArgs false
set_option linter.unusedVariables false
theorem sNormalProgram_fn (p : Pg) (hw : wtL p.enc ≤ 1048576) : Gives Tryz.prog 7 [.agg p.enc] (.tup [.d (.agg [.sl ((nfL p).map Rl.enc)]), .d (.bool (nfB p))]) := by
 have hmx : maxLen = 9223372036854775807 := rfl
 have hpk := sProgramOk_fn p (by omega)
 unfold nfL
 by_cases hp : pgOk p = true
 ·rw [hp] at hpk
  have hwr : ∀ r, r ∈ p.rels → wtL r.body.enc ≤ 1048575 := fun r hr => by
   have := Pg.wt_rels hr; have := Rl.wt_body r; omega
  have hnf : nfB p = (p.rels.all nfO && pgOk ⟨p.rels.map nfR⟩) := by unfold nfB; rw [hp]; rfl
  have hwn := nf_wt hp hw
  have hlp : p.rels.length ≤ 8 := by
   have hp' := hp
   unfold pgOk at hp'
   simp only [Bool.and_eq_true, decide_eq_true_eq] at hp'
   exact hp'.1
  have hk2 := sProgramOk_fn ⟨p.rels.map nfR⟩ hwn
  refine ACalls.enter (fn := Tryz.f7) Tryz.func7 rfl (by show 1 ≤ _; decide) ?_
  refine run_sound Tryz.func7 mixed 9 _ _ (by kernel_rfl) ?_
  simp only [go_sem, seval, run.eq_1]
  repeat' (first
   | ((first | (refine br_n (fun hq => ?_) (fun hq => ?_)) | (refine idx_intro (fun x hx => have hq := hx; ?_))) <;> (try simp only [go_sem, seval, run.eq_1, hq]))
   | (simp (disch := omega) only [wrap_ok])
   | ((first
    | (refine hpk.calls rfl ?_)
    | (refine (sProgramOk_fn _ sd).calls rfl ?_)
    | (refine ⟨sd, ?_⟩)
    | (refine ⟨by assumption, ?_⟩)) <;> (try simp only [go_sem, seval, run.eq_1]))
   | assumption)
  refine AW.adoptGB 2 0 7 82 (by decide) rfl rfl ?_
  refine run_sound Tryz.func7 mixed 200 _ _ (by kernel_rfl) ?_
  simp only [go_sem, seval]
  repeat' (first
   | ((first | (refine br_n (fun hq => ?_) (fun hq => ?_)) | (refine idx_intro (fun x hx => have hq := hx; ?_))) <;> (try simp only [go_sem, seval, hq]))
   | (simp (disch := omega) only [wrap_ok])
   | ((first
    | (refine (sProgramOk_fn _ sd).calls rfl ?_)
    | (refine ⟨sd, ?_⟩)
    | (refine ⟨by assumption, ?_⟩)) <;> (try simp only [go_sem, seval]))
   | assumption)
  refine AW.rng p.rels [2, 4, 17, 18] 19 17 (fun q : List Rl => []) (fun _ q => [.box (p.enc.map .d), .box [.nil0], .box [.own 3 q.length], .grow q.length 7 82 ((q.map nfR).map Rl.enc)]) (fun r q => q ++ r = p.rels ∧ q.all nfO = true) [] rfl (by simp) ⟨rfl, rfl⟩ (by refine ⟨by simp [mkS], by simp [mkS], by simp only [mkS, List.all_cons, List.all_nil, O.refsLt, C.refsLt, C.refsLt1, all_dmap]; first | done | rfl | (simp; done), ?_⟩; simp [mkS, Abs.get, C.refsLtT, C.refsLt, C.refsLt1]) (fun i x r q hxi hdr hlt hm hinv hnext => ?_) (fun q hinv => ?_)
  ·obtain ⟨hi1, hi2⟩ := hinv
   have hxm := List.mem_of_getElem? hxi
   have hpl : q.length + (r.length + 1) = p.rels.length := by rw [← hi1]; simp
   have hbd : nfO x = false → nfB p = false := fun h0 => by
    rw [hnf]
    have : p.rels.all nfO = false := by
     rw [List.all_eq_false]
     exact ⟨_, hxm, by rw [h0]; simp⟩
    rw [this]; rfl
   have hcl := sClausesOf_fn x.body (by have := hwr x hxm; omega)
   have hce : clsR (if glOk x.body = true ∧ x.body.clsS.length ≤ 64 then some x.body.clsS else none) = .tup [.d (.sl ((clsV x.body).map encC)), .d (.bool (clsB x.body))] := by
    unfold clsR clsV clsB
    split <;> simp [*]
   rw [hce] at hcl
   have hlc : (clsV x.body).length ≤ 64 := by
    unfold clsV
    split
    ·rename_i h; exact h.2
    ·simp
   have hcw := fun c hc => clsV_wt (g := x.body) c hc
   have hb := hwr x hxm
   have hcg := sClauseGoal_fn (clsV x.body) (by omega) (fun c hc => by
    have h1 := hcw c hc
    have := sumW_le (c.map Gl.enc) 0; simp [sumW] at this; omega) (fun c hc y hy => by
    have h1 := hcw c hc
    have h2 := wtR_mem (List.mem_map.2 ⟨y, hy, rfl⟩ : y.enc ∈ c.map Gl.enc)
    omega)
   by_cases hcb : clsB x.body = true
   ·by_cases hco : cgOk (clsV x.body) = true
    ·have hox : nfO x = true := by unfold nfO; rw [hcb, hco]; rfl
     have hrx : (nfR x).enc = [.str x.name, .int .i64 x.arity, .int .i64 x.locals, .int .i64 (cgK (clsV x.body)), .str [], .sl [], .sl (((cgV (clsV x.body)).map mkC).map Gl.enc)] := by rw [Rl.enc_eq]; rfl
     rw [hco] at hcg
     rw [hcb] at hcl
     refine run_sound Tryz.func7 mixed 200 _ _ (by kernel_rfl) ?_
     simp only [go_sem, seval, hlt, idx_of hxi]
     repeat' (first
      | ((first | (refine br_n (fun hq => ?_) (fun hq => ?_)) | (refine idx_intro (fun x hx => have hq := hx; ?_))) <;> (try simp only [go_sem, seval, hlt, idx_of hxi, hq]))
      | (simp (disch := omega) only [wrap_ok])
      | ((first
       | (refine hcl.calls rfl ?_)
       | (refine hcg.calls rfl ?_)
       | (refine (sProgramOk_fn _ sd).calls rfl ?_)
       | (refine ⟨sd, ?_⟩)
       | (refine ⟨by assumption, ?_⟩)) <;> (try simp only [go_sem, seval, hlt, idx_of hxi]))
      | assumption)
     try simp (disch := omega) only [wrap_ok]
     refine hnext (q ++ [x]) _ ⟨by simp [← hi1], by simp [hi2, hox]⟩ (by refine ⟨by simp [mkS, hrx], by simp [mkS, hrx], by simp only [mkS, List.all_cons, List.all_nil, O.refsLt, C.refsLt, C.refsLt1, all_dmap]; first | done | rfl | (simp; done), ?_⟩; simp [mkS, Abs.get, C.refsLtT, C.refsLt, C.refsLt1, hrx])
    ·simp only [Bool.not_eq_true] at hco
     have hbad := hbd (by unfold nfO; rw [hco]; simp)
     rw [hco] at hcg
     rw [hcb] at hcl
     refine run_sound Tryz.func7 mixed 200 _ _ (by kernel_rfl) ?_
     simp only [go_sem, seval, hlt, idx_of hxi]
     repeat' (first
      | ((first | (refine br_n (fun hq => ?_) (fun hq => ?_)) | (refine idx_intro (fun x hx => have hq := hx; ?_))) <;> (try simp only [go_sem, seval, hlt, idx_of hxi, hq]))
      | (simp (disch := omega) only [wrap_ok])
      | ((first
       | (refine hcl.calls rfl ?_)
       | (refine hcg.calls rfl ?_)
       | (refine (sProgramOk_fn _ sd).calls rfl ?_)
       | (refine ⟨sd, ?_⟩)
       | (refine ⟨by assumption, ?_⟩)) <;> (try simp only [go_sem, seval, hlt, idx_of hxi]))
      | assumption)
     rw [hbad]; rfl
   ·simp only [Bool.not_eq_true] at hcb
    have hbad := hbd (by unfold nfO; rw [hcb]; rfl)
    rw [hcb] at hcl
    refine run_sound Tryz.func7 mixed 200 _ _ (by kernel_rfl) ?_
    simp only [go_sem, seval, hlt, idx_of hxi]
    repeat' (first
     | ((first | (refine br_n (fun hq => ?_) (fun hq => ?_)) | (refine idx_intro (fun x hx => have hq := hx; ?_))) <;> (try simp only [go_sem, seval, hlt, idx_of hxi, hq]))
     | (simp (disch := omega) only [wrap_ok])
     | ((first
      | (refine hcl.calls rfl ?_)
      | (refine hcg.calls rfl ?_)
      | (refine (sProgramOk_fn _ sd).calls rfl ?_)
      | (refine ⟨sd, ?_⟩)
      | (refine ⟨by assumption, ?_⟩)) <;> (try simp only [go_sem, seval, hlt, idx_of hxi]))
     | assumption)
    rw [hbad]; rfl
  ·obtain ⟨hi1, hi2⟩ := hinv
   simp only [List.append_nil] at hi1
   subst hi1
   rw [hi2, Bool.true_and] at hnf
   by_cases hk : pgOk ⟨p.rels.map nfR⟩ = true
   ·rw [hk] at hk2 hnf
    rw [hnf]
    simp only [if_true]
    refine run_sound Tryz.func7 mixed 200 _ _ (by kernel_rfl) ?_
    simp only [go_sem, seval]
    repeat' (first
     | ((first | (refine br_n (fun hq => ?_) (fun hq => ?_)) | (refine idx_intro (fun x hx => have hq := hx; ?_))) <;> (try simp only [go_sem, seval, hq]))
     | (simp (disch := omega) only [wrap_ok])
     | ((first
      | (refine hk2.calls rfl ?_)
      | (refine (sProgramOk_fn _ sd).calls rfl ?_)
      | (refine ⟨sd, ?_⟩)
      | (refine ⟨by assumption, ?_⟩)) <;> (try simp only [go_sem, seval]))
     | assumption)
   ·simp only [Bool.not_eq_true] at hk
    rw [hk] at hk2 hnf
    rw [hnf]
    simp only [Bool.false_eq_true, if_false]
    refine run_sound Tryz.func7 mixed 200 _ _ (by kernel_rfl) ?_
    simp only [go_sem, seval]
    repeat' (first
     | ((first | (refine br_n (fun hq => ?_) (fun hq => ?_)) | (refine idx_intro (fun x hx => have hq := hx; ?_))) <;> (try simp only [go_sem, seval, hq]))
     | (simp (disch := omega) only [wrap_ok])
     | ((first
      | (refine hk2.calls rfl ?_)
      | (refine (sProgramOk_fn _ sd).calls rfl ?_)
      | (refine ⟨sd, ?_⟩)
      | (refine ⟨by assumption, ?_⟩)) <;> (try simp only [go_sem, seval]))
     | assumption)
 ·simp only [Bool.not_eq_true] at hp
  rw [hp] at hpk
  have hbad : nfB p = false := by unfold nfB; rw [hp]; rfl
  rw [hbad]
  simp only [Bool.false_eq_true, if_false]
  refine ACalls.enter (fn := Tryz.f7) Tryz.func7 rfl (by show 1 ≤ _; decide) ?_
  refine run_sound Tryz.func7 mixed 200 _ _ (by kernel_rfl) ?_
  simp only [go_sem, seval]
  repeat' (first
   | ((first | (refine br_n (fun hq => ?_) (fun hq => ?_)) | (refine idx_intro (fun x hx => have hq := hx; ?_))) <;> (try simp only [go_sem, seval, hq]))
   | (simp (disch := omega) only [wrap_ok])
   | ((first
    | (refine hpk.calls rfl ?_)
    | (refine (sProgramOk_fn _ sd).calls rfl ?_)
    | (refine ⟨sd, ?_⟩)
    | (refine ⟨by assumption, ?_⟩)) <;> (try simp only [go_sem, seval]))
   | assumption)
end Go.Proofs.YtbncaodnnbldmaaGreat
