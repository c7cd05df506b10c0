import Derived.Test.YtgmfoklmkpdjdaaW17
namespace Go.Proofs.Ytgmfoklmkpdjdaa
open Go.Abs
set_option maxRecDepth 100000
set_option maxHeartbeats 4000000
set_option linter.unusedSimpArgs false
set_option linter.unusedVariables false
def ldT (t : Gl) : Prop := ∀ cs : List Int, ACalls Try.prog 20 [.d (.agg t.enc), .ptr 0 0] [.box [.d (.sl (intsD cs))]] fun c H' => c = .d (.int .i64 (t.leadI cs).1) ∧ H' = [.box [.d (.sl (intsD (t.leadI cs).2))]]
theorem leads_T : ∀ t : Gl, wtL t.enc ≤ 1048576 → ldT t := by
 intro t
 induction t using Gl.ind' with
 | h t ih =>
  intro hw cs
  have hmx : maxLen = 9223372036854775807 := rfl
  have z0 : ((0 : Nat) : Int) = 0 := rfl
  rw [Gl.leadI_eq]
  by_cases h1 : t.kind = 1
  ·simp only [if_pos h1]
   refine ACalls.enter (fn := Try.f20) Try.func20 rfl (by show 2 ≤ _; decide) ?_
   refine run_sound Try.func20 mixed 200 _ _ (by kernel_rfl) ?_
   simp only [go_sem, seval, h1]
   repeat' (first
    | ((first | (refine br_n (fun hq => ?_) (fun hq => ?_)) | (refine idx_intro (fun x hx => have hq := hx; ?_))) <;> (try simp only [go_sem, seval, h1, hq]))
    | (simp (disch := omega) only [wrap_ok])
    | ((first
     | (refine ⟨sd, ?_⟩)
     | (refine ⟨by assumption, ?_⟩)) <;> (try simp only [go_sem, seval, h1]))
    | assumption)
  ·simp only [if_neg h1]
   by_cases h8 : t.kind = 8
   ·simp only [if_pos h8]
    cases cs with
    | nil =>
     refine ACalls.enter (fn := Try.f20) Try.func20 rfl (by show 2 ≤ _; decide) ?_
     refine run_sound Try.func20 mixed 200 _ _ (by kernel_rfl) ?_
     simp only [go_sem, seval, h1, h8, z0]
     repeat' (first
      | ((first | (refine br_n (fun hq => ?_) (fun hq => ?_)) | (refine idx_intro (fun x hx => have hq := hx; ?_))) <;> (try simp only [go_sem, seval, h1, h8, z0, hq]))
      | (simp (disch := omega) only [wrap_ok])
      | ((first
       | (refine ⟨sd, ?_⟩)
       | (refine ⟨by assumption, ?_⟩)) <;> (try simp only [go_sem, seval, h1, h8, z0]))
      | assumption)
    | cons c r =>
     dsimp only
     by_cases hb : c < 0 ∨ (t.goals.length : Int) ≤ c
     ·simp only [if_pos hb]
      refine ACalls.enter (fn := Try.f20) Try.func20 rfl (by show 2 ≤ _; decide) ?_
      refine run_sound Try.func20 mixed 200 _ _ (by kernel_rfl) ?_
      simp only [go_sem, seval, h1, h8]
      repeat' (first
       | ((first | (refine br_n (fun hq => ?_) (fun hq => ?_)) | (refine idx_intro (fun x hx => have hq := hx; ?_))) <;> (try simp only [go_sem, seval, h1, h8, hq]))
       | (simp (disch := omega) only [wrap_ok])
       | ((first
        | (refine ⟨sd, ?_⟩)
        | (refine ⟨by assumption, ?_⟩)) <;> (try simp only [go_sem, seval, h1, h8]))
       | assumption)
      all_goals first | (exfalso; omega) | skip
     ·simp only [if_neg hb]
      have hlt : c.toNat < t.goals.length := by omega
      obtain ⟨x, hx⟩ : ∃ x, t.goals[c.toNat]? = some x := ⟨_, List.getElem?_eq_getElem hlt⟩
      have hxm := List.mem_of_getElem? hx
      have hix := ih x hxm (by have := Gl.wt_goals hxm; omega) r
      rw [Gl.leadAt_eq _ _ x _ _ hx]
      generalize hT : (t.goals.take c.toNat).foldl (fun k x => i64 (k + x.nI)) 0 = T
      refine ACalls.enter (fn := Try.f20) Try.func20 rfl (by show 2 ≤ _; decide) ?_
      refine run_sound Try.func20 mixed 200 _ _ (by kernel_rfl) ?_
      simp only [go_sem, seval, h1, h8]
      repeat' (first
       | ((first | (refine br_n (fun hq => ?_) (fun hq => ?_)) | (refine idx_intro (fun x hx => have hq := hx; ?_))) <;> (try simp only [go_sem, seval, h1, h8, hq]))
       | (simp (disch := omega) only [wrap_ok])
       | ((first
        | (refine ⟨sd, ?_⟩)
        | (refine ⟨by assumption, ?_⟩)) <;> (try simp only [go_sem, seval, h1, h8]))
       | assumption)
      all_goals first | (exfalso; omega) | skip
      refine AW.rng (t.goals.take c.toNat) [1, 2, 5, 52, 53] 54 52 (fun p : Int => [(6, .d (.int .i64 p))]) (fun _ p => [.box [.d (.sl (intsD r))], .box (t.enc.map .d)]) (fun ar p => ar.foldl (fun k x => i64 (k + x.nI)) p = T) 0 rfl (by simp) hT (by refine ⟨by simp [mkS], by simp [mkS], by simp only [mkS, List.all_cons, List.all_nil, O.refsLt, C.refsLt, C.refsLt1, all_dmap]; first | done | rfl | (simp; done), ?_⟩; simp [mkS, Abs.get, C.refsLtT, C.refsLt, C.refsLt1]) (fun i y ar p hyi hdr hyt hm hinv hnext => ?_) (fun p hinv => ?_)
      ·have hym := List.mem_of_mem_take (List.mem_of_getElem? hyi)
       have hcy := clausesOf_fn y (by have := Gl.wt_goals hym; omega)
       refine run_sound Try.func20 mixed 200 _ _ (by kernel_rfl) ?_
       simp only [go_sem, seval, hyt, idx_of hyi]
       repeat' (first
        | ((first | (refine br_n (fun hq => ?_) (fun hq => ?_)) | (refine idx_intro (fun x hx => have hq := hx; ?_))) <;> (try simp only [go_sem, seval, hyt, idx_of hyi, clsR, hq]))
        | (simp (disch := omega) only [wrap_ok])
        | ((first
         | (refine hcy.calls rfl ?_)
         | (refine ⟨sd, ?_⟩)
         | (refine ⟨by assumption, ?_⟩)) <;> (try simp only [go_sem, seval, hyt, idx_of hyi, clsR]))
        | assumption)
       refine hnext (i64 (p + y.nI)) _ hinv (by refine ⟨by simp [mkS, i64, Gl.nI], by simp [mkS, i64, Gl.nI], by simp only [mkS, List.all_cons, List.all_nil, O.refsLt, C.refsLt, C.refsLt1, all_dmap]; first | done | rfl | (simp; done), ?_⟩; simp [mkS, Abs.get, C.refsLtT, C.refsLt, C.refsLt1, i64, Gl.nI])
      ·simp only [List.foldl_nil] at hinv
       subst hinv
       by_cases hn : (x.leadI r).1 < 0
       ·simp only [if_pos hn]
        refine run_sound Try.func20 mixed 200 _ _ (by kernel_rfl) ?_
        simp only [go_sem, seval, idx_of hx]
        repeat' (first
         | ((first | (refine br_n (fun hq => ?_) (fun hq => ?_)) | (refine idx_intro (fun x hx => have hq := hx; ?_))) <;> (try simp only [go_sem, seval, idx_of hx, C.at1, hq]))
         | (simp (disch := omega) only [wrap_ok])
         | ((first
          | (refine hix.at1 rfl 0 rfl rfl ?_ <;> (rintro c o' ⟨rfl, ho⟩; cases ho; refine ⟨rfl, rfl, ?_⟩))
          | (refine ⟨sd, ?_⟩)
          | (refine ⟨by assumption, ?_⟩)) <;> (try simp only [go_sem, seval, idx_of hx, C.at1]))
         | assumption)
        all_goals (exfalso; omega)
       ·simp only [if_neg hn]
        refine run_sound Try.func20 mixed 200 _ _ (by kernel_rfl) ?_
        simp only [go_sem, seval, idx_of hx]
        repeat' (first
         | ((first | (refine br_n (fun hq => ?_) (fun hq => ?_)) | (refine idx_intro (fun x hx => have hq := hx; ?_))) <;> (try simp only [go_sem, seval, idx_of hx, C.at1, hq]))
         | (simp (disch := omega) only [wrap_ok])
         | ((first
          | (refine hix.at1 rfl 0 rfl rfl ?_ <;> (rintro c o' ⟨rfl, ho⟩; cases ho; refine ⟨rfl, rfl, ?_⟩))
          | (refine ⟨sd, ?_⟩)
          | (refine ⟨by assumption, ?_⟩)) <;> (try simp only [go_sem, seval, idx_of hx, C.at1]))
         | assumption)
        all_goals first | (exfalso; omega) | skip
        all_goals rfl
   ·simp only [if_neg h8]
    by_cases h7 : t.kind = 7
    ·simp only [if_pos h7]
     refine ACalls.enter (fn := Try.f20) Try.func20 rfl (by show 2 ≤ _; decide) ?_
     refine run_sound Try.func20 mixed 200 _ _ (by kernel_rfl) ?_
     simp only [go_sem, seval, h1, h8, h7]
     repeat' (first
      | ((first | (refine br_n (fun hq => ?_) (fun hq => ?_)) | (refine idx_intro (fun x hx => have hq := hx; ?_))) <;> (try simp only [go_sem, seval, h1, h8, h7, hq]))
      | (simp (disch := omega) only [wrap_ok])
      | ((first
       | (refine ⟨sd, ?_⟩)
       | (refine ⟨by assumption, ?_⟩)) <;> (try simp only [go_sem, seval, h1, h8, h7]))
      | assumption)
     refine AW.rng t.goals [1, 83, 84] 85 83 (fun p : Int × List Int => [(12, .d (.int .i64 p.1))]) (fun _ p => [.box [.d (.sl (intsD p.2))], .box (t.enc.map .d)]) (fun ar p => Gl.leadL ar p.1 p.2 = Gl.leadL t.goals 0 cs) (0, cs) rfl (by simp) rfl (by refine ⟨by simp [mkS], by simp [mkS], by simp only [mkS, List.all_cons, List.all_nil, O.refsLt, C.refsLt, C.refsLt1, all_dmap]; first | done | rfl | (simp; done), ?_⟩; simp [mkS, Abs.get, C.refsLtT, C.refsLt, C.refsLt1]) (fun i x ar p hxi hdr hxt hm hinv hnext => ?_) (fun p hinv => ?_)
     ·have hxm := List.mem_of_getElem? hxi
      have hcx := clausesOf_fn x (by have := Gl.wt_goals hxm; omega)
      have hix := ih x hxm (by have := Gl.wt_goals hxm; omega) p.2
      simp only [Gl.leadL] at hinv
      by_cases hn : (x.leadI p.2).1 < 0
      ·rw [if_pos hn] at hinv
       rw [← hinv]
       refine run_sound Try.func20 mixed 200 _ _ (by kernel_rfl) ?_
       simp only [go_sem, seval, hxt, idx_of hxi]
       repeat' (first
        | ((first | (refine br_n (fun hq => ?_) (fun hq => ?_)) | (refine idx_intro (fun x hx => have hq := hx; ?_))) <;> (try simp only [go_sem, seval, hxt, idx_of hxi, clsR, C.at1, hq]))
        | (simp (disch := omega) only [wrap_ok])
        | ((first
         | (refine hcx.calls rfl ?_)
         | (refine hix.at1 rfl 0 rfl rfl ?_ <;> (rintro c o' ⟨rfl, ho⟩; cases ho; refine ⟨rfl, rfl, ?_⟩))
         | (refine ⟨sd, ?_⟩)
         | (refine ⟨by assumption, ?_⟩)) <;> (try simp only [go_sem, seval, hxt, idx_of hxi, clsR, C.at1]))
        | assumption)
       all_goals (exfalso; omega)
      ·rw [if_neg hn] at hinv
       refine run_sound Try.func20 mixed 200 _ _ (by kernel_rfl) ?_
       simp only [go_sem, seval, hxt, idx_of hxi]
       repeat' (first
        | ((first | (refine br_n (fun hq => ?_) (fun hq => ?_)) | (refine idx_intro (fun x hx => have hq := hx; ?_))) <;> (try simp only [go_sem, seval, hxt, idx_of hxi, clsR, C.at1, hq]))
        | (simp (disch := omega) only [wrap_ok])
        | ((first
         | (refine hcx.calls rfl ?_)
         | (refine hix.at1 rfl 0 rfl rfl ?_ <;> (rintro c o' ⟨rfl, ho⟩; cases ho; refine ⟨rfl, rfl, ?_⟩))
         | (refine ⟨sd, ?_⟩)
         | (refine ⟨by assumption, ?_⟩)) <;> (try simp only [go_sem, seval, hxt, idx_of hxi, clsR, C.at1]))
        | assumption)
       all_goals first | (exfalso; omega) | skip
       refine hnext (i64 (i64 (p.1 * x.nI) + (x.leadI p.2).1), (x.leadI p.2).2) _ hinv (by refine ⟨by simp [mkS, i64, Gl.nI], by simp [mkS, i64, Gl.nI], by simp only [mkS, List.all_cons, List.all_nil, O.refsLt, C.refsLt, C.refsLt1, all_dmap]; first | done | rfl | (simp; done), ?_⟩; simp [mkS, Abs.get, C.refsLtT, C.refsLt, C.refsLt1, i64, Gl.nI])
     ·simp only [Gl.leadL] at hinv
      rw [← hinv]
      refine run_sound Try.func20 mixed 200 _ _ (by kernel_rfl) ?_
      simp only [go_sem, seval]
      repeat' (first
       | ((first | (refine br_n (fun hq => ?_) (fun hq => ?_)) | (refine idx_intro (fun x hx => have hq := hx; ?_))) <;> (try simp only [go_sem, seval, hq]))
       | (simp (disch := omega) only [wrap_ok])
       | ((first
        | (refine ⟨sd, ?_⟩)
        | (refine ⟨by assumption, ?_⟩)) <;> (try simp only [go_sem, seval]))
       | assumption)
    ·simp only [if_neg h7]
     refine ACalls.enter (fn := Try.f20) Try.func20 rfl (by show 2 ≤ _; decide) ?_
     refine run_sound Try.func20 mixed 200 _ _ (by kernel_rfl) ?_
     simp only [go_sem, seval, h1, h8, h7]
     repeat' (first
      | ((first | (refine br_n (fun hq => ?_) (fun hq => ?_)) | (refine idx_intro (fun x hx => have hq := hx; ?_))) <;> (try simp only [go_sem, seval, h1, h8, h7, hq]))
      | (simp (disch := omega) only [wrap_ok])
      | ((first
       | (refine ⟨sd, ?_⟩)
       | (refine ⟨by assumption, ?_⟩)) <;> (try simp only [go_sem, seval, h1, h8, h7]))
      | assumption)
theorem iClauseIndex_fn (t : Gl) (cs : List Int) (hw : wtL t.enc ≤ 1048576) (hcs : cs.length ≤ 1048576) : Gives Try.prog 7 [.agg t.enc, .sl (intsD cs)] (.d (.int .i64 (t.cidxI cs))) := by
 have hmx : maxLen = 9223372036854775807 := rfl
 have hci := clausesOf_fn t hw
 have hle := leads_T t hw cs
 unfold Gl.cidxI
 by_cases hok : glOk t = true
 ·cases hcl : t.clsI with
  | none =>
   rw [hcl] at hci
   simp only [hok, Option.isSome_none]
   refine ACalls.enter (fn := Try.f7) Try.func7 rfl (by show 2 ≤ _; decide) ?_
   refine run_sound Try.func7 mixed 200 _ _ (by kernel_rfl) ?_
   simp only [go_sem, seval, hok]
   repeat' (first
    | ((first | (refine br_n (fun hq => ?_) (fun hq => ?_)) | (refine idx_intro (fun x hx => have hq := hx; ?_))) <;> (try simp only [go_sem, seval, hok, clsR, Option.getD_none, Option.isSome_none, hq]))
    | (simp (disch := omega) only [wrap_ok])
    | ((first
     | (refine hci.calls rfl ?_)
     | (refine (iGoalOk_fn _ sd).calls rfl ?_)
     | (refine ⟨sd, ?_⟩)
     | (refine ⟨by assumption, ?_⟩)) <;> (try simp only [go_sem, seval, hok, clsR, Option.getD_none, Option.isSome_none]))
    | assumption)
   all_goals rfl
  | some l =>
   rw [hcl] at hci
   simp only [hok, Option.isSome_some, and_self, if_true]
   refine ACalls.enter (fn := Try.f7) Try.func7 rfl (by show 2 ≤ _; decide) ?_
   refine run_sound Try.func7 mixed 200 _ _ (by kernel_rfl) ?_
   simp only [go_sem, seval, hok]
   repeat' (first
    | ((first | (refine br_n (fun hq => ?_) (fun hq => ?_)) | (refine idx_intro (fun x hx => have hq := hx; ?_))) <;> (try simp only [go_sem, seval, hok, clsR, Option.getD_some, Option.isSome_some, C.at1, hq]))
    | (simp (disch := omega) only [wrap_ok])
    | ((first
     | (refine hci.calls rfl ?_)
     | (refine hle.at1 rfl 2 rfl rfl ?_ <;> (rintro c o' ⟨rfl, ho⟩; cases ho; refine ⟨rfl, rfl, ?_⟩))
     | (refine (iGoalOk_fn _ sd).calls rfl ?_)
     | (refine ⟨sd, ?_⟩)
     | (refine ⟨by assumption, ?_⟩)) <;> (try simp only [go_sem, seval, hok, clsR, Option.getD_some, Option.isSome_some, C.at1]))
    | assumption)
   refine ACalls.readB (rb := 2) (j := 0) rfl rfl rfl ?_
   simp only [go_sem, seval]
   refine hle.at1 rfl 2 rfl rfl ?_
   rintro c o' ⟨rfl, ho⟩
   cases ho
   refine ⟨rfl, rfl, ?_⟩
   simp only [go_sem, seval, C.at1, run.eq_1]
   repeat' (first
    | ((first | (refine br_n (fun hq => ?_) (fun hq => ?_)) | (refine idx_intro (fun x hx => have hq := hx; ?_))) <;> (try simp only [go_sem, seval, hq]))
    | (simp (disch := omega) only [wrap_ok])
    | ((first
     | (refine (iGoalOk_fn _ sd).calls rfl ?_)
     | (refine ⟨sd, ?_⟩)
     | (refine ⟨by assumption, ?_⟩)) <;> (try simp only [go_sem, seval]))
    | assumption)
   ·rw [if_pos (by omega)]
   ·rw [if_neg (by omega)]
 ·simp only [Bool.not_eq_true] at hok
  simp only [hok]
  refine ACalls.enter (fn := Try.f7) Try.func7 rfl (by show 2 ≤ _; decide) ?_
  refine run_sound Try.func7 mixed 200 _ _ (by kernel_rfl) ?_
  simp only [go_sem, seval, hok]
  repeat' (first
   | ((first | (refine br_n (fun hq => ?_) (fun hq => ?_)) | (refine idx_intro (fun x hx => have hq := hx; ?_))) <;> (try simp only [go_sem, seval, hok, hq]))
   | (simp (disch := omega) only [wrap_ok])
   | ((first
    | (refine (iGoalOk_fn _ sd).calls rfl ?_)
    | (refine ⟨sd, ?_⟩)
    | (refine ⟨by assumption, ?_⟩)) <;> (try simp only [go_sem, seval, hok]))
   | assumption)
  all_goals rfl
end Go.Proofs.Ytgmfoklmkpdjdaa
