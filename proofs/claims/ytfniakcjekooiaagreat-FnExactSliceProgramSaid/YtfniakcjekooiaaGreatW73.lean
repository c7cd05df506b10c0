import Derived.Test.YtfniakcjekooiaaGreatW72
import Derived.Test.YtfniakcjekooiaaGreatW20
namespace Go.Proofs.YtfniakcjekooiaaGreat
open Go.Abs
set_option maxRecDepth 100000
set_option maxHeartbeats 4000000
set_option linter.unusedSimpArgs false
set_option linter.unusedVariables false
theorem sSliceProgram_fn (p : Pg) (s : List UInt8) (hw : wtL p.enc ≤ 1048576) : Gives Tryz.prog 5 [.agg p.enc, .str s] (.tup [.d (.agg [.sl ((slL p s).map Rl.enc)]), .d (.bool (slB p s))]) := by
 have hmx : maxLen = 9223372036854775807 := rfl
 have hfr := sFindRel_fn p s hw
 unfold slL
 by_cases hp : pgOk p = true
 ·obtain ⟨hC, ha, h8⟩ := cRows_ok hp
  have hR := l17Reach_R p hw (pgOk_shapes hp) hC ha h8
  have hcl := cRows_len p
  have hwr : ∀ r, r ∈ p.rels → wtL r.body.enc ≤ 1048576 := fun r hr => by
   have := Pg.wt_rels hr; have := Rl.wt_body r; omega
  rw [if_pos hp] at hfr
  by_cases h0 : 0 ≤ p.find s
  ·have hrg := p.find_range s
   obtain ⟨n, hn⟩ : ∃ n : Nat, p.find s = n := ⟨(p.find s).toNat, by omega⟩
   have hok : slB p s = true := by unfold slB; rw [hp, hn]; simp
   have hsf : ∀ i : Nat, slF p s i = (decide ((i : Int) = n) || rc (cRows p) n i) := fun i => by unfold slF; rw [hn]
   rw [if_pos hok, hok]
   rw [hn] at hfr
   have hnn : ¬ (n : Int) < 0 := by omega
   refine ACalls.enter (fn := Tryz.f5) Tryz.func5 rfl (by show 2 ≤ _; decide) ?_
   refine run_sound Tryz.func5 mixed 18 _ _ (by kernel_rfl) ?_
   simp only [go_sem, seval, run.eq_1, hnn]
   repeat' (first
    | ((first | (refine br_n (fun hq => ?_) (fun hq => ?_)) | (refine idx_intro (fun x hx => have hq := hx; ?_))) <;> (try simp only [go_sem, seval, hnn, run.eq_1, hq]))
    | (simp (disch := omega) only [wrap_ok])
    | ((first
     | (refine hfr.calls rfl ?_)
     | (refine hR.frame (X := [_, _]) rfl rfl ?_ <;> (rintro c H' ⟨R, rfl, hRn⟩ hH0; obtain rfl := List.eq_nil_of_length_eq_zero hH0))
     | (refine (sFindRel_fn _ _ sd).calls rfl ?_)
     | (refine (sFindRel_fn _ _ sd).callQ rfl ?_)
     | (refine (l02Has_fn _ _).calls rfl ?_)
     | (refine (l02Has_fn _ _).callQ rfl ?_)
     | (refine (l13Copy_fn _ sd).calls rfl ?_)
     | (refine (l13Copy_fn _ sd).callQ rfl ?_)
     | (refine ⟨sd, ?_⟩)
     | (refine ⟨by assumption, ?_⟩)) <;> (try simp only [go_sem, seval, hnn, run.eq_1]))
    | assumption)
   have hRl := hRn.len
   have hrn : R[n]? = some (relRow R n) := by
    unfold relRow; rw [Int.toNat_natCast, List.getD_eq_getElem?_getD, List.getElem?_eq_getElem (by omega)]; rfl
   refine ⟨by omega, ?_⟩
   simp only [go_sem, seval, idx_of hrn, encI2_eq]
   repeat' (first
    | ((first | (refine br_n (fun hq => ?_) (fun hq => ?_)) | (refine idx_intro (fun x hx => have hq := hx; ?_))) <;> (try simp only [go_sem, seval, idx_of hrn, encI2_eq, run.eq_1, hq]))
    | (simp (disch := omega) only [wrap_ok])
    | ((first
     | (refine (sFindRel_fn _ _ sd).calls rfl ?_)
     | (refine (sFindRel_fn _ _ sd).callQ rfl ?_)
     | (refine (l02Has_fn _ _).calls rfl ?_)
     | (refine (l02Has_fn _ _).callQ rfl ?_)
     | (refine (l13Copy_fn _ sd).calls rfl ?_)
     | (refine (l13Copy_fn _ sd).callQ rfl ?_)
     | (refine ⟨sd, ?_⟩)
     | (refine ⟨by assumption, ?_⟩)) <;> (try simp only [go_sem, seval, idx_of hrn, encI2_eq, run.eq_1]))
    | assumption)
   have hB : ∀ k : Int, decide (k ∈ relRow R n) = rc (cRows p) n k := fun k => by rw [Bool.eq_iff_iff, decide_eq_true_eq]; exact hRn.mem hC (by omega) (i := n) (by omega) k
   refine AW.adoptGB 2 0 7 45 (by decide) rfl rfl ?_
   refine run_sound Tryz.func5 mixed 1 _ _ (by kernel_rfl) ?_
   simp only [go_sem, seval, run.eq_1]
   refine AW.rng p.rels [4, 6, 7, 8, 24, 25] 26 24 (fun q : List Rl => []) (fun _ q => [.box (p.enc.map .d), .box [.nil0], .box [.own 3 q.length], .grow q.length 7 45 (q.map Rl.enc)]) (fun r q => q.length + r.length ≤ p.rels.length ∧ q ++ pickL (slF p s) (p.rels.length - r.length) r = pickL (slF p s) 0 p.rels) [] rfl (by simp) ⟨by simp, by simp⟩ (by refine ⟨by simp [mkS], by simp [mkS], by simp only [mkS, List.all_cons, List.all_nil, O.refsLt, C.refsLt, C.refsLt1, all_dmap]; first | done | rfl | (simp; done), ?_⟩; simp [mkS, Abs.get, C.refsLtT, C.refsLt, C.refsLt1]) (fun i x r q hxi hdr hlt hm hinv hnext => ?_) (fun q hinv => ?_)
   ·obtain ⟨hi1, hi2⟩ := hinv
    have hrl := congrArg List.length hdr
    simp only [List.length_drop, List.length_cons] at hrl hi1 hi2
    have e1 : p.rels.length - (r.length + 1) = i := by omega
    have e2 : p.rels.length - r.length = i + 1 := by omega
    rw [e1] at hi2
    have hpk : pickL (slF p s) i (x :: r) = if slF p s i = true then x :: pickL (slF p s) (i + 1) r else pickL (slF p s) (i + 1) r := rfl
    rw [hpk] at hi2
    have hxm := List.mem_of_getElem? hxi
    have hbw := hwr x hxm
    have hcp := l13Copy_fn x.body hbw
    have hfi := hsf i
    have hBi := hB i
    by_cases hik : (i : Int) = n
    ·have hike : decide ((i : Int) = n) = true := by simp [hik]
     have hf : slF p s i = true := by rw [hfi, hik]; simp
     rw [if_pos hf] at hi2
     refine run_sound Tryz.func5 mixed 12 _ _ (by kernel_rfl) ?_
     simp only [go_sem, seval, run.eq_1, hlt, idx_of hxi, hike]
     repeat' (first
      | ((first | (refine br_n (fun hq => ?_) (fun hq => ?_)) | (refine idx_intro (fun x hx => have hq := hx; ?_))) <;> (try simp only [go_sem, seval, hlt, idx_of hxi, hike, run.eq_1, hq]))
      | (simp (disch := omega) only [wrap_ok])
      | ((first
       | (refine (sFindRel_fn _ _ sd).calls rfl ?_)
       | (refine (sFindRel_fn _ _ sd).callQ rfl ?_)
       | (refine (l02Has_fn _ _).calls rfl ?_)
       | (refine (l02Has_fn _ _).callQ rfl ?_)
       | (refine (l13Copy_fn _ sd).calls rfl ?_)
       | (refine (l13Copy_fn _ sd).callQ rfl ?_)
       | (refine ⟨sd, ?_⟩)
       | (refine ⟨by assumption, ?_⟩)) <;> (try simp only [go_sem, seval, hlt, idx_of hxi, hike, run.eq_1]))
      | assumption)
     refine AW.drawA mixed #[true, true, true, true, true, true, true, true, true, true, true, true, true, true, false, false] [(2, .box [.own 3 q.length]), (4, .box (x.enc.map .d))] [] [0, 1, 2, 3, 4, 5, 6, 7, 8, 9, 10, 11, 12, 13] [14, 15] none (by kernel_rfl) trivial (by simp [holdsB]) ?_
     simp only [go_sem, seval]
     repeat' (first
      | ((first | (refine br_n (fun hq => ?_) (fun hq => ?_)) | (refine idx_intro (fun x hx => have hq := hx; ?_))) <;> (try simp only [go_sem, seval, hq]))
      | (simp (disch := omega) only [wrap_ok])
      | ((first
       | (refine hcp.calls rfl ?_)
       | (refine (sFindRel_fn _ _ sd).calls rfl ?_)
       | (refine (sFindRel_fn _ _ sd).callQ rfl ?_)
       | (refine (l02Has_fn _ _).calls rfl ?_)
       | (refine (l02Has_fn _ _).callQ rfl ?_)
       | (refine (l13Copy_fn _ sd).calls rfl ?_)
       | (refine (l13Copy_fn _ sd).callQ rfl ?_)
       | (refine ⟨sd, ?_⟩)
       | (refine ⟨by assumption, ?_⟩)) <;> (try simp only [go_sem, seval]))
      | assumption)
     refine run_sound Tryz.func5 mixed 200 _ _ (by kernel_rfl) ?_
     simp only [go_sem, seval]
     try simp (disch := omega) only [wrap_ok]
     refine hnext (q ++ [x]) _ ⟨by simp; omega, by rw [e2]; simpa using hi2⟩ (by refine ⟨by simp [mkS, Rl.enc_eq x, Gl.enc_eq x.body], by simp [mkS, Rl.enc_eq x, Gl.enc_eq x.body], by simp only [mkS, List.all_cons, List.all_nil, O.refsLt, C.refsLt, C.refsLt1, all_dmap]; first | done | rfl | (simp; done), ?_⟩; simp [mkS, Abs.get, C.refsLtT, C.refsLt, C.refsLt1])
    ·have hike : decide ((i : Int) = n) = false := by simp [hik]
     cases hrc : rc (cRows p) n i with
     | true =>
      have hf : slF p s i = true := by rw [hfi, hrc]; simp
      rw [if_pos hf] at hi2
      rw [hrc] at hBi
      refine run_sound Tryz.func5 mixed 12 _ _ (by kernel_rfl) ?_
      simp only [go_sem, seval, run.eq_1, hlt, idx_of hxi, hike, hBi]
      repeat' (first
       | ((first | (refine br_n (fun hq => ?_) (fun hq => ?_)) | (refine idx_intro (fun x hx => have hq := hx; ?_))) <;> (try simp only [go_sem, seval, hlt, idx_of hxi, hike, hBi, run.eq_1, hq]))
       | (simp (disch := omega) only [wrap_ok])
       | ((first
        | (refine (sFindRel_fn _ _ sd).calls rfl ?_)
        | (refine (sFindRel_fn _ _ sd).callQ rfl ?_)
        | (refine (l02Has_fn _ _).calls rfl ?_)
        | (refine (l02Has_fn _ _).callQ rfl ?_)
        | (refine (l13Copy_fn _ sd).calls rfl ?_)
        | (refine (l13Copy_fn _ sd).callQ rfl ?_)
        | (refine ⟨sd, ?_⟩)
        | (refine ⟨by assumption, ?_⟩)) <;> (try simp only [go_sem, seval, hlt, idx_of hxi, hike, hBi, run.eq_1]))
       | assumption)
      refine AW.drawA mixed #[true, true, true, true, true, true, true, true, true, true, true, true, true, true, false, false] [(2, .box [.own 3 q.length]), (4, .box (x.enc.map .d))] [] [0, 1, 2, 3, 4, 5, 6, 7, 8, 9, 10, 11, 12, 13] [14, 15] none (by kernel_rfl) trivial (by simp [holdsB]) ?_
      simp only [go_sem, seval]
      repeat' (first
       | ((first | (refine br_n (fun hq => ?_) (fun hq => ?_)) | (refine idx_intro (fun x hx => have hq := hx; ?_))) <;> (try simp only [go_sem, seval, hq]))
       | (simp (disch := omega) only [wrap_ok])
       | ((first
        | (refine hcp.calls rfl ?_)
        | (refine (sFindRel_fn _ _ sd).calls rfl ?_)
        | (refine (sFindRel_fn _ _ sd).callQ rfl ?_)
        | (refine (l02Has_fn _ _).calls rfl ?_)
        | (refine (l02Has_fn _ _).callQ rfl ?_)
        | (refine (l13Copy_fn _ sd).calls rfl ?_)
        | (refine (l13Copy_fn _ sd).callQ rfl ?_)
        | (refine ⟨sd, ?_⟩)
        | (refine ⟨by assumption, ?_⟩)) <;> (try simp only [go_sem, seval]))
       | assumption)
      refine run_sound Tryz.func5 mixed 200 _ _ (by kernel_rfl) ?_
      simp only [go_sem, seval]
      try simp (disch := omega) only [wrap_ok]
      refine hnext (q ++ [x]) _ ⟨by simp; omega, by rw [e2]; simpa using hi2⟩ (by refine ⟨by simp [mkS, Rl.enc_eq x, Gl.enc_eq x.body], by simp [mkS, Rl.enc_eq x, Gl.enc_eq x.body], by simp only [mkS, List.all_cons, List.all_nil, O.refsLt, C.refsLt, C.refsLt1, all_dmap]; first | done | rfl | (simp; done), ?_⟩; simp [mkS, Abs.get, C.refsLtT, C.refsLt, C.refsLt1])
     | false =>
      have hf : ¬ slF p s i = true := by rw [hfi, hrc, hike]; simp
      rw [if_neg hf] at hi2
      rw [hrc] at hBi
      refine run_sound Tryz.func5 mixed 200 _ _ (by kernel_rfl) ?_
      simp only [go_sem, seval, hlt, idx_of hxi, hike, hBi]
      repeat' (first
       | ((first | (refine br_n (fun hq => ?_) (fun hq => ?_)) | (refine idx_intro (fun x hx => have hq := hx; ?_))) <;> (try simp only [go_sem, seval, hlt, idx_of hxi, hike, hBi, hq]))
       | (simp (disch := omega) only [wrap_ok])
       | ((first
        | (refine (sFindRel_fn _ _ sd).calls rfl ?_)
        | (refine (sFindRel_fn _ _ sd).callQ rfl ?_)
        | (refine (l02Has_fn _ _).calls rfl ?_)
        | (refine (l02Has_fn _ _).callQ rfl ?_)
        | (refine (l13Copy_fn _ sd).calls rfl ?_)
        | (refine (l13Copy_fn _ sd).callQ rfl ?_)
        | (refine ⟨sd, ?_⟩)
        | (refine ⟨by assumption, ?_⟩)) <;> (try simp only [go_sem, seval, hlt, idx_of hxi, hike, hBi]))
       | assumption)
      try simp (disch := omega) only [wrap_ok]
      refine hnext q _ ⟨by omega, by rw [e2]; exact hi2⟩ (by refine ⟨by simp [mkS], by simp [mkS], by simp only [mkS, List.all_cons, List.all_nil, O.refsLt, C.refsLt, C.refsLt1, all_dmap]; first | done | rfl | (simp; done), ?_⟩; simp [mkS, Abs.get, C.refsLtT, C.refsLt, C.refsLt1])
   ·obtain ⟨hi1, hi2⟩ := hinv
    have hi2 : q = pickL (slF p s) 0 p.rels := by simpa [pickL] using hi2
    rw [← hi2]
    refine run_sound Tryz.func5 mixed 200 _ _ (by kernel_rfl) ?_
    simp only [go_sem, seval]
  ·have hok : slB p s = false := by unfold slB; simp [h0]
   rw [hok]
   simp only [Bool.false_eq_true, if_false]
   have hnn : p.find s < 0 := by omega
   refine ACalls.enter (fn := Tryz.f5) Tryz.func5 rfl (by show 2 ≤ _; decide) ?_
   refine run_sound Tryz.func5 mixed 200 _ _ (by kernel_rfl) ?_
   simp only [go_sem, seval, hnn]
   repeat' (first
    | ((first | (refine br_n (fun hq => ?_) (fun hq => ?_)) | (refine idx_intro (fun x hx => have hq := hx; ?_))) <;> (try simp only [go_sem, seval, hnn, hq]))
    | (simp (disch := omega) only [wrap_ok])
    | ((first
     | (refine hfr.calls rfl ?_)
     | (refine (sFindRel_fn _ _ sd).calls rfl ?_)
     | (refine (sFindRel_fn _ _ sd).callQ rfl ?_)
     | (refine (l02Has_fn _ _).calls rfl ?_)
     | (refine (l02Has_fn _ _).callQ rfl ?_)
     | (refine (l13Copy_fn _ sd).calls rfl ?_)
     | (refine (l13Copy_fn _ sd).callQ rfl ?_)
     | (refine ⟨sd, ?_⟩)
     | (refine ⟨by assumption, ?_⟩)) <;> (try simp only [go_sem, seval, hnn]))
    | assumption)
 ·simp only [Bool.not_eq_true] at hp
  have hok : slB p s = false := by unfold slB; rw [hp]; rfl
  rw [hp] at hfr
  rw [hok]
  simp only [Bool.false_eq_true, if_false]
  refine ACalls.enter (fn := Tryz.f5) Tryz.func5 rfl (by show 2 ≤ _; decide) ?_
  refine run_sound Tryz.func5 mixed 200 _ _ (by kernel_rfl) ?_
  simp only [go_sem, seval]
  repeat' (first
   | ((first | (refine br_n (fun hq => ?_) (fun hq => ?_)) | (refine idx_intro (fun x hx => have hq := hx; ?_))) <;> (try simp only [go_sem, seval, hq]))
   | (simp (disch := omega) only [wrap_ok])
   | ((first
    | (refine hfr.calls rfl ?_)
    | (refine (sFindRel_fn _ _ sd).calls rfl ?_)
    | (refine (sFindRel_fn _ _ sd).callQ rfl ?_)
    | (refine (l02Has_fn _ _).calls rfl ?_)
    | (refine (l02Has_fn _ _).callQ rfl ?_)
    | (refine (l13Copy_fn _ sd).calls rfl ?_)
    | (refine (l13Copy_fn _ sd).callQ rfl ?_)
    | (refine ⟨sd, ?_⟩)
    | (refine ⟨by assumption, ?_⟩)) <;> (try simp only [go_sem, seval]))
   | assumption)
end Go.Proofs.YtfniakcjekooiaaGreat
