import Derived.Test.YtfniakcjekooiaaW70
namespace Go.Proofs.Ytfniakcjekooiaa
open Go.Abs
set_option maxRecDepth 100000
set_option maxHeartbeats 4000000
set_option linter.unusedSimpArgs false
set_option linter.unusedVariables false
def tkD (n : Nat) (t : Int → Bool) : List (List D) := (List.range n).map fun k : Nat => [.bool (t k)]
theorem tkD_len (n : Nat) (t : Int → Bool) : (tkD n t).length = n := by simp [tkD]
theorem tkD_at {n : Nat} {t : Int → Bool} {k : Nat} (h : k < n) : (tkD n t)[k]? = some [.bool (t k)] := by
 unfold tkD
 rw [List.getElem?_map, List.getElem?_range h]; rfl
theorem tkD_set {n : Nat} {t : Int → Bool} {k : Nat} (h : k < n) : (tkD n t).set k [.bool true] = tkD n (fun x => t x || decide (x = k)) := by
 apply List.ext_getElem?
 intro j
 by_cases hj : j < n
 ·rw [tkD_at hj, List.getElem?_set, tkD_at hj, tkD_len]
  by_cases e : k = j
  ·subst e; simp [h]
  ·rw [if_neg e]
   have : ¬ ((j : Int) = (k : Int)) := by omega
   simp [this]
 ·rw [List.getElem?_eq_none (by simp [tkD_len]; omega), List.getElem?_eq_none (by rw [tkD_len]; omega)]
theorem tkD_zero (n : Nat) : List.replicate n [D.bool false] = tkD n (fun _ => false) := by
 apply List.ext_getElem?
 intro j
 by_cases hj : j < n
 ·rw [tkD_at hj, List.getElem?_replicate, if_pos hj]
 ·rw [List.getElem?_eq_none (by simp; omega), List.getElem?_eq_none (by rw [tkD_len]; omega)]
theorem filter_snoc (f : Int → Bool) (j : Nat) : (rngI (j + 1)).filter f = (rngI j).filter f ++ if f j then [(j : Int)] else [] := by
 rw [rngI_succ, List.filter_append, List.filter_cons]; simp
theorem all_snoc (f : Int → Bool) (j : Nat) : (rngI (j + 1)).all f = ((rngI j).all f && f j) := by
 rw [rngI_succ, List.all_append]; simp
theorem sComponents_fn (p : Pg) (hw : wtL p.enc ≤ 1048576) : Gives Try.prog 10 [.agg p.enc] (.d (.sl ((cpV p).map encI2))) := by
 have hmx : maxLen = 9223372036854775807 := rfl
 unfold cpV
 by_cases hok : pgOk p = true
 ·obtain ⟨hC, ha, h8⟩ := cRows_ok hok
  have hR := l17Reach_R p hw (pgOk_shapes hok) hC ha h8
  have hcl := cRows_len p
  rw [if_pos hok]
  generalize hMg : cRows p = M at *
  refine ACalls.enter (fn := Try.f10) Try.func10 rfl (by show 1 ≤ _; decide) ?_
  refine run_sound Try.func10 mixed 17 _ _ (by kernel_rfl) ?_
  simp only [go_sem, seval, run.eq_1, hok]
  repeat' (first
   | ((first | (refine br_n (fun hq => ?_) (fun hq => ?_)) | (refine idx_intro (fun x hx => have hq := hx; ?_))) <;> (try simp only [go_sem, seval, hok, run.eq_1, hq]))
   | (simp (disch := omega) only [wrap_ok])
   | ((first
    | (refine hR.frame (X := [_]) rfl rfl ?_ <;> (rintro c H' ⟨R, rfl, hRn⟩ hH0; obtain rfl := List.eq_nil_of_length_eq_zero hH0))
    | (refine (l02Has_fn _ _).calls rfl ?_)
    | (refine (sProgramOk_fn _ sd).calls rfl ?_)
    | (refine ⟨sd, ?_⟩)
    | (refine ⟨by assumption, ?_⟩)) <;> (try simp only [go_sem, seval, hok, run.eq_1]))
   | assumption)
  have hRl := hRn.len
  have hrow : ∀ j : Nat, j < M.length → (R.map encI2)[j]? = some [.sl (intsD (relRow R j))] := fun j hj => row_i2 (by omega)
  have hrc : ∀ (j : Nat) (k : Int), j < M.length → decide (k ∈ relRow R j) = rc M j k := fun j k hj => by
   rw [Bool.eq_iff_iff, decide_eq_true_eq]; exact hRn.mem hC (by omega) hj k
  rw [tkD_zero]
  refine AW.adopt 5 1 42 (by decide) rfl ?_
  refine run_sound Try.func10 mixed 1 _ _ (by kernel_rfl) ?_
  simp only [go_sem, seval, run.eq_1]
  refine AW.rng p.rels [1, 3, 4, 26] 27 25 (fun u : (Int → Bool) × List (List Int) => [(5, .own 2 u.2.length)]) (fun _ u => [.box (p.enc.map .d), .row 1 4 (tkD p.rels.length u.1), .grow u.2.length 1 42 (u.2.map encI2)]) (fun r u => Clsd M u.1 ∧ u.2.length + r.length ≤ p.rels.length ∧ u.2 ++ cps M r.length u.1 = cpsV M) (fun _ => false, []) rfl (by simp) ⟨fun i k h => by simp at h, by simp, by unfold cpsV; rw [hcl]; rfl⟩ (by refine ⟨by simp [mkS], by simp [mkS], by simp only [mkS, List.all_cons, List.all_nil, O.refsLt, C.refsLt, C.refsLt1, all_dmap]; first | done | rfl | (simp; done), ?_⟩; simp [mkS, Abs.get, C.refsLtT, C.refsLt, C.refsLt1]) (fun i0 x0 r0 u hxi0 hdr0 hlt0 hm0 hinv0 hnx0 => ?_) (fun u hinv => ?_)
  ·obtain ⟨t, out⟩ := u
   obtain ⟨hcs, hol, hout⟩ := hinv0
   dsimp only at hcs hout hol hnx0 ⊢
   refine run_sound Try.func10 mixed 13 _ _ (by kernel_rfl) ?_
   simp only [go_sem, seval, run.eq_1, hlt0]
   repeat' (first
    | ((first | (refine br_n (fun hq => ?_) (fun hq => ?_)) | (refine idx_intro (fun x hx => have hq := hx; ?_))) <;> (try simp only [go_sem, seval, hlt0, run.eq_1, hq]))
    | (simp (disch := omega) only [wrap_ok])
    | ((first
     | (refine (l02Has_fn _ _).calls rfl ?_)
     | (refine (sProgramOk_fn _ sd).calls rfl ?_)
     | (refine ⟨sd, ?_⟩)
     | (refine ⟨by assumption, ?_⟩)) <;> (try simp only [go_sem, seval, hlt0, run.eq_1]))
    | assumption)
   refine AW.nilG 6 rfl ?_
   refine AW.rng p.rels [1, 3, 4, 5, 26, 27, 32] 33 31 (fun b : List Int => [(6, .d (.sl (intsD b)))]) (fun _ _ => [.box (p.enc.map .d), .row 1 4 (tkD p.rels.length t), .grow out.length 1 42 (out.map encI2)]) (fun r b => (b = [] ∧ ∀ j : Nat, j + r.length < M.length → cpFree M t j = false) ∨ ∃ i : Int, cpNext M t = some i ∧ b = cpC M i) [] rfl (by simp) (.inl ⟨rfl, fun j h => by omega⟩) (by refine ⟨by simp [mkS, intsD_nl2], by simp [mkS, intsD_nl2], by simp only [mkS, List.all_cons, List.all_nil, O.refsLt, C.refsLt, C.refsLt1, all_dmap]; first | done | rfl | (simp; done), ?_⟩; simp [mkS, Abs.get, C.refsLtT, C.refsLt, C.refsLt1, intsD_nl2]) (fun i x r b hxi hdr hlt hm hinv hnx => ?_) (fun b hinv => ?_)
   ·have hrl := congrArg List.length hdr
    simp only [List.length_drop, List.length_cons] at hrl
    have hi : i < M.length := by omega
    have htk := tkD_at (t := t) (show i < p.rels.length by omega)
    have hbl : b.length ≤ 8 := by
     rcases hinv with ⟨rfl, _⟩ | ⟨j, _, rfl⟩
     ·simp
     ·have := cpC_len M j
      omega
    have hri := hrow i hi
    have hstep : cpFree M t i = false → b = [] → ∀ j : Nat, j + r.length < M.length → cpFree M t j = false := fun h hb j hj => by
     by_cases e : j = i
     ·subst e; exact h
     ·rcases hinv with ⟨_, hv⟩ | ⟨i', h0, hbc⟩
      ·exact hv j (by simp only [List.length_cons]; omega)
      ·have hr := cpNext_some h0
       have := cpC_self hr.1
       rw [← hbc, hb] at this
       cases this
    cases hti : t (i : Int) with
    | true =>
     rw [hti] at htk
     have hbn := intsD_len b
     have hfr0 : false = (!t i && decide (b = [])) := by rw [hti]; rfl
     refine run_sound Try.func10 mixed 14 _ _ (by kernel_rfl) ?_
     simp only [go_sem, seval, run.eq_1, hlt, tkD_len, htk]
     repeat' (first
      | ((first | (refine br_n (fun hq => ?_) (fun hq => ?_)) | (refine idx_intro (fun x hx => have hq := hx; ?_))) <;> (try simp only [go_sem, seval, hlt, tkD_len, htk, run.eq_1, hq]))
      | (simp (disch := omega) only [wrap_ok])
      | ((first
       | (refine (l02Has_fn _ _).calls rfl ?_)
       | (refine (sProgramOk_fn _ sd).calls rfl ?_)
       | (refine ⟨sd, ?_⟩)
       | (refine ⟨by assumption, ?_⟩)) <;> (try simp only [go_sem, seval, hlt, tkD_len, htk, run.eq_1]))
      | assumption)
     refine AW.adopt 8 1 3 (by decide) rfl ?_
     refine run_sound Try.func10 mixed 5 _ _ (by kernel_rfl) ?_
     simp only [go_sem, seval, run.eq_1]
     repeat' (first
      | ((first | (refine br_n (fun hq => ?_) (fun hq => ?_)) | (refine idx_intro (fun x hx => have hq := hx; ?_))) <;> (try simp only [go_sem, seval, run.eq_1, hq]))
      | (simp (disch := omega) only [wrap_ok])
      | ((first
       | (refine (l02Has_fn _ _).calls rfl ?_)
       | (refine (sProgramOk_fn _ sd).calls rfl ?_)
       | (refine ⟨sd, ?_⟩)
       | (refine ⟨by assumption, ?_⟩)) <;> (try simp only [go_sem, seval, run.eq_1]))
      | assumption)
     refine AW.rng p.rels [1, 3, 4, 5, 6, 7, 26, 27, 32, 33, 49] 50 48 (fun u : List Int × Bool => [(8, .own 3 u.1.length), (9, .d (.bool u.2))]) (fun _ u => [.box (p.enc.map .d), .row 1 4 (tkD p.rels.length t), .grow out.length 1 42 (out.map encI2), .grow u.1.length 1 3 (intsD u.1)]) (fun r2 u => u.1 = (rngI (M.length - r2.length)).filter (cpM M i) ∧ u.2 = (false && (rngI (M.length - r2.length)).all fun k => cpM M i k || t k || !rc M i k)) ([], false) rfl (by simp) ⟨by rw [← hcl]; simp [rngI], by rw [← hcl]; simp [rngI]⟩ (by refine ⟨by simp [mkS, intsD_nl2], by simp [mkS, intsD_nl2], by simp only [mkS, List.all_cons, List.all_nil, O.refsLt, C.refsLt, C.refsLt1, all_dmap]; first | done | rfl | (simp; done), ?_⟩; simp [mkS, Abs.get, C.refsLtT, C.refsLt, C.refsLt1]) (fun i2 x2 r2 u hxi2 hdr2 hlt2 hm2 hinv2 hnx2 => ?_) (fun u hinv2 => ?_)
     ·obtain ⟨part, fr⟩ := u
      obtain ⟨h1, h2⟩ := hinv2
      dsimp only at h1 h2 hnx2 ⊢
      have hrl2 := congrArg List.length hdr2
      simp only [List.length_drop, List.length_cons] at hrl2 h1 h2
      have e1 : M.length - (r2.length + 1) = i2 := by omega
      have e2 : M.length - r2.length = i2 + 1 := by omega
      rw [e1] at h1 h2
      have hi2 : i2 < M.length := by omega
      have hpl : part.length ≤ 8 := by
       rw [h1]
       have := List.length_filter_le (cpM M i) (rngI i2)
       rw [rngI_len] at this
       omega
      have htk2 := tkD_at (t := t) (show i2 < p.rels.length by omega)
      have hrk := hrow i2 hi2
      have hA := hrc i i2 hi
      have hB := hrc i2 i hi2
      by_cases hik : (i2 : Int) = i
      ·have hiN : i2 = i := by omega
       subst hiN
       have h7 : decide ((i2 : Int) = i2) = true := by simp
       cases fr with
       | false =>
        refine run_sound Try.func10 mixed 200 _ _ (by kernel_rfl) ?_
        simp only [go_sem, seval, hlt2, idx_of hri, htk2, tkD_len]
        repeat' (first
         | ((first | (refine br_n (fun hq => ?_) (fun hq => ?_)) | (refine idx_intro (fun x hx => have hq := hx; ?_))) <;> (try simp only [go_sem, seval, hlt2, idx_of hri, htk2, tkD_len, hq]))
         | (simp (disch := omega) only [wrap_ok])
         | ((first
          | (refine (l02Has_fn _ _).calls rfl ?_)
          | (refine (sProgramOk_fn _ sd).calls rfl ?_)
          | (refine ⟨sd, ?_⟩)
          | (refine ⟨by assumption, ?_⟩)) <;> (try simp only [go_sem, seval, hlt2, idx_of hri, htk2, tkD_len]))
         | assumption)
        try simp (disch := omega) only [wrap_ok]
        refine hnx2 (part ++ [(i2 : Int)], false) _ ⟨by dsimp only; rw [e2, filter_snoc, ← h1]; simp [cpM, h7], by dsimp only; rw [e2, all_snoc, ← Bool.and_assoc, ← h2]; simp [cpM, h7]⟩ (by refine ⟨by simp [mkS, intsD_append, intsD_one], by simp [mkS, intsD_append, intsD_one], by simp only [mkS, List.all_cons, List.all_nil, O.refsLt, C.refsLt, C.refsLt1, all_dmap]; first | done | rfl | (simp; done), ?_⟩; simp [mkS, Abs.get, C.refsLtT, C.refsLt, C.refsLt1])
       | true =>
        refine run_sound Try.func10 mixed 200 _ _ (by kernel_rfl) ?_
        simp only [go_sem, seval, hlt2, idx_of hri, htk2, tkD_len]
        repeat' (first
         | ((first | (refine br_n (fun hq => ?_) (fun hq => ?_)) | (refine idx_intro (fun x hx => have hq := hx; ?_))) <;> (try simp only [go_sem, seval, hlt2, idx_of hri, htk2, tkD_len, hq]))
         | (simp (disch := omega) only [wrap_ok])
         | ((first
          | (refine (l02Has_fn _ _).calls rfl ?_)
          | (refine (sProgramOk_fn _ sd).calls rfl ?_)
          | (refine ⟨sd, ?_⟩)
          | (refine ⟨by assumption, ?_⟩)) <;> (try simp only [go_sem, seval, hlt2, idx_of hri, htk2, tkD_len]))
         | assumption)
        try simp (disch := omega) only [wrap_ok]
        refine hnx2 (part ++ [(i2 : Int)], true) _ ⟨by dsimp only; rw [e2, filter_snoc, ← h1]; simp [cpM, h7], by dsimp only; rw [e2, all_snoc, ← Bool.and_assoc, ← h2]; simp [cpM, h7]⟩ (by refine ⟨by simp [mkS, intsD_append, intsD_one], by simp [mkS, intsD_append, intsD_one], by simp only [mkS, List.all_cons, List.all_nil, O.refsLt, C.refsLt, C.refsLt1, all_dmap]; first | done | rfl | (simp; done), ?_⟩; simp [mkS, Abs.get, C.refsLtT, C.refsLt, C.refsLt1])
      ·have hike : decide ((i2 : Int) = i) = false := by simp [hik]
       cases ha : rc M i i2 with
       | false =>
        rw [ha] at hA
        cases fr with
        | false =>
         refine run_sound Try.func10 mixed 200 _ _ (by kernel_rfl) ?_
         simp only [go_sem, seval, hlt2, idx_of hri, idx_of hrk, hA, hike, htk2, tkD_len]
         repeat' (first
          | ((first | (refine br_n (fun hq => ?_) (fun hq => ?_)) | (refine idx_intro (fun x hx => have hq := hx; ?_))) <;> (try simp only [go_sem, seval, hlt2, idx_of hri, idx_of hrk, hA, hike, htk2, tkD_len, hq]))
          | (simp (disch := omega) only [wrap_ok])
          | ((first
           | (refine (l02Has_fn _ _).calls rfl ?_)
           | (refine (sProgramOk_fn _ sd).calls rfl ?_)
           | (refine ⟨sd, ?_⟩)
           | (refine ⟨by assumption, ?_⟩)) <;> (try simp only [go_sem, seval, hlt2, idx_of hri, idx_of hrk, hA, hike, htk2, tkD_len]))
          | assumption)
         try simp (disch := omega) only [wrap_ok]
         refine hnx2 (part, false) _ ⟨by dsimp only; rw [e2, filter_snoc, ← h1]; simp [cpM, hik, ha], by dsimp only; rw [e2, all_snoc, ← Bool.and_assoc, ← h2]; simp [cpM, hik, ha]⟩ (by refine ⟨by simp [mkS, intsD_append, intsD_one], by simp [mkS, intsD_append, intsD_one], by simp only [mkS, List.all_cons, List.all_nil, O.refsLt, C.refsLt, C.refsLt1, all_dmap]; first | done | rfl | (simp; done), ?_⟩; simp [mkS, Abs.get, C.refsLtT, C.refsLt, C.refsLt1])
        | true =>
         cases htk : t (i2 : Int) with
         | true =>
          rw [htk] at htk2
          refine run_sound Try.func10 mixed 200 _ _ (by kernel_rfl) ?_
          simp only [go_sem, seval, hlt2, idx_of hri, idx_of hrk, hA, hike, htk2, tkD_len]
          repeat' (first
           | ((first | (refine br_n (fun hq => ?_) (fun hq => ?_)) | (refine idx_intro (fun x hx => have hq := hx; ?_))) <;> (try simp only [go_sem, seval, hlt2, idx_of hri, idx_of hrk, hA, hike, htk2, tkD_len, hq]))
           | (simp (disch := omega) only [wrap_ok])
           | ((first
            | (refine (l02Has_fn _ _).calls rfl ?_)
            | (refine (sProgramOk_fn _ sd).calls rfl ?_)
            | (refine ⟨sd, ?_⟩)
            | (refine ⟨by assumption, ?_⟩)) <;> (try simp only [go_sem, seval, hlt2, idx_of hri, idx_of hrk, hA, hike, htk2, tkD_len]))
           | assumption)
          try simp (disch := omega) only [wrap_ok]
          refine hnx2 (part, true) _ ⟨by dsimp only; rw [e2, filter_snoc, ← h1]; simp [cpM, hik, ha], by dsimp only; rw [e2, all_snoc, ← Bool.and_assoc, ← h2]; simp [cpM, hik, ha]⟩ (by refine ⟨by simp [mkS, intsD_append, intsD_one], by simp [mkS, intsD_append, intsD_one], by simp only [mkS, List.all_cons, List.all_nil, O.refsLt, C.refsLt, C.refsLt1, all_dmap]; first | done | rfl | (simp; done), ?_⟩; simp [mkS, Abs.get, C.refsLtT, C.refsLt, C.refsLt1])
         | false =>
          rw [htk] at htk2
          refine run_sound Try.func10 mixed 200 _ _ (by kernel_rfl) ?_
          simp only [go_sem, seval, hlt2, idx_of hri, idx_of hrk, hA, hike, htk2, tkD_len]
          repeat' (first
           | ((first | (refine br_n (fun hq => ?_) (fun hq => ?_)) | (refine idx_intro (fun x hx => have hq := hx; ?_))) <;> (try simp only [go_sem, seval, hlt2, idx_of hri, idx_of hrk, hA, hike, htk2, tkD_len, hq]))
           | (simp (disch := omega) only [wrap_ok])
           | ((first
            | (refine (l02Has_fn _ _).calls rfl ?_)
            | (refine (sProgramOk_fn _ sd).calls rfl ?_)
            | (refine ⟨sd, ?_⟩)
            | (refine ⟨by assumption, ?_⟩)) <;> (try simp only [go_sem, seval, hlt2, idx_of hri, idx_of hrk, hA, hike, htk2, tkD_len]))
           | assumption)
          try simp (disch := omega) only [wrap_ok]
          refine hnx2 (part, true) _ ⟨by dsimp only; rw [e2, filter_snoc, ← h1]; simp [cpM, hik, ha], by dsimp only; rw [e2, all_snoc, ← Bool.and_assoc, ← h2]; simp [cpM, hik, ha]⟩ (by refine ⟨by simp [mkS, intsD_append, intsD_one], by simp [mkS, intsD_append, intsD_one], by simp only [mkS, List.all_cons, List.all_nil, O.refsLt, C.refsLt, C.refsLt1, all_dmap]; first | done | rfl | (simp; done), ?_⟩; simp [mkS, Abs.get, C.refsLtT, C.refsLt, C.refsLt1])
       | true =>
        rw [ha] at hA
        cases hb2 : rc M i2 i with
        | true =>
         rw [hb2] at hB
         cases fr with
         | false =>
          refine run_sound Try.func10 mixed 200 _ _ (by kernel_rfl) ?_
          simp only [go_sem, seval, hlt2, idx_of hri, idx_of hrk, hA, hB, hike, htk2, tkD_len]
          repeat' (first
           | ((first | (refine br_n (fun hq => ?_) (fun hq => ?_)) | (refine idx_intro (fun x hx => have hq := hx; ?_))) <;> (try simp only [go_sem, seval, hlt2, idx_of hri, idx_of hrk, hA, hB, hike, htk2, tkD_len, hq]))
           | (simp (disch := omega) only [wrap_ok])
           | ((first
            | (refine (l02Has_fn _ _).calls rfl ?_)
            | (refine (sProgramOk_fn _ sd).calls rfl ?_)
            | (refine ⟨sd, ?_⟩)
            | (refine ⟨by assumption, ?_⟩)) <;> (try simp only [go_sem, seval, hlt2, idx_of hri, idx_of hrk, hA, hB, hike, htk2, tkD_len]))
           | assumption)
          try simp (disch := omega) only [wrap_ok]
          refine hnx2 (part ++ [(i2 : Int)], false) _ ⟨by dsimp only; rw [e2, filter_snoc, ← h1]; simp [cpM, hik, ha, hb2], by dsimp only; rw [e2, all_snoc, ← Bool.and_assoc, ← h2]; simp [cpM, hik, ha, hb2]⟩ (by refine ⟨by simp [mkS, intsD_append, intsD_one], by simp [mkS, intsD_append, intsD_one], by simp only [mkS, List.all_cons, List.all_nil, O.refsLt, C.refsLt, C.refsLt1, all_dmap]; first | done | rfl | (simp; done), ?_⟩; simp [mkS, Abs.get, C.refsLtT, C.refsLt, C.refsLt1])
         | true =>
          refine run_sound Try.func10 mixed 200 _ _ (by kernel_rfl) ?_
          simp only [go_sem, seval, hlt2, idx_of hri, idx_of hrk, hA, hB, hike, htk2, tkD_len]
          repeat' (first
           | ((first | (refine br_n (fun hq => ?_) (fun hq => ?_)) | (refine idx_intro (fun x hx => have hq := hx; ?_))) <;> (try simp only [go_sem, seval, hlt2, idx_of hri, idx_of hrk, hA, hB, hike, htk2, tkD_len, hq]))
           | (simp (disch := omega) only [wrap_ok])
           | ((first
            | (refine (l02Has_fn _ _).calls rfl ?_)
            | (refine (sProgramOk_fn _ sd).calls rfl ?_)
            | (refine ⟨sd, ?_⟩)
            | (refine ⟨by assumption, ?_⟩)) <;> (try simp only [go_sem, seval, hlt2, idx_of hri, idx_of hrk, hA, hB, hike, htk2, tkD_len]))
           | assumption)
          try simp (disch := omega) only [wrap_ok]
          refine hnx2 (part ++ [(i2 : Int)], true) _ ⟨by dsimp only; rw [e2, filter_snoc, ← h1]; simp [cpM, hik, ha, hb2], by dsimp only; rw [e2, all_snoc, ← Bool.and_assoc, ← h2]; simp [cpM, hik, ha, hb2]⟩ (by refine ⟨by simp [mkS, intsD_append, intsD_one], by simp [mkS, intsD_append, intsD_one], by simp only [mkS, List.all_cons, List.all_nil, O.refsLt, C.refsLt, C.refsLt1, all_dmap]; first | done | rfl | (simp; done), ?_⟩; simp [mkS, Abs.get, C.refsLtT, C.refsLt, C.refsLt1])
        | false =>
         rw [hb2] at hB
         cases fr with
         | false =>
          refine run_sound Try.func10 mixed 200 _ _ (by kernel_rfl) ?_
          simp only [go_sem, seval, hlt2, idx_of hri, idx_of hrk, hA, hB, hike, htk2, tkD_len]
          repeat' (first
           | ((first | (refine br_n (fun hq => ?_) (fun hq => ?_)) | (refine idx_intro (fun x hx => have hq := hx; ?_))) <;> (try simp only [go_sem, seval, hlt2, idx_of hri, idx_of hrk, hA, hB, hike, htk2, tkD_len, hq]))
           | (simp (disch := omega) only [wrap_ok])
           | ((first
            | (refine (l02Has_fn _ _).calls rfl ?_)
            | (refine (sProgramOk_fn _ sd).calls rfl ?_)
            | (refine ⟨sd, ?_⟩)
            | (refine ⟨by assumption, ?_⟩)) <;> (try simp only [go_sem, seval, hlt2, idx_of hri, idx_of hrk, hA, hB, hike, htk2, tkD_len]))
           | assumption)
          try simp (disch := omega) only [wrap_ok]
          refine hnx2 (part, false) _ ⟨by dsimp only; rw [e2, filter_snoc, ← h1]; simp [cpM, hik, ha, hb2], by dsimp only; rw [e2, all_snoc, ← Bool.and_assoc, ← h2]; simp [cpM, hik, ha, hb2]⟩ (by refine ⟨by simp [mkS, intsD_append, intsD_one], by simp [mkS, intsD_append, intsD_one], by simp only [mkS, List.all_cons, List.all_nil, O.refsLt, C.refsLt, C.refsLt1, all_dmap]; first | done | rfl | (simp; done), ?_⟩; simp [mkS, Abs.get, C.refsLtT, C.refsLt, C.refsLt1])
         | true =>
          cases htk : t (i2 : Int) with
          | true =>
           rw [htk] at htk2
           refine run_sound Try.func10 mixed 200 _ _ (by kernel_rfl) ?_
           simp only [go_sem, seval, hlt2, idx_of hri, idx_of hrk, hA, hB, hike, htk2, tkD_len]
           repeat' (first
            | ((first | (refine br_n (fun hq => ?_) (fun hq => ?_)) | (refine idx_intro (fun x hx => have hq := hx; ?_))) <;> (try simp only [go_sem, seval, hlt2, idx_of hri, idx_of hrk, hA, hB, hike, htk2, tkD_len, hq]))
            | (simp (disch := omega) only [wrap_ok])
            | ((first
             | (refine (l02Has_fn _ _).calls rfl ?_)
             | (refine (sProgramOk_fn _ sd).calls rfl ?_)
             | (refine ⟨sd, ?_⟩)
             | (refine ⟨by assumption, ?_⟩)) <;> (try simp only [go_sem, seval, hlt2, idx_of hri, idx_of hrk, hA, hB, hike, htk2, tkD_len]))
            | assumption)
           try simp (disch := omega) only [wrap_ok]
           refine hnx2 (part, true) _ ⟨by dsimp only; rw [e2, filter_snoc, ← h1]; simp [cpM, hik, ha, hb2, htk], by dsimp only; rw [e2, all_snoc, ← Bool.and_assoc, ← h2]; simp [cpM, hik, ha, hb2, htk]⟩ (by refine ⟨by simp [mkS, intsD_append, intsD_one], by simp [mkS, intsD_append, intsD_one], by simp only [mkS, List.all_cons, List.all_nil, O.refsLt, C.refsLt, C.refsLt1, all_dmap]; first | done | rfl | (simp; done), ?_⟩; simp [mkS, Abs.get, C.refsLtT, C.refsLt, C.refsLt1])
          | false =>
           rw [htk] at htk2
           refine run_sound Try.func10 mixed 200 _ _ (by kernel_rfl) ?_
           simp only [go_sem, seval, hlt2, idx_of hri, idx_of hrk, hA, hB, hike, htk2, tkD_len]
           repeat' (first
            | ((first | (refine br_n (fun hq => ?_) (fun hq => ?_)) | (refine idx_intro (fun x hx => have hq := hx; ?_))) <;> (try simp only [go_sem, seval, hlt2, idx_of hri, idx_of hrk, hA, hB, hike, htk2, tkD_len, hq]))
            | (simp (disch := omega) only [wrap_ok])
            | ((first
             | (refine (l02Has_fn _ _).calls rfl ?_)
             | (refine (sProgramOk_fn _ sd).calls rfl ?_)
             | (refine ⟨sd, ?_⟩)
             | (refine ⟨by assumption, ?_⟩)) <;> (try simp only [go_sem, seval, hlt2, idx_of hri, idx_of hrk, hA, hB, hike, htk2, tkD_len]))
            | assumption)
           try simp (disch := omega) only [wrap_ok]
           refine hnx2 (part, false) _ ⟨by dsimp only; rw [e2, filter_snoc, ← h1]; simp [cpM, hik, ha, hb2, htk], by dsimp only; rw [e2, all_snoc, ← Bool.and_assoc, ← h2]; simp [cpM, hik, ha, hb2, htk]⟩ (by refine ⟨by simp [mkS, intsD_append, intsD_one], by simp [mkS, intsD_append, intsD_one], by simp only [mkS, List.all_cons, List.all_nil, O.refsLt, C.refsLt, C.refsLt1, all_dmap]; first | done | rfl | (simp; done), ?_⟩; simp [mkS, Abs.get, C.refsLtT, C.refsLt, C.refsLt1])
     ·obtain ⟨part, fr⟩ := u
      obtain ⟨h1, h2⟩ := hinv2
      dsimp only at h1 h2 hnx ⊢
      simp only [List.length_nil, Nat.sub_zero] at h1 h2
      have h1 : part = cpC M i := h1
      have hfr : (decide (b = []) && cpFree M t i) = fr := by
       rw [h2, hfr0]
       unfold cpFree
       cases t (i : Int) <;> cases decide (b = []) <;> rfl
      cases fr with
      | false =>
       refine run_sound Try.func10 mixed 200 _ _ (by kernel_rfl) ?_
       simp only [go_sem, seval]
       repeat' (first
        | ((first | (refine br_n (fun hq => ?_) (fun hq => ?_)) | (refine idx_intro (fun x hx => have hq := hx; ?_))) <;> (try simp only [go_sem, seval, hq]))
        | (simp (disch := omega) only [wrap_ok])
        | ((first
         | (refine (l02Has_fn _ _).calls rfl ?_)
         | (refine (sProgramOk_fn _ sd).calls rfl ?_)
         | (refine ⟨sd, ?_⟩)
         | (refine ⟨by assumption, ?_⟩)) <;> (try simp only [go_sem, seval]))
        | assumption)
       try simp (disch := omega) only [wrap_ok]
       refine hnx b _ ?_ (by refine ⟨by simp [mkS, hbn], by simp [mkS, hbn], by simp only [mkS, List.all_cons, List.all_nil, O.refsLt, C.refsLt, C.refsLt1, all_dmap]; first | done | rfl | (simp; done), ?_⟩; simp [mkS, Abs.get, C.refsLtT, C.refsLt, C.refsLt1, hbn])
       rcases hinv with ⟨hb', hv⟩ | hv
       ·refine .inl ⟨hb', hstep ?_ hb'⟩
        simpa [hb'] using hfr
       ·exact .inr hv
      | true =>
       simp only [Bool.and_eq_true, decide_eq_true_eq] at hfr
       obtain ⟨hb', hfr⟩ := hfr
       have hnt := cpNext_at hi hfr (fun j hj => by
        rcases hinv with ⟨_, hv⟩ | ⟨i', h0, hbc⟩
        ·exact hv j (by simp only [List.length_cons]; omega)
        ·have hr := cpNext_some h0
         have := cpC_self hr.1
         rw [← hbc, hb'] at this
         cases this)
       refine AW.readG 8 3 rfl rfl ?_
       refine run_sound Try.func10 mixed 200 _ _ (by kernel_rfl) ?_
       simp only [go_sem, seval]
       repeat' (first
        | ((first | (refine br_n (fun hq => ?_) (fun hq => ?_)) | (refine idx_intro (fun x hx => have hq := hx; ?_))) <;> (try simp only [go_sem, seval, hq]))
        | (simp (disch := omega) only [wrap_ok])
        | ((first
         | (refine (l02Has_fn _ _).calls rfl ?_)
         | (refine (sProgramOk_fn _ sd).calls rfl ?_)
         | (refine ⟨sd, ?_⟩)
         | (refine ⟨by assumption, ?_⟩)) <;> (try simp only [go_sem, seval]))
        | assumption)
       try simp (disch := omega) only [wrap_ok]
       refine hnx part _ (.inr ⟨i, hnt, h1⟩) (by refine ⟨by simp [mkS], by simp [mkS], by simp only [mkS, List.all_cons, List.all_nil, O.refsLt, C.refsLt, C.refsLt1, all_dmap]; first | done | rfl | (simp; done), ?_⟩; simp [mkS, Abs.get, C.refsLtT, C.refsLt, C.refsLt1])
    | false =>
     rw [hti] at htk
     by_cases hb : b = []
     ·have hbn : intsD b = [] := by rw [hb]; rfl
      have hfr0 : true = (!t i && decide (b = [])) := by rw [hti]; simp [hb]
      refine run_sound Try.func10 mixed 14 _ _ (by kernel_rfl) ?_
      simp only [go_sem, seval, run.eq_1, hlt, tkD_len, htk, hbn, List.length_nil]
      repeat' (first
       | ((first | (refine br_n (fun hq => ?_) (fun hq => ?_)) | (refine idx_intro (fun x hx => have hq := hx; ?_))) <;> (try simp only [go_sem, seval, hlt, tkD_len, htk, hbn, List.length_nil, run.eq_1, hq]))
       | (simp (disch := omega) only [wrap_ok])
       | ((first
        | (refine (l02Has_fn _ _).calls rfl ?_)
        | (refine (sProgramOk_fn _ sd).calls rfl ?_)
        | (refine ⟨sd, ?_⟩)
        | (refine ⟨by assumption, ?_⟩)) <;> (try simp only [go_sem, seval, hlt, tkD_len, htk, hbn, List.length_nil, run.eq_1]))
       | assumption)
      refine AW.adopt 8 1 3 (by decide) rfl ?_
      refine run_sound Try.func10 mixed 5 _ _ (by kernel_rfl) ?_
      simp only [go_sem, seval, run.eq_1]
      repeat' (first
       | ((first | (refine br_n (fun hq => ?_) (fun hq => ?_)) | (refine idx_intro (fun x hx => have hq := hx; ?_))) <;> (try simp only [go_sem, seval, run.eq_1, hq]))
       | (simp (disch := omega) only [wrap_ok])
       | ((first
        | (refine (l02Has_fn _ _).calls rfl ?_)
        | (refine (sProgramOk_fn _ sd).calls rfl ?_)
        | (refine ⟨sd, ?_⟩)
        | (refine ⟨by assumption, ?_⟩)) <;> (try simp only [go_sem, seval, run.eq_1]))
       | assumption)
      refine AW.rng p.rels [1, 3, 4, 5, 6, 7, 26, 27, 32, 33, 49] 50 48 (fun u : List Int × Bool => [(8, .own 3 u.1.length), (9, .d (.bool u.2))]) (fun _ u => [.box (p.enc.map .d), .row 1 4 (tkD p.rels.length t), .grow out.length 1 42 (out.map encI2), .grow u.1.length 1 3 (intsD u.1)]) (fun r2 u => u.1 = (rngI (M.length - r2.length)).filter (cpM M i) ∧ u.2 = (true && (rngI (M.length - r2.length)).all fun k => cpM M i k || t k || !rc M i k)) ([], true) rfl (by simp) ⟨by rw [← hcl]; simp [rngI], by rw [← hcl]; simp [rngI]⟩ (by refine ⟨by simp [mkS, intsD_nl2], by simp [mkS, intsD_nl2], by simp only [mkS, List.all_cons, List.all_nil, O.refsLt, C.refsLt, C.refsLt1, all_dmap]; first | done | rfl | (simp; done), ?_⟩; simp [mkS, Abs.get, C.refsLtT, C.refsLt, C.refsLt1]) (fun i2 x2 r2 u hxi2 hdr2 hlt2 hm2 hinv2 hnx2 => ?_) (fun u hinv2 => ?_)
      ·obtain ⟨part, fr⟩ := u
       obtain ⟨h1, h2⟩ := hinv2
       dsimp only at h1 h2 hnx2 ⊢
       have hrl2 := congrArg List.length hdr2
       simp only [List.length_drop, List.length_cons] at hrl2 h1 h2
       have e1 : M.length - (r2.length + 1) = i2 := by omega
       have e2 : M.length - r2.length = i2 + 1 := by omega
       rw [e1] at h1 h2
       have hi2 : i2 < M.length := by omega
       have hpl : part.length ≤ 8 := by
        rw [h1]
        have := List.length_filter_le (cpM M i) (rngI i2)
        rw [rngI_len] at this
        omega
       have htk2 := tkD_at (t := t) (show i2 < p.rels.length by omega)
       have hrk := hrow i2 hi2
       have hA := hrc i i2 hi
       have hB := hrc i2 i hi2
       by_cases hik : (i2 : Int) = i
       ·have hiN : i2 = i := by omega
        subst hiN
        have h7 : decide ((i2 : Int) = i2) = true := by simp
        cases fr with
        | false =>
         refine run_sound Try.func10 mixed 200 _ _ (by kernel_rfl) ?_
         simp only [go_sem, seval, hlt2, idx_of hri, htk2, tkD_len]
         repeat' (first
          | ((first | (refine br_n (fun hq => ?_) (fun hq => ?_)) | (refine idx_intro (fun x hx => have hq := hx; ?_))) <;> (try simp only [go_sem, seval, hlt2, idx_of hri, htk2, tkD_len, hq]))
          | (simp (disch := omega) only [wrap_ok])
          | ((first
           | (refine (l02Has_fn _ _).calls rfl ?_)
           | (refine (sProgramOk_fn _ sd).calls rfl ?_)
           | (refine ⟨sd, ?_⟩)
           | (refine ⟨by assumption, ?_⟩)) <;> (try simp only [go_sem, seval, hlt2, idx_of hri, htk2, tkD_len]))
          | assumption)
         try simp (disch := omega) only [wrap_ok]
         refine hnx2 (part ++ [(i2 : Int)], false) _ ⟨by dsimp only; rw [e2, filter_snoc, ← h1]; simp [cpM, h7], by dsimp only; rw [e2, all_snoc, ← Bool.and_assoc, ← h2]; simp [cpM, h7]⟩ (by refine ⟨by simp [mkS, intsD_append, intsD_one], by simp [mkS, intsD_append, intsD_one], by simp only [mkS, List.all_cons, List.all_nil, O.refsLt, C.refsLt, C.refsLt1, all_dmap]; first | done | rfl | (simp; done), ?_⟩; simp [mkS, Abs.get, C.refsLtT, C.refsLt, C.refsLt1])
        | true =>
         refine run_sound Try.func10 mixed 200 _ _ (by kernel_rfl) ?_
         simp only [go_sem, seval, hlt2, idx_of hri, htk2, tkD_len]
         repeat' (first
          | ((first | (refine br_n (fun hq => ?_) (fun hq => ?_)) | (refine idx_intro (fun x hx => have hq := hx; ?_))) <;> (try simp only [go_sem, seval, hlt2, idx_of hri, htk2, tkD_len, hq]))
          | (simp (disch := omega) only [wrap_ok])
          | ((first
           | (refine (l02Has_fn _ _).calls rfl ?_)
           | (refine (sProgramOk_fn _ sd).calls rfl ?_)
           | (refine ⟨sd, ?_⟩)
           | (refine ⟨by assumption, ?_⟩)) <;> (try simp only [go_sem, seval, hlt2, idx_of hri, htk2, tkD_len]))
          | assumption)
         try simp (disch := omega) only [wrap_ok]
         refine hnx2 (part ++ [(i2 : Int)], true) _ ⟨by dsimp only; rw [e2, filter_snoc, ← h1]; simp [cpM, h7], by dsimp only; rw [e2, all_snoc, ← Bool.and_assoc, ← h2]; simp [cpM, h7]⟩ (by refine ⟨by simp [mkS, intsD_append, intsD_one], by simp [mkS, intsD_append, intsD_one], by simp only [mkS, List.all_cons, List.all_nil, O.refsLt, C.refsLt, C.refsLt1, all_dmap]; first | done | rfl | (simp; done), ?_⟩; simp [mkS, Abs.get, C.refsLtT, C.refsLt, C.refsLt1])
       ·have hike : decide ((i2 : Int) = i) = false := by simp [hik]
        cases ha : rc M i i2 with
        | false =>
         rw [ha] at hA
         cases fr with
         | false =>
          refine run_sound Try.func10 mixed 200 _ _ (by kernel_rfl) ?_
          simp only [go_sem, seval, hlt2, idx_of hri, idx_of hrk, hA, hike, htk2, tkD_len]
          repeat' (first
           | ((first | (refine br_n (fun hq => ?_) (fun hq => ?_)) | (refine idx_intro (fun x hx => have hq := hx; ?_))) <;> (try simp only [go_sem, seval, hlt2, idx_of hri, idx_of hrk, hA, hike, htk2, tkD_len, hq]))
           | (simp (disch := omega) only [wrap_ok])
           | ((first
            | (refine (l02Has_fn _ _).calls rfl ?_)
            | (refine (sProgramOk_fn _ sd).calls rfl ?_)
            | (refine ⟨sd, ?_⟩)
            | (refine ⟨by assumption, ?_⟩)) <;> (try simp only [go_sem, seval, hlt2, idx_of hri, idx_of hrk, hA, hike, htk2, tkD_len]))
           | assumption)
          try simp (disch := omega) only [wrap_ok]
          refine hnx2 (part, false) _ ⟨by dsimp only; rw [e2, filter_snoc, ← h1]; simp [cpM, hik, ha], by dsimp only; rw [e2, all_snoc, ← Bool.and_assoc, ← h2]; simp [cpM, hik, ha]⟩ (by refine ⟨by simp [mkS, intsD_append, intsD_one], by simp [mkS, intsD_append, intsD_one], by simp only [mkS, List.all_cons, List.all_nil, O.refsLt, C.refsLt, C.refsLt1, all_dmap]; first | done | rfl | (simp; done), ?_⟩; simp [mkS, Abs.get, C.refsLtT, C.refsLt, C.refsLt1])
         | true =>
          cases htk : t (i2 : Int) with
          | true =>
           rw [htk] at htk2
           refine run_sound Try.func10 mixed 200 _ _ (by kernel_rfl) ?_
           simp only [go_sem, seval, hlt2, idx_of hri, idx_of hrk, hA, hike, htk2, tkD_len]
           repeat' (first
            | ((first | (refine br_n (fun hq => ?_) (fun hq => ?_)) | (refine idx_intro (fun x hx => have hq := hx; ?_))) <;> (try simp only [go_sem, seval, hlt2, idx_of hri, idx_of hrk, hA, hike, htk2, tkD_len, hq]))
            | (simp (disch := omega) only [wrap_ok])
            | ((first
             | (refine (l02Has_fn _ _).calls rfl ?_)
             | (refine (sProgramOk_fn _ sd).calls rfl ?_)
             | (refine ⟨sd, ?_⟩)
             | (refine ⟨by assumption, ?_⟩)) <;> (try simp only [go_sem, seval, hlt2, idx_of hri, idx_of hrk, hA, hike, htk2, tkD_len]))
            | assumption)
           try simp (disch := omega) only [wrap_ok]
           refine hnx2 (part, true) _ ⟨by dsimp only; rw [e2, filter_snoc, ← h1]; simp [cpM, hik, ha], by dsimp only; rw [e2, all_snoc, ← Bool.and_assoc, ← h2]; simp [cpM, hik, ha]⟩ (by refine ⟨by simp [mkS, intsD_append, intsD_one], by simp [mkS, intsD_append, intsD_one], by simp only [mkS, List.all_cons, List.all_nil, O.refsLt, C.refsLt, C.refsLt1, all_dmap]; first | done | rfl | (simp; done), ?_⟩; simp [mkS, Abs.get, C.refsLtT, C.refsLt, C.refsLt1])
          | false =>
           rw [htk] at htk2
           refine run_sound Try.func10 mixed 200 _ _ (by kernel_rfl) ?_
           simp only [go_sem, seval, hlt2, idx_of hri, idx_of hrk, hA, hike, htk2, tkD_len]
           repeat' (first
            | ((first | (refine br_n (fun hq => ?_) (fun hq => ?_)) | (refine idx_intro (fun x hx => have hq := hx; ?_))) <;> (try simp only [go_sem, seval, hlt2, idx_of hri, idx_of hrk, hA, hike, htk2, tkD_len, hq]))
            | (simp (disch := omega) only [wrap_ok])
            | ((first
             | (refine (l02Has_fn _ _).calls rfl ?_)
             | (refine (sProgramOk_fn _ sd).calls rfl ?_)
             | (refine ⟨sd, ?_⟩)
             | (refine ⟨by assumption, ?_⟩)) <;> (try simp only [go_sem, seval, hlt2, idx_of hri, idx_of hrk, hA, hike, htk2, tkD_len]))
            | assumption)
           try simp (disch := omega) only [wrap_ok]
           refine hnx2 (part, true) _ ⟨by dsimp only; rw [e2, filter_snoc, ← h1]; simp [cpM, hik, ha], by dsimp only; rw [e2, all_snoc, ← Bool.and_assoc, ← h2]; simp [cpM, hik, ha]⟩ (by refine ⟨by simp [mkS, intsD_append, intsD_one], by simp [mkS, intsD_append, intsD_one], by simp only [mkS, List.all_cons, List.all_nil, O.refsLt, C.refsLt, C.refsLt1, all_dmap]; first | done | rfl | (simp; done), ?_⟩; simp [mkS, Abs.get, C.refsLtT, C.refsLt, C.refsLt1])
        | true =>
         rw [ha] at hA
         cases hb2 : rc M i2 i with
         | true =>
          rw [hb2] at hB
          cases fr with
          | false =>
           refine run_sound Try.func10 mixed 200 _ _ (by kernel_rfl) ?_
           simp only [go_sem, seval, hlt2, idx_of hri, idx_of hrk, hA, hB, hike, htk2, tkD_len]
           repeat' (first
            | ((first | (refine br_n (fun hq => ?_) (fun hq => ?_)) | (refine idx_intro (fun x hx => have hq := hx; ?_))) <;> (try simp only [go_sem, seval, hlt2, idx_of hri, idx_of hrk, hA, hB, hike, htk2, tkD_len, hq]))
            | (simp (disch := omega) only [wrap_ok])
            | ((first
             | (refine (l02Has_fn _ _).calls rfl ?_)
             | (refine (sProgramOk_fn _ sd).calls rfl ?_)
             | (refine ⟨sd, ?_⟩)
             | (refine ⟨by assumption, ?_⟩)) <;> (try simp only [go_sem, seval, hlt2, idx_of hri, idx_of hrk, hA, hB, hike, htk2, tkD_len]))
            | assumption)
           try simp (disch := omega) only [wrap_ok]
           refine hnx2 (part ++ [(i2 : Int)], false) _ ⟨by dsimp only; rw [e2, filter_snoc, ← h1]; simp [cpM, hik, ha, hb2], by dsimp only; rw [e2, all_snoc, ← Bool.and_assoc, ← h2]; simp [cpM, hik, ha, hb2]⟩ (by refine ⟨by simp [mkS, intsD_append, intsD_one], by simp [mkS, intsD_append, intsD_one], by simp only [mkS, List.all_cons, List.all_nil, O.refsLt, C.refsLt, C.refsLt1, all_dmap]; first | done | rfl | (simp; done), ?_⟩; simp [mkS, Abs.get, C.refsLtT, C.refsLt, C.refsLt1])
          | true =>
           refine run_sound Try.func10 mixed 200 _ _ (by kernel_rfl) ?_
           simp only [go_sem, seval, hlt2, idx_of hri, idx_of hrk, hA, hB, hike, htk2, tkD_len]
           repeat' (first
            | ((first | (refine br_n (fun hq => ?_) (fun hq => ?_)) | (refine idx_intro (fun x hx => have hq := hx; ?_))) <;> (try simp only [go_sem, seval, hlt2, idx_of hri, idx_of hrk, hA, hB, hike, htk2, tkD_len, hq]))
            | (simp (disch := omega) only [wrap_ok])
            | ((first
             | (refine (l02Has_fn _ _).calls rfl ?_)
             | (refine (sProgramOk_fn _ sd).calls rfl ?_)
             | (refine ⟨sd, ?_⟩)
             | (refine ⟨by assumption, ?_⟩)) <;> (try simp only [go_sem, seval, hlt2, idx_of hri, idx_of hrk, hA, hB, hike, htk2, tkD_len]))
            | assumption)
           try simp (disch := omega) only [wrap_ok]
           refine hnx2 (part ++ [(i2 : Int)], true) _ ⟨by dsimp only; rw [e2, filter_snoc, ← h1]; simp [cpM, hik, ha, hb2], by dsimp only; rw [e2, all_snoc, ← Bool.and_assoc, ← h2]; simp [cpM, hik, ha, hb2]⟩ (by refine ⟨by simp [mkS, intsD_append, intsD_one], by simp [mkS, intsD_append, intsD_one], by simp only [mkS, List.all_cons, List.all_nil, O.refsLt, C.refsLt, C.refsLt1, all_dmap]; first | done | rfl | (simp; done), ?_⟩; simp [mkS, Abs.get, C.refsLtT, C.refsLt, C.refsLt1])
         | false =>
          rw [hb2] at hB
          cases fr with
          | false =>
           refine run_sound Try.func10 mixed 200 _ _ (by kernel_rfl) ?_
           simp only [go_sem, seval, hlt2, idx_of hri, idx_of hrk, hA, hB, hike, htk2, tkD_len]
           repeat' (first
            | ((first | (refine br_n (fun hq => ?_) (fun hq => ?_)) | (refine idx_intro (fun x hx => have hq := hx; ?_))) <;> (try simp only [go_sem, seval, hlt2, idx_of hri, idx_of hrk, hA, hB, hike, htk2, tkD_len, hq]))
            | (simp (disch := omega) only [wrap_ok])
            | ((first
             | (refine (l02Has_fn _ _).calls rfl ?_)
             | (refine (sProgramOk_fn _ sd).calls rfl ?_)
             | (refine ⟨sd, ?_⟩)
             | (refine ⟨by assumption, ?_⟩)) <;> (try simp only [go_sem, seval, hlt2, idx_of hri, idx_of hrk, hA, hB, hike, htk2, tkD_len]))
            | assumption)
           try simp (disch := omega) only [wrap_ok]
           refine hnx2 (part, false) _ ⟨by dsimp only; rw [e2, filter_snoc, ← h1]; simp [cpM, hik, ha, hb2], by dsimp only; rw [e2, all_snoc, ← Bool.and_assoc, ← h2]; simp [cpM, hik, ha, hb2]⟩ (by refine ⟨by simp [mkS, intsD_append, intsD_one], by simp [mkS, intsD_append, intsD_one], by simp only [mkS, List.all_cons, List.all_nil, O.refsLt, C.refsLt, C.refsLt1, all_dmap]; first | done | rfl | (simp; done), ?_⟩; simp [mkS, Abs.get, C.refsLtT, C.refsLt, C.refsLt1])
          | true =>
           cases htk : t (i2 : Int) with
           | true =>
            rw [htk] at htk2
            refine run_sound Try.func10 mixed 200 _ _ (by kernel_rfl) ?_
            simp only [go_sem, seval, hlt2, idx_of hri, idx_of hrk, hA, hB, hike, htk2, tkD_len]
            repeat' (first
             | ((first | (refine br_n (fun hq => ?_) (fun hq => ?_)) | (refine idx_intro (fun x hx => have hq := hx; ?_))) <;> (try simp only [go_sem, seval, hlt2, idx_of hri, idx_of hrk, hA, hB, hike, htk2, tkD_len, hq]))
             | (simp (disch := omega) only [wrap_ok])
             | ((first
              | (refine (l02Has_fn _ _).calls rfl ?_)
              | (refine (sProgramOk_fn _ sd).calls rfl ?_)
              | (refine ⟨sd, ?_⟩)
              | (refine ⟨by assumption, ?_⟩)) <;> (try simp only [go_sem, seval, hlt2, idx_of hri, idx_of hrk, hA, hB, hike, htk2, tkD_len]))
             | assumption)
            try simp (disch := omega) only [wrap_ok]
            refine hnx2 (part, true) _ ⟨by dsimp only; rw [e2, filter_snoc, ← h1]; simp [cpM, hik, ha, hb2, htk], by dsimp only; rw [e2, all_snoc, ← Bool.and_assoc, ← h2]; simp [cpM, hik, ha, hb2, htk]⟩ (by refine ⟨by simp [mkS, intsD_append, intsD_one], by simp [mkS, intsD_append, intsD_one], by simp only [mkS, List.all_cons, List.all_nil, O.refsLt, C.refsLt, C.refsLt1, all_dmap]; first | done | rfl | (simp; done), ?_⟩; simp [mkS, Abs.get, C.refsLtT, C.refsLt, C.refsLt1])
           | false =>
            rw [htk] at htk2
            refine run_sound Try.func10 mixed 200 _ _ (by kernel_rfl) ?_
            simp only [go_sem, seval, hlt2, idx_of hri, idx_of hrk, hA, hB, hike, htk2, tkD_len]
            repeat' (first
             | ((first | (refine br_n (fun hq => ?_) (fun hq => ?_)) | (refine idx_intro (fun x hx => have hq := hx; ?_))) <;> (try simp only [go_sem, seval, hlt2, idx_of hri, idx_of hrk, hA, hB, hike, htk2, tkD_len, hq]))
             | (simp (disch := omega) only [wrap_ok])
             | ((first
              | (refine (l02Has_fn _ _).calls rfl ?_)
              | (refine (sProgramOk_fn _ sd).calls rfl ?_)
              | (refine ⟨sd, ?_⟩)
              | (refine ⟨by assumption, ?_⟩)) <;> (try simp only [go_sem, seval, hlt2, idx_of hri, idx_of hrk, hA, hB, hike, htk2, tkD_len]))
             | assumption)
            try simp (disch := omega) only [wrap_ok]
            refine hnx2 (part, false) _ ⟨by dsimp only; rw [e2, filter_snoc, ← h1]; simp [cpM, hik, ha, hb2, htk], by dsimp only; rw [e2, all_snoc, ← Bool.and_assoc, ← h2]; simp [cpM, hik, ha, hb2, htk]⟩ (by refine ⟨by simp [mkS, intsD_append, intsD_one], by simp [mkS, intsD_append, intsD_one], by simp only [mkS, List.all_cons, List.all_nil, O.refsLt, C.refsLt, C.refsLt1, all_dmap]; first | done | rfl | (simp; done), ?_⟩; simp [mkS, Abs.get, C.refsLtT, C.refsLt, C.refsLt1])
      ·obtain ⟨part, fr⟩ := u
       obtain ⟨h1, h2⟩ := hinv2
       dsimp only at h1 h2 hnx ⊢
       simp only [List.length_nil, Nat.sub_zero] at h1 h2
       have h1 : part = cpC M i := h1
       have hfr : (decide (b = []) && cpFree M t i) = fr := by
        rw [h2, hfr0]
        unfold cpFree
        cases t (i : Int) <;> cases decide (b = []) <;> rfl
       cases fr with
       | false =>
        refine run_sound Try.func10 mixed 200 _ _ (by kernel_rfl) ?_
        simp only [go_sem, seval]
        repeat' (first
         | ((first | (refine br_n (fun hq => ?_) (fun hq => ?_)) | (refine idx_intro (fun x hx => have hq := hx; ?_))) <;> (try simp only [go_sem, seval, hq]))
         | (simp (disch := omega) only [wrap_ok])
         | ((first
          | (refine (l02Has_fn _ _).calls rfl ?_)
          | (refine (sProgramOk_fn _ sd).calls rfl ?_)
          | (refine ⟨sd, ?_⟩)
          | (refine ⟨by assumption, ?_⟩)) <;> (try simp only [go_sem, seval]))
         | assumption)
        try simp (disch := omega) only [wrap_ok]
        refine hnx b _ ?_ (by refine ⟨by simp [mkS, hbn], by simp [mkS, hbn], by simp only [mkS, List.all_cons, List.all_nil, O.refsLt, C.refsLt, C.refsLt1, all_dmap]; first | done | rfl | (simp; done), ?_⟩; simp [mkS, Abs.get, C.refsLtT, C.refsLt, C.refsLt1, hbn])
        rcases hinv with ⟨hb', hv⟩ | hv
        ·refine .inl ⟨hb', hstep ?_ hb'⟩
         simpa [hb'] using hfr
        ·exact .inr hv
       | true =>
        simp only [Bool.and_eq_true, decide_eq_true_eq] at hfr
        obtain ⟨hb', hfr⟩ := hfr
        have hnt := cpNext_at hi hfr (fun j hj => by
         rcases hinv with ⟨_, hv⟩ | ⟨i', h0, hbc⟩
         ·exact hv j (by simp only [List.length_cons]; omega)
         ·have hr := cpNext_some h0
          have := cpC_self hr.1
          rw [← hbc, hb'] at this
          cases this)
        refine AW.readG 8 3 rfl rfl ?_
        refine run_sound Try.func10 mixed 200 _ _ (by kernel_rfl) ?_
        simp only [go_sem, seval]
        repeat' (first
         | ((first | (refine br_n (fun hq => ?_) (fun hq => ?_)) | (refine idx_intro (fun x hx => have hq := hx; ?_))) <;> (try simp only [go_sem, seval, hq]))
         | (simp (disch := omega) only [wrap_ok])
         | ((first
          | (refine (l02Has_fn _ _).calls rfl ?_)
          | (refine (sProgramOk_fn _ sd).calls rfl ?_)
          | (refine ⟨sd, ?_⟩)
          | (refine ⟨by assumption, ?_⟩)) <;> (try simp only [go_sem, seval]))
         | assumption)
        try simp (disch := omega) only [wrap_ok]
        refine hnx part _ (.inr ⟨i, hnt, h1⟩) (by refine ⟨by simp [mkS], by simp [mkS], by simp only [mkS, List.all_cons, List.all_nil, O.refsLt, C.refsLt, C.refsLt1, all_dmap]; first | done | rfl | (simp; done), ?_⟩; simp [mkS, Abs.get, C.refsLtT, C.refsLt, C.refsLt1])
     ·have hb0 : ¬ ((b.length : Int) = 0) := by
       have := List.length_pos_iff.2 hb
       omega
      have hbn := intsD_len b
      have hfr0 : false = (!t i && decide (b = [])) := by rw [hti]; simp [hb]
      refine run_sound Try.func10 mixed 14 _ _ (by kernel_rfl) ?_
      simp only [go_sem, seval, run.eq_1, hlt, tkD_len, htk, hbn, hb0]
      repeat' (first
       | ((first | (refine br_n (fun hq => ?_) (fun hq => ?_)) | (refine idx_intro (fun x hx => have hq := hx; ?_))) <;> (try simp only [go_sem, seval, hlt, tkD_len, htk, hbn, hb0, run.eq_1, hq]))
       | (simp (disch := omega) only [wrap_ok])
       | ((first
        | (refine (l02Has_fn _ _).calls rfl ?_)
        | (refine (sProgramOk_fn _ sd).calls rfl ?_)
        | (refine ⟨sd, ?_⟩)
        | (refine ⟨by assumption, ?_⟩)) <;> (try simp only [go_sem, seval, hlt, tkD_len, htk, hbn, hb0, run.eq_1]))
       | assumption)
      refine AW.adopt 8 1 3 (by decide) rfl ?_
      refine run_sound Try.func10 mixed 5 _ _ (by kernel_rfl) ?_
      simp only [go_sem, seval, run.eq_1]
      repeat' (first
       | ((first | (refine br_n (fun hq => ?_) (fun hq => ?_)) | (refine idx_intro (fun x hx => have hq := hx; ?_))) <;> (try simp only [go_sem, seval, run.eq_1, hq]))
       | (simp (disch := omega) only [wrap_ok])
       | ((first
        | (refine (l02Has_fn _ _).calls rfl ?_)
        | (refine (sProgramOk_fn _ sd).calls rfl ?_)
        | (refine ⟨sd, ?_⟩)
        | (refine ⟨by assumption, ?_⟩)) <;> (try simp only [go_sem, seval, run.eq_1]))
       | assumption)
      refine AW.rng p.rels [1, 3, 4, 5, 6, 7, 26, 27, 32, 33, 49] 50 48 (fun u : List Int × Bool => [(8, .own 3 u.1.length), (9, .d (.bool u.2))]) (fun _ u => [.box (p.enc.map .d), .row 1 4 (tkD p.rels.length t), .grow out.length 1 42 (out.map encI2), .grow u.1.length 1 3 (intsD u.1)]) (fun r2 u => u.1 = (rngI (M.length - r2.length)).filter (cpM M i) ∧ u.2 = (false && (rngI (M.length - r2.length)).all fun k => cpM M i k || t k || !rc M i k)) ([], false) rfl (by simp) ⟨by rw [← hcl]; simp [rngI], by rw [← hcl]; simp [rngI]⟩ (by refine ⟨by simp [mkS, intsD_nl2], by simp [mkS, intsD_nl2], by simp only [mkS, List.all_cons, List.all_nil, O.refsLt, C.refsLt, C.refsLt1, all_dmap]; first | done | rfl | (simp; done), ?_⟩; simp [mkS, Abs.get, C.refsLtT, C.refsLt, C.refsLt1]) (fun i2 x2 r2 u hxi2 hdr2 hlt2 hm2 hinv2 hnx2 => ?_) (fun u hinv2 => ?_)
      ·obtain ⟨part, fr⟩ := u
       obtain ⟨h1, h2⟩ := hinv2
       dsimp only at h1 h2 hnx2 ⊢
       have hrl2 := congrArg List.length hdr2
       simp only [List.length_drop, List.length_cons] at hrl2 h1 h2
       have e1 : M.length - (r2.length + 1) = i2 := by omega
       have e2 : M.length - r2.length = i2 + 1 := by omega
       rw [e1] at h1 h2
       have hi2 : i2 < M.length := by omega
       have hpl : part.length ≤ 8 := by
        rw [h1]
        have := List.length_filter_le (cpM M i) (rngI i2)
        rw [rngI_len] at this
        omega
       have htk2 := tkD_at (t := t) (show i2 < p.rels.length by omega)
       have hrk := hrow i2 hi2
       have hA := hrc i i2 hi
       have hB := hrc i2 i hi2
       by_cases hik : (i2 : Int) = i
       ·have hiN : i2 = i := by omega
        subst hiN
        have h7 : decide ((i2 : Int) = i2) = true := by simp
        cases fr with
        | false =>
         refine run_sound Try.func10 mixed 200 _ _ (by kernel_rfl) ?_
         simp only [go_sem, seval, hlt2, idx_of hri, htk2, tkD_len]
         repeat' (first
          | ((first | (refine br_n (fun hq => ?_) (fun hq => ?_)) | (refine idx_intro (fun x hx => have hq := hx; ?_))) <;> (try simp only [go_sem, seval, hlt2, idx_of hri, htk2, tkD_len, hq]))
          | (simp (disch := omega) only [wrap_ok])
          | ((first
           | (refine (l02Has_fn _ _).calls rfl ?_)
           | (refine (sProgramOk_fn _ sd).calls rfl ?_)
           | (refine ⟨sd, ?_⟩)
           | (refine ⟨by assumption, ?_⟩)) <;> (try simp only [go_sem, seval, hlt2, idx_of hri, htk2, tkD_len]))
          | assumption)
         try simp (disch := omega) only [wrap_ok]
         refine hnx2 (part ++ [(i2 : Int)], false) _ ⟨by dsimp only; rw [e2, filter_snoc, ← h1]; simp [cpM, h7], by dsimp only; rw [e2, all_snoc, ← Bool.and_assoc, ← h2]; simp [cpM, h7]⟩ (by refine ⟨by simp [mkS, intsD_append, intsD_one], by simp [mkS, intsD_append, intsD_one], by simp only [mkS, List.all_cons, List.all_nil, O.refsLt, C.refsLt, C.refsLt1, all_dmap]; first | done | rfl | (simp; done), ?_⟩; simp [mkS, Abs.get, C.refsLtT, C.refsLt, C.refsLt1])
        | true =>
         refine run_sound Try.func10 mixed 200 _ _ (by kernel_rfl) ?_
         simp only [go_sem, seval, hlt2, idx_of hri, htk2, tkD_len]
         repeat' (first
          | ((first | (refine br_n (fun hq => ?_) (fun hq => ?_)) | (refine idx_intro (fun x hx => have hq := hx; ?_))) <;> (try simp only [go_sem, seval, hlt2, idx_of hri, htk2, tkD_len, hq]))
          | (simp (disch := omega) only [wrap_ok])
          | ((first
           | (refine (l02Has_fn _ _).calls rfl ?_)
           | (refine (sProgramOk_fn _ sd).calls rfl ?_)
           | (refine ⟨sd, ?_⟩)
           | (refine ⟨by assumption, ?_⟩)) <;> (try simp only [go_sem, seval, hlt2, idx_of hri, htk2, tkD_len]))
          | assumption)
         try simp (disch := omega) only [wrap_ok]
         refine hnx2 (part ++ [(i2 : Int)], true) _ ⟨by dsimp only; rw [e2, filter_snoc, ← h1]; simp [cpM, h7], by dsimp only; rw [e2, all_snoc, ← Bool.and_assoc, ← h2]; simp [cpM, h7]⟩ (by refine ⟨by simp [mkS, intsD_append, intsD_one], by simp [mkS, intsD_append, intsD_one], by simp only [mkS, List.all_cons, List.all_nil, O.refsLt, C.refsLt, C.refsLt1, all_dmap]; first | done | rfl | (simp; done), ?_⟩; simp [mkS, Abs.get, C.refsLtT, C.refsLt, C.refsLt1])
       ·have hike : decide ((i2 : Int) = i) = false := by simp [hik]
        cases ha : rc M i i2 with
        | false =>
         rw [ha] at hA
         cases fr with
         | false =>
          refine run_sound Try.func10 mixed 200 _ _ (by kernel_rfl) ?_
          simp only [go_sem, seval, hlt2, idx_of hri, idx_of hrk, hA, hike, htk2, tkD_len]
          repeat' (first
           | ((first | (refine br_n (fun hq => ?_) (fun hq => ?_)) | (refine idx_intro (fun x hx => have hq := hx; ?_))) <;> (try simp only [go_sem, seval, hlt2, idx_of hri, idx_of hrk, hA, hike, htk2, tkD_len, hq]))
           | (simp (disch := omega) only [wrap_ok])
           | ((first
            | (refine (l02Has_fn _ _).calls rfl ?_)
            | (refine (sProgramOk_fn _ sd).calls rfl ?_)
            | (refine ⟨sd, ?_⟩)
            | (refine ⟨by assumption, ?_⟩)) <;> (try simp only [go_sem, seval, hlt2, idx_of hri, idx_of hrk, hA, hike, htk2, tkD_len]))
           | assumption)
          try simp (disch := omega) only [wrap_ok]
          refine hnx2 (part, false) _ ⟨by dsimp only; rw [e2, filter_snoc, ← h1]; simp [cpM, hik, ha], by dsimp only; rw [e2, all_snoc, ← Bool.and_assoc, ← h2]; simp [cpM, hik, ha]⟩ (by refine ⟨by simp [mkS, intsD_append, intsD_one], by simp [mkS, intsD_append, intsD_one], by simp only [mkS, List.all_cons, List.all_nil, O.refsLt, C.refsLt, C.refsLt1, all_dmap]; first | done | rfl | (simp; done), ?_⟩; simp [mkS, Abs.get, C.refsLtT, C.refsLt, C.refsLt1])
         | true =>
          cases htk : t (i2 : Int) with
          | true =>
           rw [htk] at htk2
           refine run_sound Try.func10 mixed 200 _ _ (by kernel_rfl) ?_
           simp only [go_sem, seval, hlt2, idx_of hri, idx_of hrk, hA, hike, htk2, tkD_len]
           repeat' (first
            | ((first | (refine br_n (fun hq => ?_) (fun hq => ?_)) | (refine idx_intro (fun x hx => have hq := hx; ?_))) <;> (try simp only [go_sem, seval, hlt2, idx_of hri, idx_of hrk, hA, hike, htk2, tkD_len, hq]))
            | (simp (disch := omega) only [wrap_ok])
            | ((first
             | (refine (l02Has_fn _ _).calls rfl ?_)
             | (refine (sProgramOk_fn _ sd).calls rfl ?_)
             | (refine ⟨sd, ?_⟩)
             | (refine ⟨by assumption, ?_⟩)) <;> (try simp only [go_sem, seval, hlt2, idx_of hri, idx_of hrk, hA, hike, htk2, tkD_len]))
            | assumption)
           try simp (disch := omega) only [wrap_ok]
           refine hnx2 (part, true) _ ⟨by dsimp only; rw [e2, filter_snoc, ← h1]; simp [cpM, hik, ha], by dsimp only; rw [e2, all_snoc, ← Bool.and_assoc, ← h2]; simp [cpM, hik, ha]⟩ (by refine ⟨by simp [mkS, intsD_append, intsD_one], by simp [mkS, intsD_append, intsD_one], by simp only [mkS, List.all_cons, List.all_nil, O.refsLt, C.refsLt, C.refsLt1, all_dmap]; first | done | rfl | (simp; done), ?_⟩; simp [mkS, Abs.get, C.refsLtT, C.refsLt, C.refsLt1])
          | false =>
           rw [htk] at htk2
           refine run_sound Try.func10 mixed 200 _ _ (by kernel_rfl) ?_
           simp only [go_sem, seval, hlt2, idx_of hri, idx_of hrk, hA, hike, htk2, tkD_len]
           repeat' (first
            | ((first | (refine br_n (fun hq => ?_) (fun hq => ?_)) | (refine idx_intro (fun x hx => have hq := hx; ?_))) <;> (try simp only [go_sem, seval, hlt2, idx_of hri, idx_of hrk, hA, hike, htk2, tkD_len, hq]))
            | (simp (disch := omega) only [wrap_ok])
            | ((first
             | (refine (l02Has_fn _ _).calls rfl ?_)
             | (refine (sProgramOk_fn _ sd).calls rfl ?_)
             | (refine ⟨sd, ?_⟩)
             | (refine ⟨by assumption, ?_⟩)) <;> (try simp only [go_sem, seval, hlt2, idx_of hri, idx_of hrk, hA, hike, htk2, tkD_len]))
            | assumption)
           try simp (disch := omega) only [wrap_ok]
           refine hnx2 (part, true) _ ⟨by dsimp only; rw [e2, filter_snoc, ← h1]; simp [cpM, hik, ha], by dsimp only; rw [e2, all_snoc, ← Bool.and_assoc, ← h2]; simp [cpM, hik, ha]⟩ (by refine ⟨by simp [mkS, intsD_append, intsD_one], by simp [mkS, intsD_append, intsD_one], by simp only [mkS, List.all_cons, List.all_nil, O.refsLt, C.refsLt, C.refsLt1, all_dmap]; first | done | rfl | (simp; done), ?_⟩; simp [mkS, Abs.get, C.refsLtT, C.refsLt, C.refsLt1])
        | true =>
         rw [ha] at hA
         cases hb2 : rc M i2 i with
         | true =>
          rw [hb2] at hB
          cases fr with
          | false =>
           refine run_sound Try.func10 mixed 200 _ _ (by kernel_rfl) ?_
           simp only [go_sem, seval, hlt2, idx_of hri, idx_of hrk, hA, hB, hike, htk2, tkD_len]
           repeat' (first
            | ((first | (refine br_n (fun hq => ?_) (fun hq => ?_)) | (refine idx_intro (fun x hx => have hq := hx; ?_))) <;> (try simp only [go_sem, seval, hlt2, idx_of hri, idx_of hrk, hA, hB, hike, htk2, tkD_len, hq]))
            | (simp (disch := omega) only [wrap_ok])
            | ((first
             | (refine (l02Has_fn _ _).calls rfl ?_)
             | (refine (sProgramOk_fn _ sd).calls rfl ?_)
             | (refine ⟨sd, ?_⟩)
             | (refine ⟨by assumption, ?_⟩)) <;> (try simp only [go_sem, seval, hlt2, idx_of hri, idx_of hrk, hA, hB, hike, htk2, tkD_len]))
            | assumption)
           try simp (disch := omega) only [wrap_ok]
           refine hnx2 (part ++ [(i2 : Int)], false) _ ⟨by dsimp only; rw [e2, filter_snoc, ← h1]; simp [cpM, hik, ha, hb2], by dsimp only; rw [e2, all_snoc, ← Bool.and_assoc, ← h2]; simp [cpM, hik, ha, hb2]⟩ (by refine ⟨by simp [mkS, intsD_append, intsD_one], by simp [mkS, intsD_append, intsD_one], by simp only [mkS, List.all_cons, List.all_nil, O.refsLt, C.refsLt, C.refsLt1, all_dmap]; first | done | rfl | (simp; done), ?_⟩; simp [mkS, Abs.get, C.refsLtT, C.refsLt, C.refsLt1])
          | true =>
           refine run_sound Try.func10 mixed 200 _ _ (by kernel_rfl) ?_
           simp only [go_sem, seval, hlt2, idx_of hri, idx_of hrk, hA, hB, hike, htk2, tkD_len]
           repeat' (first
            | ((first | (refine br_n (fun hq => ?_) (fun hq => ?_)) | (refine idx_intro (fun x hx => have hq := hx; ?_))) <;> (try simp only [go_sem, seval, hlt2, idx_of hri, idx_of hrk, hA, hB, hike, htk2, tkD_len, hq]))
            | (simp (disch := omega) only [wrap_ok])
            | ((first
             | (refine (l02Has_fn _ _).calls rfl ?_)
             | (refine (sProgramOk_fn _ sd).calls rfl ?_)
             | (refine ⟨sd, ?_⟩)
             | (refine ⟨by assumption, ?_⟩)) <;> (try simp only [go_sem, seval, hlt2, idx_of hri, idx_of hrk, hA, hB, hike, htk2, tkD_len]))
            | assumption)
           try simp (disch := omega) only [wrap_ok]
           refine hnx2 (part ++ [(i2 : Int)], true) _ ⟨by dsimp only; rw [e2, filter_snoc, ← h1]; simp [cpM, hik, ha, hb2], by dsimp only; rw [e2, all_snoc, ← Bool.and_assoc, ← h2]; simp [cpM, hik, ha, hb2]⟩ (by refine ⟨by simp [mkS, intsD_append, intsD_one], by simp [mkS, intsD_append, intsD_one], by simp only [mkS, List.all_cons, List.all_nil, O.refsLt, C.refsLt, C.refsLt1, all_dmap]; first | done | rfl | (simp; done), ?_⟩; simp [mkS, Abs.get, C.refsLtT, C.refsLt, C.refsLt1])
         | false =>
          rw [hb2] at hB
          cases fr with
          | false =>
           refine run_sound Try.func10 mixed 200 _ _ (by kernel_rfl) ?_
           simp only [go_sem, seval, hlt2, idx_of hri, idx_of hrk, hA, hB, hike, htk2, tkD_len]
           repeat' (first
            | ((first | (refine br_n (fun hq => ?_) (fun hq => ?_)) | (refine idx_intro (fun x hx => have hq := hx; ?_))) <;> (try simp only [go_sem, seval, hlt2, idx_of hri, idx_of hrk, hA, hB, hike, htk2, tkD_len, hq]))
            | (simp (disch := omega) only [wrap_ok])
            | ((first
             | (refine (l02Has_fn _ _).calls rfl ?_)
             | (refine (sProgramOk_fn _ sd).calls rfl ?_)
             | (refine ⟨sd, ?_⟩)
             | (refine ⟨by assumption, ?_⟩)) <;> (try simp only [go_sem, seval, hlt2, idx_of hri, idx_of hrk, hA, hB, hike, htk2, tkD_len]))
            | assumption)
           try simp (disch := omega) only [wrap_ok]
           refine hnx2 (part, false) _ ⟨by dsimp only; rw [e2, filter_snoc, ← h1]; simp [cpM, hik, ha, hb2], by dsimp only; rw [e2, all_snoc, ← Bool.and_assoc, ← h2]; simp [cpM, hik, ha, hb2]⟩ (by refine ⟨by simp [mkS, intsD_append, intsD_one], by simp [mkS, intsD_append, intsD_one], by simp only [mkS, List.all_cons, List.all_nil, O.refsLt, C.refsLt, C.refsLt1, all_dmap]; first | done | rfl | (simp; done), ?_⟩; simp [mkS, Abs.get, C.refsLtT, C.refsLt, C.refsLt1])
          | true =>
           cases htk : t (i2 : Int) with
           | true =>
            rw [htk] at htk2
            refine run_sound Try.func10 mixed 200 _ _ (by kernel_rfl) ?_
            simp only [go_sem, seval, hlt2, idx_of hri, idx_of hrk, hA, hB, hike, htk2, tkD_len]
            repeat' (first
             | ((first | (refine br_n (fun hq => ?_) (fun hq => ?_)) | (refine idx_intro (fun x hx => have hq := hx; ?_))) <;> (try simp only [go_sem, seval, hlt2, idx_of hri, idx_of hrk, hA, hB, hike, htk2, tkD_len, hq]))
             | (simp (disch := omega) only [wrap_ok])
             | ((first
              | (refine (l02Has_fn _ _).calls rfl ?_)
              | (refine (sProgramOk_fn _ sd).calls rfl ?_)
              | (refine ⟨sd, ?_⟩)
              | (refine ⟨by assumption, ?_⟩)) <;> (try simp only [go_sem, seval, hlt2, idx_of hri, idx_of hrk, hA, hB, hike, htk2, tkD_len]))
             | assumption)
            try simp (disch := omega) only [wrap_ok]
            refine hnx2 (part, true) _ ⟨by dsimp only; rw [e2, filter_snoc, ← h1]; simp [cpM, hik, ha, hb2, htk], by dsimp only; rw [e2, all_snoc, ← Bool.and_assoc, ← h2]; simp [cpM, hik, ha, hb2, htk]⟩ (by refine ⟨by simp [mkS, intsD_append, intsD_one], by simp [mkS, intsD_append, intsD_one], by simp only [mkS, List.all_cons, List.all_nil, O.refsLt, C.refsLt, C.refsLt1, all_dmap]; first | done | rfl | (simp; done), ?_⟩; simp [mkS, Abs.get, C.refsLtT, C.refsLt, C.refsLt1])
           | false =>
            rw [htk] at htk2
            refine run_sound Try.func10 mixed 200 _ _ (by kernel_rfl) ?_
            simp only [go_sem, seval, hlt2, idx_of hri, idx_of hrk, hA, hB, hike, htk2, tkD_len]
            repeat' (first
             | ((first | (refine br_n (fun hq => ?_) (fun hq => ?_)) | (refine idx_intro (fun x hx => have hq := hx; ?_))) <;> (try simp only [go_sem, seval, hlt2, idx_of hri, idx_of hrk, hA, hB, hike, htk2, tkD_len, hq]))
             | (simp (disch := omega) only [wrap_ok])
             | ((first
              | (refine (l02Has_fn _ _).calls rfl ?_)
              | (refine (sProgramOk_fn _ sd).calls rfl ?_)
              | (refine ⟨sd, ?_⟩)
              | (refine ⟨by assumption, ?_⟩)) <;> (try simp only [go_sem, seval, hlt2, idx_of hri, idx_of hrk, hA, hB, hike, htk2, tkD_len]))
             | assumption)
            try simp (disch := omega) only [wrap_ok]
            refine hnx2 (part, false) _ ⟨by dsimp only; rw [e2, filter_snoc, ← h1]; simp [cpM, hik, ha, hb2, htk], by dsimp only; rw [e2, all_snoc, ← Bool.and_assoc, ← h2]; simp [cpM, hik, ha, hb2, htk]⟩ (by refine ⟨by simp [mkS, intsD_append, intsD_one], by simp [mkS, intsD_append, intsD_one], by simp only [mkS, List.all_cons, List.all_nil, O.refsLt, C.refsLt, C.refsLt1, all_dmap]; first | done | rfl | (simp; done), ?_⟩; simp [mkS, Abs.get, C.refsLtT, C.refsLt, C.refsLt1])
      ·obtain ⟨part, fr⟩ := u
       obtain ⟨h1, h2⟩ := hinv2
       dsimp only at h1 h2 hnx ⊢
       simp only [List.length_nil, Nat.sub_zero] at h1 h2
       have h1 : part = cpC M i := h1
       have hfr : (decide (b = []) && cpFree M t i) = fr := by
        rw [h2, hfr0]
        unfold cpFree
        cases t (i : Int) <;> cases decide (b = []) <;> rfl
       cases fr with
       | false =>
        refine run_sound Try.func10 mixed 200 _ _ (by kernel_rfl) ?_
        simp only [go_sem, seval]
        repeat' (first
         | ((first | (refine br_n (fun hq => ?_) (fun hq => ?_)) | (refine idx_intro (fun x hx => have hq := hx; ?_))) <;> (try simp only [go_sem, seval, hq]))
         | (simp (disch := omega) only [wrap_ok])
         | ((first
          | (refine (l02Has_fn _ _).calls rfl ?_)
          | (refine (sProgramOk_fn _ sd).calls rfl ?_)
          | (refine ⟨sd, ?_⟩)
          | (refine ⟨by assumption, ?_⟩)) <;> (try simp only [go_sem, seval]))
         | assumption)
        try simp (disch := omega) only [wrap_ok]
        refine hnx b _ ?_ (by refine ⟨by simp [mkS, hbn], by simp [mkS, hbn], by simp only [mkS, List.all_cons, List.all_nil, O.refsLt, C.refsLt, C.refsLt1, all_dmap]; first | done | rfl | (simp; done), ?_⟩; simp [mkS, Abs.get, C.refsLtT, C.refsLt, C.refsLt1, hbn])
        rcases hinv with ⟨hb', hv⟩ | hv
        ·refine .inl ⟨hb', hstep ?_ hb'⟩
         simpa [hb'] using hfr
        ·exact .inr hv
       | true =>
        simp only [Bool.and_eq_true, decide_eq_true_eq] at hfr
        obtain ⟨hb', hfr⟩ := hfr
        have hnt := cpNext_at hi hfr (fun j hj => by
         rcases hinv with ⟨_, hv⟩ | ⟨i', h0, hbc⟩
         ·exact hv j (by simp only [List.length_cons]; omega)
         ·have hr := cpNext_some h0
          have := cpC_self hr.1
          rw [← hbc, hb'] at this
          cases this)
        refine AW.readG 8 3 rfl rfl ?_
        refine run_sound Try.func10 mixed 200 _ _ (by kernel_rfl) ?_
        simp only [go_sem, seval]
        repeat' (first
         | ((first | (refine br_n (fun hq => ?_) (fun hq => ?_)) | (refine idx_intro (fun x hx => have hq := hx; ?_))) <;> (try simp only [go_sem, seval, hq]))
         | (simp (disch := omega) only [wrap_ok])
         | ((first
          | (refine (l02Has_fn _ _).calls rfl ?_)
          | (refine (sProgramOk_fn _ sd).calls rfl ?_)
          | (refine ⟨sd, ?_⟩)
          | (refine ⟨by assumption, ?_⟩)) <;> (try simp only [go_sem, seval]))
         | assumption)
        try simp (disch := omega) only [wrap_ok]
        refine hnx part _ (.inr ⟨i, hnt, h1⟩) (by refine ⟨by simp [mkS], by simp [mkS], by simp only [mkS, List.all_cons, List.all_nil, O.refsLt, C.refsLt, C.refsLt1, all_dmap]; first | done | rfl | (simp; done), ?_⟩; simp [mkS, Abs.get, C.refsLtT, C.refsLt, C.refsLt1])
   ·have hb8 : b.length ≤ 8 := by
     rcases hinv with ⟨rfl, _⟩ | ⟨j, _, rfl⟩
     ·simp
     ·have := cpC_len M j
      omega
    have hbr : ∀ x, x ∈ b → 0 ≤ x ∧ x < M.length := fun x hx => by
     rcases hinv with ⟨rfl, _⟩ | ⟨j, _, rfl⟩
     ·cases hx
     ·exact (cpC_mem.1 hx).1
    have hn2 : Clsd M (fun k => t k || decide (k ∈ b)) ∧ (if b = [] then out else out ++ [b]).length + r0.length ≤ p.rels.length ∧ (if b = [] then out else out ++ [b]) ++ cps M r0.length (fun k => t k || decide (k ∈ b)) = cpsV M := by
     simp only [List.length_cons] at hol hout
     rcases hinv with ⟨rfl, hv⟩ | ⟨j, hv, rfl⟩
     ·have hnn := cpNext_none (t := t) fun j hj => hv j (by simpa using hj)
      rw [cps_none hnn] at hout
      have he : (fun k => t k || decide (k ∈ ([] : List Int))) = t := by funext k; simp
      rw [he, cps_none hnn, if_pos rfl]
      exact ⟨hcs, by omega, hout⟩
     ·have hr := cpNext_some hv
      have hne : cpC M j ≠ [] := fun e => by
       have := cpC_self hr.1
       rw [e] at this
       cases this
      rw [if_neg hne]
      rw [cps_some hv] at hout
      refine ⟨cpTake_clsd hC hcs hr.2, by simp; omega, ?_⟩
      rw [← hout]; simp [cpTake]; rfl
    refine run_sound Try.func10 mixed 12 _ _ (by kernel_rfl) ?_
    simp only [go_sem, seval, run.eq_1]
    repeat' (first
     | ((first | (refine br_n (fun hq => ?_) (fun hq => ?_)) | (refine idx_intro (fun x hx => have hq := hx; ?_))) <;> (try simp only [go_sem, seval, run.eq_1, hq]))
     | (simp (disch := omega) only [wrap_ok])
     | ((first
      | (refine (l02Has_fn _ _).calls rfl ?_)
      | (refine (sProgramOk_fn _ sd).calls rfl ?_)
      | (refine ⟨sd, ?_⟩)
      | (refine ⟨by assumption, ?_⟩)) <;> (try simp only [go_sem, seval, run.eq_1]))
     | assumption)
    refine AW.rng b [1, 3, 4, 5, 6, 26, 27, 100, 101] 102 100 (fun _ : Int → Bool => []) (fun _ t' => [.box (p.enc.map .d), .row 1 4 (tkD p.rels.length t'), .grow out.length 1 42 (out.map encI2)]) (fun r3 t' => (fun k => t' k || decide (k ∈ r3)) = fun k => t k || decide (k ∈ b)) t rfl (by simp [intsD]) rfl (by refine ⟨by simp [mkS], by simp [mkS], by simp only [mkS, List.all_cons, List.all_nil, O.refsLt, C.refsLt, C.refsLt1, all_dmap]; first | done | rfl | (simp; done), ?_⟩; simp [mkS, Abs.get, C.refsLtT, C.refsLt, C.refsLt1]) (fun i3 x3 r3 t' hxi3 hdr3 hlt3 hm3 hinv3 hnx3 => ?_) (fun t' hinv3 => ?_)
    ·have hxr := hbr x3 (List.mem_of_getElem? hxi3)
     obtain ⟨n, rfl⟩ : ∃ n : Nat, x3 = n := ⟨x3.toNat, by omega⟩
     have hai := intsD_at hxi3
     have hset := tkD_set (t := t') (show n < p.rels.length by omega)
     have htk := tkD_at (t := t') (show n < p.rels.length by omega)
     refine run_sound Try.func10 mixed 200 _ _ (by kernel_rfl) ?_
     simp only [go_sem, seval, hlt3, idx_of hai, htk, hset, tkD_len]
     repeat' (first
      | ((first | (refine br_n (fun hq => ?_) (fun hq => ?_)) | (refine idx_intro (fun x hx => have hq := hx; ?_))) <;> (try simp only [go_sem, seval, hlt3, idx_of hai, htk, hset, tkD_len, hq]))
      | (simp (disch := omega) only [wrap_ok])
      | ((first
       | (refine (l02Has_fn _ _).calls rfl ?_)
       | (refine (sProgramOk_fn _ sd).calls rfl ?_)
       | (refine ⟨sd, ?_⟩)
       | (refine ⟨by assumption, ?_⟩)) <;> (try simp only [go_sem, seval, hlt3, idx_of hai, htk, hset, tkD_len]))
      | assumption)
     try simp (disch := omega) only [wrap_ok]
     refine hnx3 (fun x => t' x || decide (x = n)) _ (by rw [← hinv3]; funext k; simp [Bool.or_assoc]) (by refine ⟨by simp [mkS], by simp [mkS], by simp only [mkS, List.all_cons, List.all_nil, O.refsLt, C.refsLt, C.refsLt1, all_dmap]; first | done | rfl | (simp; done), ?_⟩; simp [mkS, Abs.get, C.refsLtT, C.refsLt, C.refsLt1])
    ·simp only [List.not_mem_nil, decide_false, Bool.or_false] at hinv3
     have hinv3 : t' = fun k => t k || decide (k ∈ b) := hinv3
     rw [← hinv3] at hn2
     by_cases hb : b = []
     ·rw [if_pos hb] at hn2
      have hbn : intsD b = [] := by rw [hb]; rfl
      refine run_sound Try.func10 mixed 200 _ _ (by kernel_rfl) ?_
      simp only [go_sem, seval, hbn, List.length_nil]
      repeat' (first
       | ((first | (refine br_n (fun hq => ?_) (fun hq => ?_)) | (refine idx_intro (fun x hx => have hq := hx; ?_))) <;> (try simp only [go_sem, seval, hbn, List.length_nil, hq]))
       | (simp (disch := omega) only [wrap_ok])
       | ((first
        | (refine (l02Has_fn _ _).calls rfl ?_)
        | (refine (sProgramOk_fn _ sd).calls rfl ?_)
        | (refine ⟨sd, ?_⟩)
        | (refine ⟨by assumption, ?_⟩)) <;> (try simp only [go_sem, seval, hbn, List.length_nil]))
       | assumption)
      try simp (disch := omega) only [wrap_ok]
      refine hnx0 (t', out) _ hn2 (by refine ⟨by simp [mkS], by simp [mkS], by simp only [mkS, List.all_cons, List.all_nil, O.refsLt, C.refsLt, C.refsLt1, all_dmap]; first | done | rfl | (simp; done), ?_⟩; simp [mkS, Abs.get, C.refsLtT, C.refsLt, C.refsLt1])
     ·rw [if_neg hb] at hn2
      have hb0 : (0 : Int) < (b.length : Int) := by
       have := List.length_pos_iff.2 hb
       omega
      refine run_sound Try.func10 mixed 200 _ _ (by kernel_rfl) ?_
      simp only [go_sem, seval, intsD_len, hb0]
      repeat' (first
       | ((first | (refine br_n (fun hq => ?_) (fun hq => ?_)) | (refine idx_intro (fun x hx => have hq := hx; ?_))) <;> (try simp only [go_sem, seval, intsD_len, hb0, hq]))
       | (simp (disch := omega) only [wrap_ok])
       | ((first
        | (refine (l02Has_fn _ _).calls rfl ?_)
        | (refine (sProgramOk_fn _ sd).calls rfl ?_)
        | (refine ⟨sd, ?_⟩)
        | (refine ⟨by assumption, ?_⟩)) <;> (try simp only [go_sem, seval, intsD_len, hb0]))
       | assumption)
      try simp (disch := omega) only [wrap_ok]
      refine hnx0 (t', out ++ [b]) _ hn2 (by refine ⟨by simp [mkS, encI2_eq], by simp [mkS, encI2_eq], by simp only [mkS, List.all_cons, List.all_nil, O.refsLt, C.refsLt, C.refsLt1, all_dmap]; first | done | rfl | (simp; done), ?_⟩; simp [mkS, Abs.get, C.refsLtT, C.refsLt, C.refsLt1])
  ·obtain ⟨t, out⟩ := u
   obtain ⟨_, _, hout⟩ := hinv
   dsimp only at hout ⊢
   simp only [List.length_nil, cps, List.append_nil] at hout
   subst hout
   refine run_sound Try.func10 mixed 200 _ _ (by kernel_rfl) ?_
   simp only [go_sem, seval]
 ·simp only [if_neg hok]
  simp only [Bool.not_eq_true] at hok
  refine ACalls.enter (fn := Try.f10) Try.func10 rfl (by show 1 ≤ _; decide) ?_
  refine run_sound Try.func10 mixed 200 _ _ (by kernel_rfl) ?_
  simp only [go_sem, seval, hok]
  repeat' (first
   | ((first | (refine br_n (fun hq => ?_) (fun hq => ?_)) | (refine idx_intro (fun x hx => have hq := hx; ?_))) <;> (try simp only [go_sem, seval, hok, hq]))
   | (simp (disch := omega) only [wrap_ok])
   | ((first
    | (refine (l02Has_fn _ _).calls rfl ?_)
    | (refine (sProgramOk_fn _ sd).calls rfl ?_)
    | (refine ⟨sd, ?_⟩)
    | (refine ⟨by assumption, ?_⟩)) <;> (try simp only [go_sem, seval, hok]))
   | assumption)
end Go.Proofs.Ytfniakcjekooiaa
