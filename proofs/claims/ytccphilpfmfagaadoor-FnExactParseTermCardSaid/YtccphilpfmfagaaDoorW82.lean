import Derived.Test.YtccphilpfmfagaaDoorW81
namespace Go.Proofs.YtccphilpfmfagaaDoor
open Go.Abs
set_option maxRecDepth 100000
set_option maxHeartbeats 4000000
set_option linter.unusedSimpArgs false
set_option linter.unusedVariables false
def ptC (o : Option (List V)) : C := match o with | some l => .tup [.d (.sl (l.map V.enc)), .d (.bool true)] | none => .tup [.d (.sl []), .d (.bool false)]
theorem ptC_none : ptC none = .tup [.d (.sl []), .d (.bool false)] := rfl
theorem ptC_some (l : List V) : ptC (some l) = .tup [.d (.sl (l.map V.enc)), .d (.bool true)] := rfl
theorem rd_wt {big : Bool} {T : List (List UInt8)} (hTl : T.length ≤ 20000) {n i : Nat} {v : V} {j : Nat} (h : rdT big T n i = some (v, j)) : wtL v.enc ≤ 1048576 := by
 have h1 := (rd_len big T n).1 _ _ _ h
 have h2 := V.wt_low v ((rd_low big T n).1 _ _ _ h)
 omega
theorem l03ReadAll_fn (T : List (List UInt8)) (hTl : T.length ≤ 20000) (hTm : ∀ t, t ∈ T → t.length ≤ 100000) : Gives Tryd.prog 37 [.sl (strD T)] (ptC (rdA T (T.length + 1) 0)) := by
 have hmx : maxLen = 9223372036854775807 := rfl
 obtain ⟨R, hR⟩ : ∃ R, rdA T (T.length + 1) 0 = R := ⟨_, rfl⟩
 rw [hR]
 refine ACalls.enter (fn := Tryd.f37) Tryd.func37 rfl (by show 1 ≤ _; decide) ?_
 refine run_sound Tryd.func37 mixed 200 _ _ (by kernel_rfl) ?_
 simp only [go_sem, seval]
 repeat' (first
  | ((first | (refine br_n (fun hq => ?_) (fun hq => ?_)) | (refine idx_intro (fun x hx => have hq := hx; ?_))) <;> (try simp only [go_sem, seval, hq]))
  | (simp (disch := omega) only [wrap_ok])
  | ((first
   | (refine (sTermOk_fn _ sd).calls rfl ?_)
   | (refine ⟨sd, ?_⟩)
   | (refine ⟨by assumption, ?_⟩)) <;> (try simp only [go_sem, seval]))
  | assumption)
 refine AW.adopt 4 4 26 (by decide) rfl ?_
 refine AW.lp [0] (fun u : Nat × Nat × Nat × List V => [(5, .d (.int .i64 u.2.1)), (4, .own 0 u.2.2.1)]) (fun _ u => [.grow u.2.2.1 4 26 (u.2.2.2.map V.enc)]) (fun u => u.2.1 ≤ T.length ∧ T.length - u.2.1 + 1 ≤ u.1 ∧ (match rdA T u.1 u.2.1 with | some l => some (u.2.2.2 ++ l) | none => none) = R ∧ u.2.2.2.length ≤ u.2.1) (fun u => T.length - u.2.1) (T.length + 1, 0, 0, []) ⟨Nat.zero_le _, by dsimp only; omega, by dsimp only; rw [hR]; cases R <;> rfl, by simp⟩ (by refine ⟨by simp [mkS], by simp [mkS], by simp only [mkS, List.all_cons, List.all_nil, O.refsLt, C.refsLt, C.refsLt1, all_dmap]; first | done | rfl | (simp; done), ?_⟩; simp [mkS, Abs.get, C.refsLtT, C.refsLt, C.refsLt1]) ?_
 rintro ⟨m, j, q, L⟩ ⟨hj, hf, hi2, hL⟩ hnext
 dsimp only at hj hf hi2 hL hnext ⊢
 obtain ⟨m, rfl⟩ : ∃ m', m = m' + 1 := ⟨m - 1, by omega⟩
 have hmap : ∀ x : List V, (x.map V.enc).length = x.length := fun x => List.length_map _
 by_cases h : j < T.length
 ·have n1 : (j : Int) < (T.length : Int) := by omega
  have hg := l03Read_fn T hTl hTm (2 * T.length + 1) j (by omega) (by omega)
  rw [rdA_step h] at hi2
  cases hr : rdT false T (2 * T.length + 1) j with
  | none =>
   have hro : rdO false T j = none := by unfold rdO; rw [hr]
   obtain ⟨k, hk⟩ := rdG_none hr hg
   rw [hro] at hi2
   rw [← hi2, ptC_none]
   refine run_sound Tryd.func37 mixed 200 _ _ (by kernel_rfl) ?_
   simp only [go_sem, seval, n1, strD_len]
   repeat' (first
    | ((first | (refine br_n (fun hq => ?_) (fun hq => ?_)) | (refine idx_intro (fun x hx => have hq := hx; ?_))) <;> (try simp only [go_sem, seval, n1, strD_len, hq]))
    | (simp (disch := omega) only [wrap_ok])
    | ((first
     | (refine hk.calls rfl ?_)
     | (refine (sTermOk_fn _ sd).calls rfl ?_)
     | (refine ⟨sd, ?_⟩)
     | (refine ⟨by assumption, ?_⟩)) <;> (try simp only [go_sem, seval, n1, strD_len]))
    | assumption)
  | some x =>
   obtain ⟨v, j2⟩ := x
   have hk := rdG_some hr hg
   have hto : Gives Tryd.prog 55 [.agg v.enc] (.d (.bool (tmOk v.tm))) := sTermOk_fn v.tm (by have := rd_wt hTl hr; unfold V.enc at this; omega)
   rw [tmOk_V] at hto
   have hb := (rd_len false T _).1 _ _ _ hr
   by_cases hok : v.ok = true
   ·have hro : rdO false T j = some (v, j2) := by unfold rdO; rw [hr]; simp only [if_pos hok]
    rw [hro] at hi2
    rw [hok] at hto
    refine run_sound Tryd.func37 mixed 200 _ _ (by kernel_rfl) ?_
    simp only [go_sem, seval, n1, strD_len]
    repeat' (first
     | ((first | (refine br_n (fun hq => ?_) (fun hq => ?_)) | (refine idx_intro (fun x hx => have hq := hx; ?_))) <;> (try simp only [go_sem, seval, n1, strD_len, hmap, hq]))
     | (simp (disch := omega) only [wrap_ok])
     | ((first
      | (refine hk.calls rfl ?_)
      | (refine hto.calls rfl ?_)
      | (refine (sTermOk_fn _ sd).calls rfl ?_)
      | (refine ⟨sd, ?_⟩)
      | (refine ⟨by assumption, ?_⟩)) <;> (try simp only [go_sem, seval, n1, strD_len, hmap]))
     | assumption)
    refine hnext (m, j2, q + 1, L ++ [v]) _ ⟨by dsimp only; omega, by dsimp only; omega, ?_, by simp; omega⟩ (by dsimp only; omega) (by refine ⟨by simp [mkS], by simp [mkS], by simp only [mkS, List.all_cons, List.all_nil, O.refsLt, C.refsLt, C.refsLt1, all_dmap]; first | done | rfl | (simp; done), ?_⟩; simp [mkS, Abs.get, C.refsLtT, C.refsLt, C.refsLt1])
    dsimp only at hi2 ⊢
    rw [← hi2]
    cases rdA T m j2 <;> simp
   ·have hokf : v.ok = false := by simpa using hok
    have hro : rdO false T j = none := by unfold rdO; rw [hr]; simp only [if_neg hok]
    rw [hro] at hi2
    rw [hokf] at hto
    rw [← hi2, ptC_none]
    refine run_sound Tryd.func37 mixed 200 _ _ (by kernel_rfl) ?_
    simp only [go_sem, seval, n1, strD_len]
    repeat' (first
     | ((first | (refine br_n (fun hq => ?_) (fun hq => ?_)) | (refine idx_intro (fun x hx => have hq := hx; ?_))) <;> (try simp only [go_sem, seval, n1, strD_len, hmap, hq]))
     | (simp (disch := omega) only [wrap_ok])
     | ((first
      | (refine hk.calls rfl ?_)
      | (refine hto.calls rfl ?_)
      | (refine (sTermOk_fn _ sd).calls rfl ?_)
      | (refine ⟨sd, ?_⟩)
      | (refine ⟨by assumption, ?_⟩)) <;> (try simp only [go_sem, seval, n1, strD_len, hmap]))
     | assumption)
 ·rw [rdA_end (by omega)] at hi2
  have n1 : ¬ (j : Int) < (T.length : Int) := by omega
  rw [← hi2, ptC_some, List.append_nil]
  refine run_sound Tryd.func37 mixed 200 _ _ (by kernel_rfl) ?_
  simp only [go_sem, seval, n1, strD_len]
  repeat' (first
   | ((first | (refine br_n (fun hq => ?_) (fun hq => ?_)) | (refine idx_intro (fun x hx => have hq := hx; ?_))) <;> (try simp only [go_sem, seval, n1, strD_len, hq]))
   | (simp (disch := omega) only [wrap_ok])
   | ((first
    | (refine (sTermOk_fn _ sd).calls rfl ?_)
    | (refine ⟨sd, ?_⟩)
    | (refine ⟨by assumption, ?_⟩)) <;> (try simp only [go_sem, seval, n1, strD_len]))
   | assumption)
theorem sParseTerms_fn (s : List UInt8) (hm : s.length ≤ 1048576) : Gives Tryd.prog 32 [.str s] (ptC (ptV s)) := by
 have ht := sTokens_fn s hm
 unfold ptV
 cases hT : tokV s with
 | none =>
  rw [hT] at ht
  unfold tkC at ht
  dsimp only at ht ⊢
  rw [ptC_none]
  refine ACalls.enter (fn := Tryd.f32) Tryd.func32 rfl (by show 1 ≤ _; decide) ?_
  refine run_sound Tryd.func32 mixed 200 _ _ (by kernel_rfl) ?_
  simp only [go_sem, seval]
  repeat' (first
   | ((first | (refine br_n (fun hq => ?_) (fun hq => ?_)) | (refine idx_intro (fun x hx => have hq := hx; ?_))) <;> (try simp only [go_sem, seval, hq]))
   | (simp (disch := omega) only [wrap_ok])
   | ((first
    | (refine ht.calls rfl ?_)
    | (refine (l03ReadAll_fn _ sd sd).calls rfl ?_)
    | (refine ⟨sd, ?_⟩)
    | (refine ⟨by assumption, ?_⟩)) <;> (try simp only [go_sem, seval]))
   | assumption)
 | some T =>
  rw [hT] at ht
  unfold tkC at ht
  dsimp only at ht ⊢
  obtain ⟨k1, k2⟩ := tokV_mem hT
  have ha := l03ReadAll_fn T k1 (fun t h => (k2 t h).2)
  cases hA : rdA T (T.length + 1) 0 with
  | none =>
   rw [hA, ptC_none] at ha
   dsimp only
   rw [ptC_none]
   refine ACalls.enter (fn := Tryd.f32) Tryd.func32 rfl (by show 1 ≤ _; decide) ?_
   refine run_sound Tryd.func32 mixed 200 _ _ (by kernel_rfl) ?_
   simp only [go_sem, seval]
   repeat' (first
    | ((first | (refine br_n (fun hq => ?_) (fun hq => ?_)) | (refine idx_intro (fun x hx => have hq := hx; ?_))) <;> (try simp only [go_sem, seval, hq]))
    | (simp (disch := omega) only [wrap_ok])
    | ((first
     | (refine ht.calls rfl ?_)
     | (refine ha.calls rfl ?_)
     | (refine (l03ReadAll_fn _ sd sd).calls rfl ?_)
     | (refine ⟨sd, ?_⟩)
     | (refine ⟨by assumption, ?_⟩)) <;> (try simp only [go_sem, seval]))
    | assumption)
  | some l =>
   rw [hA, ptC_some] at ha
   dsimp only
   have hmap : (l.map V.enc).length = l.length := List.length_map _
   by_cases h40 : l.length ≤ 40
   ·have n1 : ¬ (40 : Int) < (l.length : Int) := by omega
    rw [if_pos h40, ptC_some]
    refine ACalls.enter (fn := Tryd.f32) Tryd.func32 rfl (by show 1 ≤ _; decide) ?_
    refine run_sound Tryd.func32 mixed 200 _ _ (by kernel_rfl) ?_
    simp only [go_sem, seval, n1, hmap]
    repeat' (first
     | ((first | (refine br_n (fun hq => ?_) (fun hq => ?_)) | (refine idx_intro (fun x hx => have hq := hx; ?_))) <;> (try simp only [go_sem, seval, n1, hmap, hq]))
     | (simp (disch := omega) only [wrap_ok])
     | ((first
      | (refine ht.calls rfl ?_)
      | (refine ha.calls rfl ?_)
      | (refine (l03ReadAll_fn _ sd sd).calls rfl ?_)
      | (refine ⟨sd, ?_⟩)
      | (refine ⟨by assumption, ?_⟩)) <;> (try simp only [go_sem, seval, n1, hmap]))
     | assumption)
   ·have n1 : (40 : Int) < (l.length : Int) := by omega
    rw [if_neg h40, ptC_none]
    refine ACalls.enter (fn := Tryd.f32) Tryd.func32 rfl (by show 1 ≤ _; decide) ?_
    refine run_sound Tryd.func32 mixed 200 _ _ (by kernel_rfl) ?_
    simp only [go_sem, seval, n1, hmap]
    repeat' (first
     | ((first | (refine br_n (fun hq => ?_) (fun hq => ?_)) | (refine idx_intro (fun x hx => have hq := hx; ?_))) <;> (try simp only [go_sem, seval, n1, hmap, hq]))
     | (simp (disch := omega) only [wrap_ok])
     | ((first
      | (refine ht.calls rfl ?_)
      | (refine ha.calls rfl ?_)
      | (refine (l03ReadAll_fn _ sd sd).calls rfl ?_)
      | (refine ⟨sd, ?_⟩)
      | (refine ⟨by assumption, ?_⟩)) <;> (try simp only [go_sem, seval, n1, hmap]))
     | assumption)
theorem sParseTerm_fn (s : List UInt8) (hm : s.length ≤ 1048576) : Gives Tryd.prog 13 [.str s] (atomC (p1V s)) := by
 have ht := sParseTerms_fn s hm
 rw [p1V_eq]
 cases hT : ptV s with
 | none =>
  rw [hT, ptC_none] at ht
  dsimp only
  rw [atomC_none]
  refine ACalls.enter (fn := Tryd.f13) Tryd.func13 rfl (by show 1 ≤ _; decide) ?_
  refine run_sound Tryd.func13 mixed 200 _ _ (by kernel_rfl) ?_
  simp only [go_sem, seval]
  repeat' (first
   | ((first | (refine br_n (fun hq => ?_) (fun hq => ?_)) | (refine idx_intro (fun x hx => have hq := hx; ?_))) <;> (try simp only [go_sem, seval, hq]))
   | (simp (disch := omega) only [wrap_ok])
   | ((first
    | (refine ht.calls rfl ?_)
    | (refine (sParseTerms_fn _ sd).calls rfl ?_)
    | (refine ⟨sd, ?_⟩)
    | (refine ⟨by assumption, ?_⟩)) <;> (try simp only [go_sem, seval]))
   | assumption)
 | some l =>
  rw [hT, ptC_some] at ht
  have hmap : (l.map V.enc).length = l.length := List.length_map _
  match l with
  | [] =>
   dsimp only
   rw [atomC_none]
   refine ACalls.enter (fn := Tryd.f13) Tryd.func13 rfl (by show 1 ≤ _; decide) ?_
   refine run_sound Tryd.func13 mixed 200 _ _ (by kernel_rfl) ?_
   simp only [go_sem, seval]
   repeat' (first
    | ((first | (refine br_n (fun hq => ?_) (fun hq => ?_)) | (refine idx_intro (fun x hx => have hq := hx; ?_))) <;> (try simp only [go_sem, seval, hq]))
    | (simp (disch := omega) only [wrap_ok])
    | ((first
     | (refine ht.calls rfl ?_)
     | (refine (sParseTerms_fn _ sd).calls rfl ?_)
     | (refine ⟨sd, ?_⟩)
     | (refine ⟨by assumption, ?_⟩)) <;> (try simp only [go_sem, seval]))
    | assumption)
  | [v] =>
   dsimp only
   unfold atomC
   dsimp only
   refine ACalls.enter (fn := Tryd.f13) Tryd.func13 rfl (by show 1 ≤ _; decide) ?_
   refine run_sound Tryd.func13 mixed 200 _ _ (by kernel_rfl) ?_
   simp only [go_sem, seval]
   repeat' (first
    | ((first | (refine br_n (fun hq => ?_) (fun hq => ?_)) | (refine idx_intro (fun x hx => have hq := hx; ?_))) <;> (try simp only [go_sem, seval, hq]))
    | (simp (disch := omega) only [wrap_ok])
    | ((first
     | (refine ht.calls rfl ?_)
     | (refine (sParseTerms_fn _ sd).calls rfl ?_)
     | (refine ⟨sd, ?_⟩)
     | (refine ⟨by assumption, ?_⟩)) <;> (try simp only [go_sem, seval]))
    | assumption)
  | v :: w :: r =>
   dsimp only
   rw [atomC_none]
   have hne : (((v :: w :: r).length : Int) != 1) = true := by simp; omega
   generalize v :: w :: r = L at *
   refine ACalls.enter (fn := Tryd.f13) Tryd.func13 rfl (by show 1 ≤ _; decide) ?_
   refine run_sound Tryd.func13 mixed 200 _ _ (by kernel_rfl) ?_
   simp only [go_sem, seval, hmap, hne]
   repeat' (first
    | ((first | (refine br_n (fun hq => ?_) (fun hq => ?_)) | (refine idx_intro (fun x hx => have hq := hx; ?_))) <;> (try simp only [go_sem, seval, hmap, hne, hq]))
    | (simp (disch := omega) only [wrap_ok])
    | ((first
     | (refine ht.calls rfl ?_)
     | (refine (sParseTerms_fn _ sd).calls rfl ?_)
     | (refine ⟨sd, ?_⟩)
     | (refine ⟨by assumption, ?_⟩)) <;> (try simp only [go_sem, seval, hmap, hne]))
    | assumption)
end Go.Proofs.YtccphilpfmfagaaDoor
