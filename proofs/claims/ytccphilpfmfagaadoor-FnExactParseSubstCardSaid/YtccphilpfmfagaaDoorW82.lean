import Derived.Test.YtccphilpfmfagaaDoorW81
namespace Go.Proofs.YtccphilpfmfagaaDoor
open Go.Abs
set_option maxRecDepth 100000
set_option maxHeartbeats 4000000
set_option linter.unusedSimpArgs false
set_option linter.unusedVariables false
def ptC (o : Option (List V)) : C := match o with | some l => .tup [.d (.sl (l.map V.enc)), .d (.bool true)] | none => .tup [.d (.sl []), .d (.bool false)]
theorem ptC_none : ptC none = .tup [.d (.sl []), .d (.bool false)] := rfl
theorem ptC_some (l : List V) : ptC (some l) = .tup [.d (.sl (l.map V.enc)), .d (.bool true)] := rfl
theorem rd_wt {big : Bool} {T : List (List UInt8)} (hTl : T.length ≤ 20000) {n i : Nat} {v : V} {j : Nat} (h : rdT big T n i = some (v, j)) : wtL v.enc ≤ 1048576 := by
 have h1 := (rd_len big T n).1 _ _ _ h
 have h2 := V.wt_low v ((rd_low big T n).1 _ _ _ h)
 omega
theorem l03ReadAll_fn (T : List (List UInt8)) (hTl : T.length ≤ 20000) (hTm : ∀ t, t ∈ T → t.length ≤ 100000) : Gives Tryd.prog 37 [.sl (strD T)] (ptC (rdA T (T.length + 1) 0)) := by
 have hmx : maxLen = 9223372036854775807 := rfl
 obtain ⟨R, hR⟩ : ∃ R, rdA T (T.length + 1) 0 = R := ⟨_, rfl⟩
 rw [hR]
 refine ACalls.enter (fn := Tryd.f37) Tryd.func37 rfl (by show 1 ≤ _; decide) ?_
 refine run_sound Tryd.func37 mixed 200 _ _ (by kernel_rfl) ?_
 simp only [go_sem, seval]
 repeat' (first
  | ((first | (refine br_n (fun hq => ?_) (fun hq => ?_)) | (refine idx_intro (fun x hx => have hq := hx; ?_))) <;> (try simp only [go_sem, seval, hq]))
  | (simp (disch := omega) only [wrap_ok])
  | ((first
   | (refine (sTermOk_fn _ sd).calls rfl ?_)
   | (refine ⟨sd, ?_⟩)
   | (refine ⟨by assumption, ?_⟩)) <;> (try simp only [go_sem, seval]))
  | assumption)
 refine AW.adopt 4 4 26 (by decide) rfl ?_
 refine AW.lp [0] (fun u : Nat × Nat × Nat × List V => [(5, .d (.int .i64 u.2.1)), (4, .own 0 u.2.2.1)]) (fun _ u => [.grow u.2.2.1 4 26 (u.2.2.2.map V.enc)]) (fun u => u.2.1 ≤ T.length ∧ T.length - u.2.1 + 1 ≤ u.1 ∧ (match rdA T u.1 u.2.1 with | some l => some (u.2.2.2 ++ l) | none => none) = R ∧ u.2.2.2.length ≤ u.2.1) (fun u => T.length - u.2.1) (T.length + 1, 0, 0, []) ⟨Nat.zero_le _, by dsimp only; omega, by dsimp only; rw [hR]; cases R <;> rfl, by simp⟩ (by refine ⟨by simp [mkS], by simp [mkS], by simp only [mkS, List.all_cons, List.all_nil, O.refsLt, C.refsLt, C.refsLt1, all_dmap]; first | done | rfl | (simp; done), ?_⟩; simp [mkS, Abs.get, C.refsLtT, C.refsLt, C.refsLt1]) ?_
 rintro ⟨m, j, q, L⟩ ⟨hj, hf, hi2, hL⟩ hnext
 dsimp only at hj hf hi2 hL hnext ⊢
 obtain ⟨m, rfl⟩ : ∃ m', m = m' + 1 := ⟨m - 1, by omega⟩
 have hmap : ∀ x : List V, (x.map V.enc).length = x.length := fun x => List.length_map _
 by_cases h : j < T.length
 ·have n1 : (j : Int) < (T.length : Int) := by omega
  have hg := l03Read_fn T hTl hTm (2 * T.length + 1) j (by omega) (by omega)
  rw [rdA_step h] at hi2
  cases hr : rdT false T (2 * T.length + 1) j with
  | none =>
   have hro : rdO false T j = none := by unfold rdO; rw [hr]
   obtain ⟨k, hk⟩ := rdG_none hr hg
   rw [hro] at hi2
   rw [← hi2, ptC_none]
   refine run_sound Tryd.func37 mixed 200 _ _ (by kernel_rfl) ?_
   simp only [go_sem, seval, n1, strD_len]
   repeat' (first
    | ((first | (refine br_n (fun hq => ?_) (fun hq => ?_)) | (refine idx_intro (fun x hx => have hq := hx; ?_))) <;> (try simp only [go_sem, seval, n1, strD_len, hq]))
    | (simp (disch := omega) only [wrap_ok])
    | ((first
     | (refine hk.calls rfl ?_)
     | (refine (sTermOk_fn _ sd).calls rfl ?_)
     | (refine ⟨sd, ?_⟩)
     | (refine ⟨by assumption, ?_⟩)) <;> (try simp only [go_sem, seval, n1, strD_len]))
    | assumption)
  | some x =>
   obtain ⟨v, j2⟩ := x
   have hk := rdG_some hr hg
   have hto : Gives Tryd.prog 55 [.agg v.enc] (.d (.bool (tmOk v.tm))) := sTermOk_fn v.tm (by have := rd_wt hTl hr; unfold V.enc at this; omega)
   rw [tmOk_V] at hto
   have hb := (rd_len false T _).1 _ _ _ hr
   by_cases hok : v.ok = true
   ·have hro : rdO false T j = some (v, j2) := by unfold rdO; rw [hr]; simp only [if_pos hok]
    rw [hro] at hi2
    rw [hok] at hto
    refine run_sound Tryd.func37 mixed 200 _ _ (by kernel_rfl) ?_
    simp only [go_sem, seval, n1, strD_len]
    repeat' (first
     | ((first | (refine br_n (fun hq => ?_) (fun hq => ?_)) | (refine idx_intro (fun x hx => have hq := hx; ?_))) <;> (try simp only [go_sem, seval, n1, strD_len, hmap, hq]))
     | (simp (disch := omega) only [wrap_ok])
     | ((first
      | (refine hk.calls rfl ?_)
      | (refine hto.calls rfl ?_)
      | (refine (sTermOk_fn _ sd).calls rfl ?_)
      | (refine ⟨sd, ?_⟩)
      | (refine ⟨by assumption, ?_⟩)) <;> (try simp only [go_sem, seval, n1, strD_len, hmap]))
     | assumption)
    refine hnext (m, j2, q + 1, L ++ [v]) _ ⟨by dsimp only; omega, by dsimp only; omega, ?_, by simp; omega⟩ (by dsimp only; omega) (by refine ⟨by simp [mkS], by simp [mkS], by simp only [mkS, List.all_cons, List.all_nil, O.refsLt, C.refsLt, C.refsLt1, all_dmap]; first | done | rfl | (simp; done), ?_⟩; simp [mkS, Abs.get, C.refsLtT, C.refsLt, C.refsLt1])
    dsimp only at hi2 ⊢
    rw [← hi2]
    cases rdA T m j2 <;> simp
   ·have hokf : v.ok = false := by simpa using hok
    have hro : rdO false T j = none := by unfold rdO; rw [hr]; simp only [if_neg hok]
    rw [hro] at hi2
    rw [hokf] at hto
    rw [← hi2, ptC_none]
    refine run_sound Tryd.func37 mixed 200 _ _ (by kernel_rfl) ?_
    simp only [go_sem, seval, n1, strD_len]
    repeat' (first
     | ((first | (refine br_n (fun hq => ?_) (fun hq => ?_)) | (refine idx_intro (fun x hx => have hq := hx; ?_))) <;> (try simp only [go_sem, seval, n1, strD_len, hmap, hq]))
     | (simp (disch := omega) only [wrap_ok])
     | ((first
      | (refine hk.calls rfl ?_)
      | (refine hto.calls rfl ?_)
      | (refine (sTermOk_fn _ sd).calls rfl ?_)
      | (refine ⟨sd, ?_⟩)
      | (refine ⟨by assumption, ?_⟩)) <;> (try simp only [go_sem, seval, n1, strD_len, hmap]))
     | assumption)
 ·rw [rdA_end (by omega)] at hi2
  have n1 : ¬ (j : Int) < (T.length : Int) := by omega
  rw [← hi2, ptC_some, List.append_nil]
  refine run_sound Tryd.func37 mixed 200 _ _ (by kernel_rfl) ?_
  simp only [go_sem, seval, n1, strD_len]
  repeat' (first
   | ((first | (refine br_n (fun hq => ?_) (fun hq => ?_)) | (refine idx_intro (fun x hx => have hq := hx; ?_))) <;> (try simp only [go_sem, seval, n1, strD_len, hq]))
   | (simp (disch := omega) only [wrap_ok])
   | ((first
    | (refine (sTermOk_fn _ sd).calls rfl ?_)
    | (refine ⟨sd, ?_⟩)
    | (refine ⟨by assumption, ?_⟩)) <;> (try simp only [go_sem, seval, n1, strD_len]))
   | assumption)
end Go.Proofs.YtccphilpfmfagaaDoor
