import Derived.Test.YtccphilpfmfagaaDoorW86
namespace Go.Proofs.YtccphilpfmfagaaDoor
open Go.Abs
set_option maxRecDepth 100000
set_option maxHeartbeats 4000000
set_option linter.unusedSimpArgs false
set_option linter.unusedVariables false
theorem term_G (T : List (List UInt8)) (hTl : T.length ≤ 20000) (hTm : ∀ t, t ∈ T → t ≠ [] ∧ t.length ≤ 100000) : ∀ n i, i ≤ T.length → 2 * (T.length - i) + 1 ≤ n → tmG T n i := by
 intro n
 induction n using Nat.strongRecOn with
 | ind n ih =>
  intro i hi hf
  obtain ⟨n, rfl⟩ : ∃ n', n = n' + 1 := ⟨n - 1, by omega⟩
  cases hTi : T[i]? with
  | none =>
   intro te tr pe pr
   have hil := List.getElem?_eq_none_iff.1 hTi
   have hdn := done_R T i hTl
   have hnd : decide ((i : Int) = (T.length : Int)) = true := by simp; omega
   rw [hnd] at hdn
   rw [rdT_none hTi]
   refine ACalls.enter (fn := Tryd.f48) Tryd.func48 rfl (by show 1 ≤ _; decide) ?_
   refine run_sound Tryd.func48 mixed 200 _ _ (by kernel_rfl) ?_
   simp only [go_sem, seval]
   repeat' (first
    | (exact ⟨.nil, _, rfl, rfl, by omega⟩)
    | ((first | (refine br_n (fun hq => ?_) (fun hq => ?_)) | (refine idx_intro (fun x hx => have hq := hx; ?_))) <;> (try simp only [go_sem, seval, hq]))
    | (simp (disch := omega) only [wrap_ok])
    | ((first
     | (refine (ACalls.emb hdn [1] rfl rfl rfl (by decide) rfl ?_) <;> (rintro c H' ⟨rfl, rfl⟩ _; refine ⟨rfl, rfl, ?_⟩))
     | (refine (iIsName_fn _ sd).calls rfl ?_)
     | (refine (iIsName_fn _ sd).callQ rfl ?_)
     | (refine (symbol_fn _).calls rfl ?_)
     | (refine (symbol_fn _).callQ rfl ?_)
     | (refine (number_fn _).calls rfl ?_)
     | (refine (number_fn _).callQ rfl ?_)
     | (refine ⟨sd, ?_⟩)
     | (refine ⟨by assumption, ?_⟩)) <;> (try simp only [go_sem, seval]))
    | assumption)
  | some t =>
   by_cases h40 : t = [40]
   ·subst h40
    exact term_list T hTl n i hTi hf (fun m hm i hi hf => ih m (by omega) i hi hf)
   ·exact term_atom T hTl n i t hTi (hTm t (List.mem_of_getElem? hTi)) h40
theorem okTerm_R (T : List (List UInt8)) (hTl : T.length ≤ 20000) (hTm : ∀ t, t ∈ T → t ≠ [] ∧ t.length ≤ 100000) (i : Nat) (hi : i ≤ T.length) (te tr : TypeId) (pe pr : Value) : ACalls Tryd.prog 25 [.ptr 1 0] [.hole, .box [.d (.sl (strD T)), .d (.int .i64 (i : Int))], tabO, synO te pe, ranO tr pr] (tmR T [tabO, synO te pe, ranO tr pr] (rdO true T i)) := by
 have hg := term_G T hTl hTm (2 * T.length + 1) i hi (by omega) te tr pe pr
 cases hr : rdT true T (2 * T.length + 1) i with
 | none =>
  have hro : rdO true T i = none := by unfold rdO; rw [hr]
  rw [hr] at hg
  rw [hro]
  unfold tmR at hg
  dsimp only at hg
  refine ACalls.enter (fn := Tryd.f25) Tryd.func25 rfl (by show 1 ≤ _; decide) ?_
  refine run_sound Tryd.func25 mixed 200 _ _ (by kernel_rfl) ?_
  simp only [go_sem, seval]
  repeat' (first
   | (exact ⟨.nil, _, rfl, rfl, by omega⟩)
   | ((first | (refine br_n (fun hq => ?_) (fun hq => ?_)) | (refine idx_intro (fun x hx => have hq := hx; ?_))) <;> (try simp only [go_sem, seval, hq]))
   | (simp (disch := omega) only [wrap_ok])
   | ((first
    | (refine (ACalls.emb hg [0, 1, 2, 3, 4] rfl rfl rfl (by decide) rfl ?_) <;> (rintro c H' ⟨v0, k0, rfl, rfl, hkb⟩ _; refine ⟨rfl, rfl, ?_⟩))
    | (refine (iTermOk_fn _ sd).calls rfl ?_)
    | (refine ⟨sd, ?_⟩)
    | (refine ⟨by assumption, ?_⟩)) <;> (try simp only [go_sem, seval]))
   | assumption)
 | some x =>
  obtain ⟨v, j⟩ := x
  rw [hr] at hg
  unfold tmR tmP at hg
  dsimp only at hg
  have hto : Gives Tryd.prog 27 [.agg v.enc] (.d (.bool (tmOk v.tm))) := iTermOk_fn v.tm (by have := (rd_len true T _).1 _ _ _ hr; have h2 := V.wt_low v ((rd_low true T _).1 _ _ _ hr); unfold V.enc at h2; omega)
  rw [tmOk_V, V.enc_eq v] at hto
  by_cases hok : v.ok = true
  ·have hro : rdO true T i = some (v, j) := by unfold rdO; rw [hr]; simp only [if_pos hok]
   rw [hok] at hto
   rw [hro]
   refine ACalls.enter (fn := Tryd.f25) Tryd.func25 rfl (by show 1 ≤ _; decide) ?_
   refine AW.hole ?_
   refine run_sound Tryd.func25 mixed 10 _ _ (by kernel_rfl) ?_
   simp only [go_sem, seval, run.eq_1]
   repeat' (first
    | ((first | (refine br_n (fun hq => ?_) (fun hq => ?_)) | (refine idx_intro (fun x hx => have hq := hx; ?_))) <;> (try simp only [go_sem, seval, tmW, tmF, tmP, run.eq_1, hq]))
    | (simp (disch := omega) only [wrap_ok])
    | ((first
     | (refine (ACalls.emb hg [5, 1, 2, 3, 4] rfl rfl rfl (by decide) rfl ?_) <;> (rintro c H' (⟨ez, Bz, rfl, rfl⟩ | ⟨kz, rfl, rfl⟩) _ <;> refine ⟨rfl, rfl, ?_⟩))
     | (refine hto.lend rfl (by first | (simp only [go_sem, seval]; done) | (simp only [go_sem, seval, kz]; done)) ?_)
     | (refine (iTermOk_fn _ sd).calls rfl ?_)
     | (refine ⟨sd, ?_⟩)
     | (refine ⟨by assumption, ?_⟩)) <;> (try simp only [go_sem, seval, tmW, tmF, tmP, run.eq_1]))
    | assumption)
   ·refine AW.placeB 7 3 5 0 rfl rfl rfl rfl (by decide) ?_
    refine run_sound Tryd.func25 mixed 200 _ _ (by kernel_rfl) ?_
    simp only [go_sem, seval]
    repeat' (first
     | (exact .inl ⟨ez, Bz, rfl, rfl⟩)
     | ((first | (refine br_n (fun hq => ?_) (fun hq => ?_)) | (refine idx_intro (fun x hx => have hq := hx; ?_))) <;> (try simp only [go_sem, seval, hq]))
     | (simp (disch := omega) only [wrap_ok])
     | ((first
      | (refine (iTermOk_fn _ sd).calls rfl ?_)
      | (refine ⟨sd, ?_⟩)
      | (refine ⟨by assumption, ?_⟩)) <;> (try simp only [go_sem, seval]))
     | assumption)
   ·refine run_sound Tryd.func25 mixed 200 _ _ (by kernel_rfl) ?_
    simp only [go_sem, seval]
    repeat' (first
     | (exact .inr ⟨kz, rfl, rfl⟩)
     | ((first | (refine br_n (fun hq => ?_) (fun hq => ?_)) | (refine idx_intro (fun x hx => have hq := hx; ?_))) <;> (try simp only [go_sem, seval, hq]))
     | (simp (disch := omega) only [wrap_ok])
     | ((first
      | (refine (iTermOk_fn _ sd).calls rfl ?_)
      | (refine ⟨sd, ?_⟩)
      | (refine ⟨by assumption, ?_⟩)) <;> (try simp only [go_sem, seval]))
     | assumption)
  ·have hokf : v.ok = false := by simpa using hok
   have hro : rdO true T i = none := by unfold rdO; rw [hr]; simp only [if_neg hok]
   have hjb := (rd_len true T _).1 _ _ _ hr
   rw [hokf] at hto
   rw [hro]
   refine ACalls.enter (fn := Tryd.f25) Tryd.func25 rfl (by show 1 ≤ _; decide) ?_
   refine AW.hole ?_
   refine run_sound Tryd.func25 mixed 200 _ _ (by kernel_rfl) ?_
   simp only [go_sem, seval]
   repeat' (first
    | (exact ⟨.nil, _, rfl, rfl, by omega⟩)
    | ((first | (refine br_n (fun hq => ?_) (fun hq => ?_)) | (refine idx_intro (fun x hx => have hq := hx; ?_))) <;> (try simp only [go_sem, seval, tmW, tmF, tmP, hq]))
    | (simp (disch := omega) only [wrap_ok])
    | ((first
     | (refine (ACalls.emb hg [5, 1, 2, 3, 4] rfl rfl rfl (by decide) rfl ?_) <;> (rintro c H' (⟨ez, Bz, rfl, rfl⟩ | ⟨kz, rfl, rfl⟩) _ <;> refine ⟨rfl, rfl, ?_⟩))
     | (refine hto.lend rfl (by first | (simp only [go_sem, seval]; done) | (simp only [go_sem, seval, kz]; done)) ?_)
     | (refine (iTermOk_fn _ sd).calls rfl ?_)
     | (refine ⟨sd, ?_⟩)
     | (refine ⟨by assumption, ?_⟩)) <;> (try simp only [go_sem, seval, tmW, tmF, tmP]))
    | assumption)
end Go.Proofs.YtccphilpfmfagaaDoor
