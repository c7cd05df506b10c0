import Derived.Test.YtccphilpfmfagaaDoorW98
namespace Go.Proofs.YtccphilpfmfagaaDoor
open Go.Abs
set_option maxRecDepth 100000
set_option maxHeartbeats 4000000
set_option linter.unusedSimpArgs false
set_option linter.unusedVariables false
theorem psubV_ok {s : List UInt8} {l : List Bd} (h : psubV s = some l) : (∀ x, x ∈ l → wtL x.to.enc ≤ 80000) ∧ l.length ≤ 400 := by
 unfold psubV at h
 cases hT : tokV s with
 | none => rw [hT] at h; cases h
 | some T =>
  rw [hT] at h
  dsimp only at h
  unfold subT at h
  cases hb : subL T (T.length + 1) 0 with
  | none => rw [hb] at h; cases h
  | some b =>
   rw [hb] at h
   dsimp only at h
   split at h
   ·rename_i hs
    cases h
    refine ⟨(subL_all _ _ _ _ hb).1, ?_⟩
    unfold substB at hs
    simp only [Bool.and_eq_true, decide_eq_true_eq] at hs
    exact hs.1.1
   ·cases h
theorem lawFnExactParseSubst (a0 : List UInt8) (ha0 : a0.length ≤ maxLen) (te tr : TypeId) (pe pr : Value) : ACalls Tryd.prog 5 [.d (.str a0)] [tabO, synO te pe, ranO tr pr] (fun c H' => c = .d (.bool true) ∧ H' = [tabO, synO te pe, ranO tr pr]) := by
 refine ACalls.enter (fn := Tryd.f5) Tryd.func5 rfl (by show 1 ≤ _; decide) ?_
 refine AW.hole ?_
 refine AW.hole ?_
 refine run_sound Tryd.func5 mixed 200 _ _ (by kernel_rfl) ?_
 simp only [go_sem, seval]
 refine br_intro (fun hq => ?_) (fun hq => ?_)
 ·simp only [go_sem, seval]
 simp only [decide_eq_false_iff_not, Int.not_lt] at hq
 have hsa0 : a0.length ≤ 1048576 := by omega
 clear hq
 try simp only [go_sem, seval]
 have hmx : maxLen = 9223372036854775807 := rfl
 have hw0 := sParseSubst_fn a0 hsa0
 have hg := iParseSubst_T a0 hsa0 te tr pe pr
 cases ho : psubV a0 with
 | none =>
  rw [ho, sbC_none] at hw0
  rw [ho] at hg
  unfold sbR at hg
  dsimp only at hg
  have hei := eqBdS_of [] (by simp) (fun x hx => by cases hx)
  have hh := heldBindingS_T [] 1 (by omega) (by simp [Bd.mcnts])
  simp only [Bd.mrks, List.map_nil, Bd.mcnts] at hh hei
  have z1 : (1 : Int) + ((0 : Nat) : Int) = 1 := rfl
  rw [z1] at hh
  repeat' (first
   | ((first | (refine br_n (fun hq => ?_) (fun hq => ?_)) | (refine idx_intro (fun x hx => have hq := hx; ?_))) <;> (try simp only [go_sem, seval, hq]))
   | (simp (disch := omega) only [wrap_ok])
   | ((first
    | (refine hw0.calls rfl ?_)
    | (refine (ACalls.emb hg [3, 0, 1, 2] rfl rfl rfl (by decide) rfl ?_) <;> (rintro c H' ⟨rfl, rfl⟩ _; refine ⟨rfl, rfl, ?_⟩))
    | (refine hei.calls rfl ?_)
    | (refine hei.callQ rfl ?_)
    | (refine (markBindingS_0 1).calls rfl ?_)
    | (refine hh.calls rfl ?_)
    | (refine (sParseSubst_fn _ sd).calls rfl ?_)
    | (refine ⟨sd, ?_⟩)
    | (refine ⟨by assumption, ?_⟩)) <;> (try simp only [go_sem, seval]))
   | assumption)
 | some L =>
  rw [ho, sbC_some] at hw0
  rw [ho] at hg
  unfold sbR at hg
  dsimp only at hg
  obtain ⟨hok, h40⟩ := psubV_ok ho
  have hwt := Bd.wts L 80000 hok
  have hmc := Bd.mcnts_wt L
  have hei := eqBdS_of L (by omega) (fun x hx => Nat.le_trans (hok x hx) (by decide))
  have hmk := markBindingS_T L 1
  have hh := heldBindingS_T L 1 (by omega) (by omega)
  repeat' (first
   | ((first | (refine br_n (fun hq => ?_) (fun hq => ?_)) | (refine idx_intro (fun x hx => have hq := hx; ?_))) <;> (try simp only [go_sem, seval, hq]))
   | (simp (disch := omega) only [wrap_ok])
   | ((first
    | (refine hw0.calls rfl ?_)
    | (refine (ACalls.emb hg [3, 0, 1, 2] rfl rfl rfl (by decide) rfl ?_) <;> (rintro c H' ⟨e1, B1, rfl, rfl⟩ _; refine ⟨rfl, rfl, ?_⟩))
    | (refine (ACalls.emb hg [4, 0, 1, 2] rfl rfl rfl (by decide) rfl ?_) <;> (rintro c H' ⟨e2, B2, rfl, rfl⟩ _; refine ⟨rfl, rfl, ?_⟩))
    | (refine hei.lend rfl (by simp only [go_sem, seval]) ?_)
    | (refine hh.lend rfl (by simp only [go_sem, seval]) ?_)
    | (refine (ACalls.emb (hmk 1 _ _ (by omega) (by omega)) [3] rfl rfl rfl (by decide) rfl ?_) <;> (rintro c H' ⟨rfl, B3, rfl⟩ _; refine ⟨rfl, rfl, ?_⟩))
    | (refine (sParseSubst_fn _ sd).calls rfl ?_)
    | (refine ⟨sd, ?_⟩)
    | (refine ⟨by assumption, ?_⟩)) <;> (try simp only [go_sem, seval]))
   | assumption)
  all_goals first | (exfalso; omega) | skip
end Go.Proofs.YtccphilpfmfagaaDoor
