import Derived.Test.YtiejomgbfpffoaaDoorW88
namespace Go.Proofs.YtiejomgbfpffoaaDoor
open Go.Abs
set_option maxRecDepth 100000
set_option maxHeartbeats 4000000
set_option linter.unusedSimpArgs false
set_option linter.unusedVariables false
theorem lawFnExactParseTerms (a0 : List UInt8) (ha0 : a0.length ≤ maxLen) (te tr : TypeId) (pe pr : Value) : ACalls Tryd.prog 3 [.d (.str a0)] [tabO, synO te pe, ranO tr pr] (fun c H' => c = .d (.bool true) ∧ H' = [tabO, synO te pe, ranO tr pr]) := by
 refine ACalls.enter (fn := Tryd.f3) Tryd.func3 rfl (by show 1 ≤ _; decide) ?_
 refine AW.hole ?_
 refine AW.hole ?_
 refine run_sound Tryd.func3 mixed 200 _ _ (by kernel_rfl) ?_
 simp only [go_sem, seval]
 refine br_intro (fun hq => ?_) (fun hq => ?_)
 ·simp only [go_sem, seval]
 simp only [decide_eq_false_iff_not, Int.not_lt] at hq
 have hsa0 : a0.length ≤ 1048576 := by omega
 clear hq
 try simp only [go_sem, seval]
 have hmx : maxLen = 9223372036854775807 := rfl
 have hw0 := sParseTerms_fn a0 hsa0
 have hg := iParseTerms_T a0 hsa0 te tr pe pr
 cases ho : ptV a0 with
 | none =>
  rw [ho, ptC_none] at hw0
  rw [ho] at hg
  unfold psR at hg
  dsimp only at hg
  have hei := eqTmS_of [] (by simp) (fun x hx => by cases hx)
  have hh := hTT_all [] 1 (by omega) (by simp [Tm.mcnts])
  simp only [Tm.mrks, List.map_nil, Tm.mcnts] at hh hei
  have z1 : (1 : Int) + ((0 : Nat) : Int) = 1 := rfl
  rw [z1] at hh
  repeat' (first
   | ((first | (refine br_n (fun hq => ?_) (fun hq => ?_)) | (refine idx_intro (fun x hx => have hq := hx; ?_))) <;> (try simp only [go_sem, seval, hq]))
   | (simp (disch := omega) only [wrap_ok])
   | ((first
    | (refine hw0.calls rfl ?_)
    | (refine (ACalls.emb hg [3, 0, 1, 2] rfl rfl rfl (by decide) rfl ?_) <;> (rintro c H' ⟨rfl, rfl⟩ _; refine ⟨rfl, rfl, ?_⟩))
    | (refine hei.calls rfl ?_)
    | (refine hei.callQ rfl ?_)
    | (refine (markTermS_0 1).calls rfl ?_)
    | (refine hh.calls rfl ?_)
    | (refine (sParseTerms_fn _ sd).calls rfl ?_)
    | (refine ⟨sd, ?_⟩)
    | (refine ⟨by assumption, ?_⟩)) <;> (try simp only [go_sem, seval]))
   | assumption)
 | some l =>
  rw [ho, ptC_some] at hw0
  rw [ho] at hg
  unfold psR at hg
  dsimp only at hg
  obtain ⟨hok, h40⟩ := ptV_ok ho
  have hwt := oks_wt l hok
  rw [← enc_tms] at hw0 hg hwt
  obtain ⟨L, hL⟩ : ∃ L, l.map V.tm = L := ⟨_, rfl⟩
  have hLl : L.length = l.length := by rw [← hL]; simp
  rw [hL] at hw0 hg hwt
  have hmc := Tm.mcnts_wt L
  have hei := eqTmS_of L (by omega) (fun x hx => eqTm_fn x (by have := wtL_lt (L.map Tm.enc) x.enc (List.mem_map_of_mem hx); omega))
  have hmk := mTT_all L 1
  have hh := hTT_all L 1 (by omega) (by omega)
  repeat' (first
   | ((first | (refine br_n (fun hq => ?_) (fun hq => ?_)) | (refine idx_intro (fun x hx => have hq := hx; ?_))) <;> (try simp only [go_sem, seval, hq]))
   | (simp (disch := omega) only [wrap_ok])
   | ((first
    | (refine hw0.calls rfl ?_)
    | (refine (ACalls.emb hg [3, 0, 1, 2] rfl rfl rfl (by decide) rfl ?_) <;> (rintro c H' ⟨e1, B1, rfl, rfl⟩ _; refine ⟨rfl, rfl, ?_⟩))
    | (refine (ACalls.emb hg [4, 0, 1, 2] rfl rfl rfl (by decide) rfl ?_) <;> (rintro c H' ⟨e2, B2, rfl, rfl⟩ _; refine ⟨rfl, rfl, ?_⟩))
    | (refine hei.lend rfl (by simp only [go_sem, seval]) ?_)
    | (refine hh.lend rfl (by simp only [go_sem, seval]) ?_)
    | (refine (ACalls.emb (hmk 1 _ _ (by omega) (by omega)) [3] rfl rfl rfl (by decide) rfl ?_) <;> (rintro c H' ⟨rfl, B3, rfl⟩ _; refine ⟨rfl, rfl, ?_⟩))
    | (refine (sParseTerms_fn _ sd).calls rfl ?_)
    | (refine ⟨sd, ?_⟩)
    | (refine ⟨by assumption, ?_⟩)) <;> (try simp only [go_sem, seval]))
   | assumption)
  all_goals first | (exfalso; omega) | skip
end Go.Proofs.YtiejomgbfpffoaaDoor
