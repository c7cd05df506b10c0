import Derived.Test.YtccphilpfmfagaaDoorW88
namespace Go.Proofs.YtccphilpfmfagaaDoor
open Go.Abs
set_option maxRecDepth 100000
set_option maxHeartbeats 4000000
set_option linter.unusedSimpArgs false
set_option linter.unusedVariables false
theorem markTerm_0 (a b : Int) (s : List UInt8) (k : Int) : Gives Tryd.prog 15 [.agg [.int .i64 a, .int .i64 b, .str s, .sl []], .int .i64 k] (.d (.int .i64 k)) := by
 refine ACalls.enter (fn := Tryd.f15) Tryd.func15 rfl (by show 2 ≤ _; decide) ?_
 refine run_sound Tryd.func15 mixed 200 _ _ (by kernel_rfl) ?_
 simp only [go_sem, seval]
 repeat' (first
  | ((first | (refine br_n (fun hq => ?_) (fun hq => ?_)) | (refine idx_intro (fun x hx => have hq := hx; ?_))) <;> (try simp only [go_sem, seval, hq]))
  | (simp (disch := omega) only [wrap_ok])
  | ((first
   | (refine (markTermS_0 k).calls rfl ?_)
   | (refine ⟨sd, ?_⟩)
   | (refine ⟨by assumption, ?_⟩)) <;> (try simp only [go_sem, seval]))
  | assumption)
theorem markTerm_T (a b : Int) (s : List UInt8) (L : List Tm) (k : Int) (q e : Nat) (B : Nat → Prop) (h0 : 0 ≤ k) (h1 : k + Tm.mcnts L ≤ 1000000000) : ACalls Tryd.prog 15 [.agg [.d (.int .i64 a), .d (.int .i64 b), .d (.str s), .own 0 q], .d (.int .i64 k)] [.tree q 4 e (L.map Tm.enc) B none] (fun c H' => c = .d (.int .i64 (k + Tm.mcnts L)) ∧ ∃ B', H' = [.tree q 4 e ((Tm.mrks k L).map Tm.enc) B' none]) := by
 have hm := mTT_all L k q e B h0 h1
 refine ACalls.enter (fn := Tryd.f15) Tryd.func15 rfl (by show 2 ≤ _; decide) ?_
 refine run_sound Tryd.func15 mixed 200 _ _ (by kernel_rfl) ?_
 simp only [go_sem, seval]
 repeat' (first
  | (exact ⟨_, rfl⟩)
  | ((first | (refine br_n (fun hq => ?_) (fun hq => ?_)) | (refine idx_intro (fun x hx => have hq := hx; ?_))) <;> (try simp only [go_sem, seval, hq]))
  | (simp (disch := omega) only [wrap_ok])
  | ((first
   | (refine (ACalls.emb hm [0] rfl rfl rfl (by decide) rfl ?_) <;> (rintro c H' ⟨rfl, B3, rfl⟩ _; refine ⟨rfl, rfl, ?_⟩))
   | (refine ⟨sd, ?_⟩)
   | (refine ⟨by assumption, ?_⟩)) <;> (try simp only [go_sem, seval]))
  | assumption)
theorem heldTerm_fn (a b : Int) (s : List UInt8) (L : List Tm) (k : Int) (h0 : 0 ≤ k) (h1 : k + Tm.mcnts L ≤ 1000000000) : Gives Tryd.prog 16 [.agg [.int .i64 a, .int .i64 b, .str s, .sl ((Tm.mrks k L).map Tm.enc)], .int .i64 k] (.d (.int .i64 (k + Tm.mcnts L))) := by
 have hm := hTT_all L k h0 h1
 refine ACalls.enter (fn := Tryd.f16) Tryd.func16 rfl (by show 2 ≤ _; decide) ?_
 refine run_sound Tryd.func16 mixed 200 _ _ (by kernel_rfl) ?_
 simp only [go_sem, seval]
 repeat' (first
  | ((first | (refine br_n (fun hq => ?_) (fun hq => ?_)) | (refine idx_intro (fun x hx => have hq := hx; ?_))) <;> (try simp only [go_sem, seval, hq]))
  | (simp (disch := omega) only [wrap_ok])
  | ((first
   | (refine hm.calls rfl ?_)
   | (refine ⟨sd, ?_⟩)
   | (refine ⟨by assumption, ?_⟩)) <;> (try simp only [go_sem, seval]))
  | assumption)
 all_goals (exfalso; omega)
theorem lawFnExactParseTerm (a0 : List UInt8) (ha0 : a0.length ≤ maxLen) (te tr : TypeId) (pe pr : Value) : ACalls Tryd.prog 4 [.d (.str a0)] [tabO, synO te pe, ranO tr pr] (fun c H' => c = .d (.bool true) ∧ H' = [tabO, synO te pe, ranO tr pr]) := by
 refine ACalls.enter (fn := Tryd.f4) Tryd.func4 rfl (by show 1 ≤ _; decide) ?_
 refine AW.hole ?_
 refine AW.hole ?_
 refine run_sound Tryd.func4 mixed 200 _ _ (by kernel_rfl) ?_
 simp only [go_sem, seval]
 refine br_intro (fun hq => ?_) (fun hq => ?_)
 ·simp only [go_sem, seval]
 simp only [decide_eq_false_iff_not, Int.not_lt] at hq
 have hsa0 : a0.length ≤ 1048576 := by omega
 clear hq
 try simp only [go_sem, seval]
 have hmx : maxLen = 9223372036854775807 := rfl
 have hw0 := sParseTerm_fn a0 hsa0
 have hg := iParseTerm_T a0 hsa0 te tr pe pr
 cases ho : p1V a0 with
 | none =>
  rw [ho, atomC_none] at hw0
  rw [ho] at hg
  unfold plR at hg
  dsimp only at hg
  have hei := eqTm_fn V.nil.tm (by simp [V.tm, Tm.enc_eq, wtL, D.wt, wtR, Tm.name, Tm.args])
  have hh := heldTerm_fn 0 0 [] [] 1 (by omega) (by simp [Tm.mcnts])
  rw [show V.nil.tm.enc = [.int .i64 0, .int .i64 0, .str [], .sl []] from V.enc_nil] at hei
  simp only [Tm.mrks, List.map_nil, Tm.mcnts] at hh
  have z1 : (1 : Int) + ((0 : Nat) : Int) = 1 := rfl
  rw [z1] at hh
  repeat' (first
   | ((first | (refine br_n (fun hq => ?_) (fun hq => ?_)) | (refine idx_intro (fun x hx => have hq := hx; ?_))) <;> (try simp only [go_sem, seval, hq]))
   | (simp (disch := omega) only [wrap_ok])
   | ((first
    | (refine hw0.calls rfl ?_)
    | (refine (ACalls.emb hg [3, 0, 1, 2] rfl rfl rfl (by decide) rfl ?_) <;> (rintro c H' ⟨rfl, rfl⟩ _; refine ⟨rfl, rfl, ?_⟩))
    | (refine hei.calls rfl ?_)
    | (refine hei.callQ rfl ?_)
    | (refine (markTerm_0 0 0 [] 1).calls rfl ?_)
    | (refine hh.calls rfl ?_)
    | (refine (sParseTerm_fn _ sd).calls rfl ?_)
    | (refine ⟨sd, ?_⟩)
    | (refine ⟨by assumption, ?_⟩)) <;> (try simp only [go_sem, seval]))
   | assumption)
 | some v =>
  rw [ho] at hw0 hg
  unfold atomC at hw0
  unfold plR tmP at hg
  dsimp only at hg hw0
  have hok : v.ok = true := by
   unfold p1V at ho
   split at ho
   ·split at ho
    ·rename_i h1
     split at ho
     ·cases ho; exact (rdO_len h1).2.2
     ·cases ho
    ·cases ho
   ·cases ho
  have hwt := ok_wt hok
  have hei := eqTm_fn v.tm (by unfold V.enc at hwt; omega)
  rw [show v.tm.enc = v.enc from rfl, V.enc_eq v] at hei
  rw [V.enc_eq v] at hw0 hwt
  unfold tmO tmW tmF at hg
  simp only [wtL, D.wt, Nat.zero_add, Nat.add_zero] at hwt
  generalize v.kind = kd at *
  generalize v.int = it at *
  generalize v.name = nm at *
  by_cases hk : v.kids = []
  ·rw [hk] at hg hei hw0
   have hmk := markTerm_T kd it nm [] 1
   have hh := heldTerm_fn kd it nm [] 1 (by omega) (by simp [Tm.mcnts])
   simp only [Tm.mrks, List.map_nil, Tm.mcnts] at hh hmk hg hei hw0
   have z1 : (1 : Int) + ((0 : Nat) : Int) = 1 := rfl
   rw [z1] at hh hmk
   repeat' (first
    | ((first | (refine br_n (fun hq => ?_) (fun hq => ?_)) | (refine idx_intro (fun x hx => have hq := hx; ?_))) <;> (try simp only [go_sem, seval, hq]))
    | (simp (disch := omega) only [wrap_ok])
    | ((first
     | (refine hw0.calls rfl ?_)
     | (refine (ACalls.emb hg [3, 0, 1, 2] rfl rfl rfl (by decide) rfl ?_) <;> (rintro c H' (⟨e1, B1, rfl, rfl⟩ | ⟨kz, rfl, rfl⟩) _ <;> refine ⟨rfl, rfl, ?_⟩))
     | (refine (ACalls.emb hg [4, 0, 1, 2] rfl rfl rfl (by decide) rfl ?_) <;> (rintro c H' (⟨e2, B2, rfl, rfl⟩ | ⟨kz2, rfl, rfl⟩) _ <;> refine ⟨rfl, rfl, ?_⟩))
     | (refine hei.calls rfl ?_)
     | (refine hei.callQ rfl ?_)
     | (refine hei.lend rfl (by simp only [go_sem, seval]) ?_)
     | (refine hei.lendQ rfl (by simp only [go_sem, seval]) ?_)
     | (refine (markTerm_0 kd it nm 1).calls rfl ?_)
     | (refine hh.calls rfl ?_)
     | (refine hh.lend rfl (by simp only [go_sem, seval]) ?_)
     | (refine (ACalls.emb (hmk 1 _ _ (by omega) (by omega)) [3] rfl rfl rfl (by decide) rfl ?_) <;> (rintro c H' ⟨rfl, B3, rfl⟩ _; refine ⟨rfl, rfl, ?_⟩))
     | (refine (sParseTerm_fn _ sd).calls rfl ?_)
     | (refine ⟨sd, ?_⟩)
     | (refine ⟨by assumption, ?_⟩)) <;> (try simp only [go_sem, seval]))
    | assumption)
   all_goals first | (exfalso; omega) | skip
   all_goals fail "A"
  ·obtain ⟨L, hL⟩ : ∃ L, v.kids.map V.tm = L := ⟨_, rfl⟩
   rw [← enc_tms, hL] at hg hei hw0 hwt
   have hmc := Tm.mcnts_wt L
   have hmk := markTerm_T kd it nm L 1
   have hh := heldTerm_fn kd it nm L 1 (by omega) (by omega)
   repeat' (first
    | ((first | (refine br_n (fun hq => ?_) (fun hq => ?_)) | (refine idx_intro (fun x hx => have hq := hx; ?_))) <;> (try simp only [go_sem, seval, hq]))
    | (simp (disch := omega) only [wrap_ok])
    | ((first
     | (refine hw0.calls rfl ?_)
     | (refine (ACalls.emb hg [3, 0, 1, 2] rfl rfl rfl (by decide) rfl ?_) <;> (rintro c H' (⟨e1, B1, rfl, rfl⟩ | ⟨kz, rfl, rfl⟩) _; refine ⟨rfl, rfl, ?_⟩; rotate_left; exact absurd kz hk))
     | (refine (ACalls.emb hg [4, 0, 1, 2] rfl rfl rfl (by decide) rfl ?_) <;> (rintro c H' (⟨e2, B2, rfl, rfl⟩ | ⟨kz2, rfl, rfl⟩) _; refine ⟨rfl, rfl, ?_⟩; rotate_left; exact absurd kz2 hk))
     | (refine hei.lend rfl (by simp only [go_sem, seval]) ?_)
     | (refine hei.lendQ rfl (by simp only [go_sem, seval]) ?_)
     | (refine hh.lend rfl (by simp only [go_sem, seval]) ?_)
     | (refine (ACalls.emb (hmk 1 _ _ (by omega) (by omega)) [3] rfl rfl rfl (by decide) rfl ?_) <;> (rintro c H' ⟨rfl, B3, rfl⟩ _; refine ⟨rfl, rfl, ?_⟩))
     | (refine (sParseTerm_fn _ sd).calls rfl ?_)
     | (refine ⟨sd, ?_⟩)
     | (refine ⟨by assumption, ?_⟩)) <;> (try simp only [go_sem, seval]))
    | assumption)
   all_goals first | (exfalso; omega) | skip
   all_goals fail "B"
end Go.Proofs.YtccphilpfmfagaaDoor
