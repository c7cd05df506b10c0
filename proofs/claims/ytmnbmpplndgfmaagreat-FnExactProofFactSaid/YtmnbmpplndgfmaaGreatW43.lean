/- The fact that a derivation derives: both texts. -/
import Derived.Test.YtmnbmpplndgfmaaGreatW39
import Derived.Test.YtmnbmpplndgfmaaGreatW41
import Derived.Test.YtmnbmpplndgfmaaGreatW20
namespace Go.Proofs.YtmnbmpplndgfmaaGreat
open Go.Abs
set_option maxRecDepth 100000
set_option maxHeartbeats 4000000
set_option linter.unusedSimpArgs false
set_option linter.unusedVariables false

theorem copyFact_T (rel : List UInt8) (vs : List V) (hl : vs.length ≤ 100000000) : ACalls Tryz.prog 130 [.d (.agg [.str rel, .sl (vs.map V.enc)])] [.hole] (fun c H' => c = .agg [.d (.str rel), .own 0 1] ∧ ∃ e B, H' = [.tree 1 4 e (vs.map V.enc) B none]) := by
  have hct := copyTerms_T vs hl
  unfold cpTs at hct
  refine ACalls.enter (fn := Tryz.f130) Tryz.func130 rfl (by show 1 ≤ _; decide) ?_
  refine run_sound Tryz.func130 mixed 3 _ _ (by kernel_rfl) ?_
  simp only [go_sem, seval, run.eq_1]
  refine AW.drawA mixed #[true, true, true, true, true, true, false] [(1, .box [.d (.str rel), .d (.sl (vs.map V.enc))])] [] [0, 1, 2, 3, 4, 5] [6] none (by kernel_rfl) trivial (by simp [holdsB]) ?_
  simp only [go_sem, seval]
  repeat' (first
    | ((first | (refine br_n (fun hq => ?_) (fun hq => ?_)) | (refine idx_intro (fun x hx => have hq := hx; ?_))) <;> (try simp only [go_sem, seval, hq]))
    | (simp (disch := omega) only [wrap_ok])
    | ((first
      | (refine ACalls.fresh (ds := [.sl (vs.map V.enc)]) (m := 1) hct [0] rfl rfl (by simp) (by simp) ?_ <;> (rintro c H' ⟨rfl, e1, B1, rfl⟩ _; refine ⟨rfl, rfl, ?_⟩))
      | (refine ⟨sd, ?_⟩)) <;> (try simp only [go_sem, seval]))
    | assumption)
  refine run_sound Tryz.func130 mixed 200 _ _ (by kernel_rfl) ?_
  simp only [go_sem, seval]
  repeat' (first
    | (exact ⟨_, _, rfl⟩)
    | ((first | (refine br_n (fun hq => ?_) (fun hq => ?_)) | (refine idx_intro (fun x hx => have hq := hx; ?_))) <;> (try simp only [go_sem, seval, hq]))
    | (simp (disch := omega) only [wrap_ok])
    | ((first
      | (refine ⟨sd, ?_⟩)) <;> (try simp only [go_sem, seval]))
    | assumption)
/-- What is derived. -/
def pfR (p : Pg) (t : Pf) : List UInt8 := if p.prfOk t = true then t.rel else []
def pfA (p : Pg) (t : Pf) : List Tm := if p.prfOk t = true then (p.headV t.rel t.values).2.map V.tm else []
theorem prfOk_inv {p : Pg} {t : Pf} (h : p.prfOk t = true) : pgOk p = true ∧ p.prf t = true := by
  unfold Pg.prfOk at h
  simp only [Bool.and_eq_true] at h
  exact ⟨h.1, h.2.2⟩
theorem head_wt {p : Pg} {t : Pf} (h : p.prf t = true) : (p.headV t.rel t.values).1 = t.rel ∧ (p.headV t.rel t.values).2.length ≤ t.values.length ∧ wtR (((p.headV t.rel t.values).2.map V.tm).map Tm.enc) ≤ wtR (t.values.map Tm.enc) := by
  obtain ⟨_, r, _, _, hg, hh⟩ := Pg.prf_head h
  rw [hh]
  have htake : ∀ (l : List Tm) (k : Nat), wtR ((l.take k).map Tm.enc) ≤ wtR (l.map Tm.enc) := by
    intro l
    induction l with
    | nil => intro k; simp
    | cons x r ih => intro k; cases k with
      | zero => simp [wtR]
      | succ k => have := ih k; simp only [List.take_succ_cons, List.map_cons, wtR]; omega
  refine ⟨rfl, by simp; omega, ?_⟩
  dsimp only
  rw [List.map_take, ← grounds_V hg]
  exact htake _ _
theorem iProofFact_T (p : Pg) (t : Pf) (hwp : wtL p.enc ≤ 1048576) (hw : wtL t.enc ≤ 1048576) : ACalls Tryz.prog 49 [.d (.agg p.enc), .d (.agg t.enc)] [.hole] (fun c H' => c = .tup [.agg [.d (.str (pfR p t)), .own 0 1], .d (.bool (p.prfOk t))] ∧ ∃ e B, H' = [.tree 1 4 e ((pfA p t).map Tm.enc) B none]) := by
  have hok := iProofOk_fn p t hwp hw
  unfold pfR pfA
  by_cases h : p.prfOk t = true
  · obtain ⟨h1, h2⟩ := prfOk_inv h
    obtain ⟨e1, e2, e3⟩ := head_wt h2
    have hf := proofFact_fn p h1 t h2
    have hvl : t.values.length ≤ 1048576 := by
      have h2 := sumW_le (t.values.map Tm.enc) 0
      simp only [sumW, List.length_map] at h2
      simp only [Pf.enc_eq t, wtL, D.wt] at hw; omega
    have hc := copyFact_T t.rel (p.headV t.rel t.values).2 (by omega)
    have hfe : (FcV.fc (p.headV t.rel t.values)).enc = [.str t.rel, .sl ((p.headV t.rel t.values).2.map V.enc)] := by rw [Fc.enc_eq]; simp only [FcV.fc, e1, enc_tms]
    rw [hfe] at hf
    rw [h] at hok ⊢
    simp only [if_true, enc_tms]
    refine ACalls.enter (fn := Tryz.f49) Tryz.func49 rfl (by show 2 ≤ _; decide) ?_
    refine run_sound Tryz.func49 mixed 200 _ _ (by kernel_rfl) ?_
    simp only [go_sem, seval]
    repeat' (first
      | (exact ⟨_, _, rfl⟩)
      | ((first | (refine br_n (fun hq => ?_) (fun hq => ?_)) | (refine idx_intro (fun x hx => have hq := hx; ?_))) <;> (try simp only [go_sem, seval, hq]))
      | (simp (disch := omega) only [wrap_ok])
      | ((first
        | (refine hok.calls rfl ?_)
        | (refine hf.calls rfl ?_)
        | (refine ACalls.fresh (ds := [.agg [.str t.rel, .sl ((p.headV t.rel t.values).2.map V.enc)]]) (m := 1) hc [0] rfl rfl (by simp) (by simp) ?_ <;> (rintro c H' ⟨rfl, e1, B1, rfl⟩ _; refine ⟨rfl, rfl, ?_⟩))
        | (refine (iProofOk_fn _ _ sd sd).calls rfl ?_)
        | (refine (iProofOk_fn _ _ sd sd).callQ rfl ?_)
        | (refine (proofFact_fn _ (by assumption) _ (by assumption)).calls rfl ?_)
        | (refine (proofFact_fn _ (by assumption) _ (by assumption)).callQ rfl ?_)
        | (refine ⟨sd, ?_⟩)) <;> (try simp only [go_sem, seval]))
      | assumption)
  · simp only [Bool.not_eq_true] at h
    rw [h] at hok ⊢
    simp only [Bool.false_eq_true, if_false]
    refine ACalls.enter (fn := Tryz.f49) Tryz.func49 rfl (by show 2 ≤ _; decide) ?_
    refine run_sound Tryz.func49 mixed 8 _ _ (by kernel_rfl) ?_
    simp only [go_sem, seval, run.eq_1]
    repeat' (first
      | ((first | (refine br_n (fun hq => ?_) (fun hq => ?_)) | (refine idx_intro (fun x hx => have hq := hx; ?_))) <;> (try simp only [go_sem, seval, run.eq_1, hq]))
      | (simp (disch := omega) only [wrap_ok])
      | ((first
        | (refine hok.calls rfl ?_)
        | (refine (iProofOk_fn _ _ sd sd).calls rfl ?_)
        | (refine (iProofOk_fn _ _ sd sd).callQ rfl ?_)
        | (refine (proofFact_fn _ (by assumption) _ (by assumption)).calls rfl ?_)
        | (refine (proofFact_fn _ (by assumption) _ (by assumption)).callQ rfl ?_)
        | (refine ⟨sd, ?_⟩)) <;> (try simp only [go_sem, seval, run.eq_1]))
      | assumption)
    refine AW.adoptTB 3 1 4 120 (by decide) rfl rfl ?_
    refine AW.placeB 3 1 4 0 rfl rfl rfl rfl (by decide) ?_
    refine run_sound Tryz.func49 mixed 200 _ _ (by kernel_rfl) ?_
    simp only [go_sem, seval]
    repeat' (first
      | (exact ⟨_, _, rfl⟩)
      | ((first | (refine br_n (fun hq => ?_) (fun hq => ?_)) | (refine idx_intro (fun x hx => have hq := hx; ?_))) <;> (try simp only [go_sem, seval, hq]))
      | (simp (disch := omega) only [wrap_ok])
      | ((first
        | (refine (iProofOk_fn _ _ sd sd).calls rfl ?_)
        | (refine (iProofOk_fn _ _ sd sd).callQ rfl ?_)
        | (refine (proofFact_fn _ (by assumption) _ (by assumption)).calls rfl ?_)
        | (refine (proofFact_fn _ (by assumption) _ (by assumption)).callQ rfl ?_)
        | (refine ⟨sd, ?_⟩)) <;> (try simp only [go_sem, seval]))
      | assumption)
theorem l02CopyAll_fn (l : List Tm) (hw : wtR (l.map Tm.enc) ≤ 1048576) : Gives Tryz.prog 135 [.sl (l.map Tm.enc)] (.d (.sl (l.map Tm.enc))) := by
  have h := l02CopyAll_T l hw
  refine ACalls.frozen (ds := [.sl (l.map Tm.enc)]) (m := 1) h (fun c H' ⟨h1, e, B, h2⟩ _ => ?_)
  subst h1 h2; rfl
theorem l18Copy_fn (l : List Fc) (hl : l.length ≤ 2000000) (hw : ∀ x, x ∈ l → wtR (x.args.map Tm.enc) ≤ 1048576) : Gives Tryz.prog 109 [.sl (l.map Fc.enc)] (.d (.sl (l.map Fc.enc))) := by
  have hmx : maxLen = 9223372036854775807 := rfl
  refine ACalls.enter (fn := Tryz.f109) Tryz.func109 rfl (by show 1 ≤ _; decide) ?_
  refine run_sound Tryz.func109 mixed 200 _ _ (by kernel_rfl) ?_
  simp only [go_sem, seval]
  repeat' (first
    | ((first | (refine br_n (fun hq => ?_) (fun hq => ?_)) | (refine idx_intro (fun x hx => have hq := hx; ?_))) <;> (try simp only [go_sem, seval, hq]))
    | (simp (disch := omega) only [wrap_ok])
    | ((first
      | (refine (l02CopyAll_fn _ sd).calls rfl ?_)
      | (refine (l02CopyAll_fn _ sd).callQ rfl ?_)
      | (refine ⟨sd, ?_⟩)) <;> (try simp only [go_sem, seval]))
    | assumption)
  refine AW.adopt 3 2 91 (by decide) rfl ?_
  refine AW.rng l [7, 8] 9 7 (fun p : List Fc => [(3, .own 0 p.length)]) (fun _ p => [.grow p.length 2 91 (p.map Fc.enc)]) (fun r p => p ++ r = l) [] rfl (by simp) rfl (by refine ⟨by simp [mkS], by simp [mkS], by simp only [mkS, List.all_cons, List.all_nil, O.refsLt, C.refsLt, C.refsLt1, all_dmap]; first | done | rfl | (simp; done), ?_⟩; simp [mkS, Abs.get, C.refsLtT, C.refsLt, C.refsLt1]) (fun i x r p hxi hdr hlt hm hinv hnext => ?_) (fun p hinv => ?_)
  · have hxm := List.mem_of_getElem? hxi
    have hc := l02CopyAll_fn x.args (hw x hxm)
    have hpl : p.length + (r.length + 1) = l.length := by rw [← hinv]; simp
    refine run_sound Tryz.func109 mixed 9 _ _ (by kernel_rfl) ?_
    simp only [go_sem, seval, run.eq_1, hlt, idx_of hxi]
    repeat' (first
      | ((first | (refine br_n (fun hq => ?_) (fun hq => ?_)) | (refine idx_intro (fun x hx => have hq := hx; ?_))) <;> (try simp only [go_sem, seval, hlt, idx_of hxi, run.eq_1, hq]))
      | (simp (disch := omega) only [wrap_ok])
      | ((first
        | (refine (l02CopyAll_fn _ sd).calls rfl ?_)
        | (refine (l02CopyAll_fn _ sd).callQ rfl ?_)
        | (refine ⟨sd, ?_⟩)) <;> (try simp only [go_sem, seval, hlt, idx_of hxi, run.eq_1]))
      | assumption)
    refine AW.drawA mixed #[true, true, true, true, true, true, true, true, true, false] [(1, .box (x.enc.map .d))] [] [0, 1, 2, 3, 4, 5, 6, 7, 8] [9] none (by kernel_rfl) trivial (by simp [holdsB]) ?_
    simp only [go_sem, seval]
    repeat' (first
      | ((first | (refine br_n (fun hq => ?_) (fun hq => ?_)) | (refine idx_intro (fun x hx => have hq := hx; ?_))) <;> (try simp only [go_sem, seval, hq]))
      | (simp (disch := omega) only [wrap_ok])
      | ((first
        | (refine hc.calls rfl ?_)
        | (refine (l02CopyAll_fn _ sd).calls rfl ?_)
        | (refine (l02CopyAll_fn _ sd).callQ rfl ?_)
        | (refine ⟨sd, ?_⟩)) <;> (try simp only [go_sem, seval]))
      | assumption)
    refine run_sound Tryz.func109 mixed 200 _ _ (by kernel_rfl) ?_
    simp only [go_sem, seval]
    repeat' (first
      | ((first | (refine br_n (fun hq => ?_) (fun hq => ?_)) | (refine idx_intro (fun x hx => have hq := hx; ?_))) <;> (try simp only [go_sem, seval, hq]))
      | (simp (disch := omega) only [wrap_ok])
      | ((first
        | (refine (l02CopyAll_fn _ sd).calls rfl ?_)
        | (refine (l02CopyAll_fn _ sd).callQ rfl ?_)
        | (refine ⟨sd, ?_⟩)) <;> (try simp only [go_sem, seval]))
      | assumption)
    refine hnext (p ++ [x]) _ (by simp [← hinv]) (by refine ⟨by simp [mkS, Fc.enc_eq x], by simp [mkS, Fc.enc_eq x], by simp only [mkS, List.all_cons, List.all_nil, O.refsLt, C.refsLt, C.refsLt1, all_dmap]; first | done | rfl | (simp; done), ?_⟩; simp [mkS, Abs.get, C.refsLtT, C.refsLt, C.refsLt1])
  · simp only [List.append_nil] at hinv
    subst hinv
    refine run_sound Tryz.func109 mixed 200 _ _ (by kernel_rfl) ?_
    simp only [go_sem, seval]
    repeat' (first
      | ((first | (refine br_n (fun hq => ?_) (fun hq => ?_)) | (refine idx_intro (fun x hx => have hq := hx; ?_))) <;> (try simp only [go_sem, seval, hq]))
      | (simp (disch := omega) only [wrap_ok])
      | ((first
        | (refine (l02CopyAll_fn _ sd).calls rfl ?_)
        | (refine (l02CopyAll_fn _ sd).callQ rfl ?_)
        | (refine ⟨sd, ?_⟩)) <;> (try simp only [go_sem, seval]))
      | assumption)
theorem sProofFact_fn (p : Pg) (t : Pf) (hwp : wtL p.enc ≤ 1048576) (hw : wtL t.enc ≤ 1048576) : Gives Tryz.prog 48 [.agg p.enc, .agg t.enc] (.tup [.d (.agg [.str (pfR p t), .sl ((pfA p t).map Tm.enc)]), .d (.bool (p.prfOk t))]) := by
  have hok := sProofOk_fn p t hwp hw
  unfold pfR pfA
  by_cases h : p.prfOk t = true
  · obtain ⟨h1, h2⟩ := prfOk_inv h
    obtain ⟨e1, e2, e3⟩ := head_wt h2
    have hf := l20Head_fn p h1 t h2
    have hwv : wtR (t.values.map Tm.enc) ≤ 1048576 := by simp only [Pf.enc_eq t, wtL, D.wt] at hw; omega
    have hfe : FcV.fc (p.headV t.rel t.values) = ⟨t.rel, (p.headV t.rel t.values).2.map V.tm⟩ := by simp only [FcV.fc, e1]
    rw [hfe] at hf
    have hc := l18Copy_fn [⟨t.rel, (p.headV t.rel t.values).2.map V.tm⟩] (by simp) (fun x hx => by simp at hx; subst hx; dsimp only; omega)
    simp only [List.map_cons, List.map_nil] at hc
    rw [Fc.enc_eq] at hf hc
    dsimp only at hf hc
    rw [h] at hok ⊢
    simp only [if_true]
    generalize (p.headV t.rel t.values).2.map V.tm = AL at *
    refine ACalls.enter (fn := Tryz.f48) Tryz.func48 rfl (by show 2 ≤ _; decide) ?_
    refine run_sound Tryz.func48 mixed 200 _ _ (by kernel_rfl) ?_
    simp only [go_sem, seval]
    repeat' (first
      | ((first | (refine br_n (fun hq => ?_) (fun hq => ?_)) | (refine idx_intro (fun x hx => have hq := hx; ?_))) <;> (try simp only [go_sem, seval, hq]))
      | (simp (disch := omega) only [wrap_ok])
      | ((first
        | (refine hok.calls rfl ?_)
        | (refine hf.calls rfl ?_)
        | (refine hc.calls rfl ?_)
        | (refine (sProofOk_fn _ _ sd sd).calls rfl ?_)
        | (refine (sProofOk_fn _ _ sd sd).callQ rfl ?_)
        | (refine ⟨sd, ?_⟩)) <;> (try simp only [go_sem, seval]))
      | assumption)
  · simp only [Bool.not_eq_true] at h
    rw [h] at hok ⊢
    simp only [Bool.false_eq_true, if_false]
    refine ACalls.enter (fn := Tryz.f48) Tryz.func48 rfl (by show 2 ≤ _; decide) ?_
    refine run_sound Tryz.func48 mixed 200 _ _ (by kernel_rfl) ?_
    simp only [go_sem, seval]
    repeat' (first
      | ((first | (refine br_n (fun hq => ?_) (fun hq => ?_)) | (refine idx_intro (fun x hx => have hq := hx; ?_))) <;> (try simp only [go_sem, seval, hq]))
      | (simp (disch := omega) only [wrap_ok])
      | ((first
        | (refine hok.calls rfl ?_)
        | (refine (sProofOk_fn _ _ sd sd).calls rfl ?_)
        | (refine (sProofOk_fn _ _ sd sd).callQ rfl ?_)
        | (refine ⟨sd, ?_⟩)) <;> (try simp only [go_sem, seval]))
      | assumption)
end Go.Proofs.YtmnbmpplndgfmaaGreat

