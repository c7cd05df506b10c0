import Derived.Test.YtfniakcjekooiaaGreatW68
import Derived.Test.YtfniakcjekooiaaGreatW8
namespace Go.Proofs.YtfniakcjekooiaaGreat
open Go.Abs
set_option maxRecDepth 100000
set_option maxHeartbeats 4000000
set_option linter.unusedSimpArgs false
set_option linter.unusedVariables false
theorem cRows_ok {p : Pg} (h : pgOk p = true) : RelRows (cRows p) ∧ (∀ r, r ∈ cRows p → Asc r) ∧ p.rels.length ≤ 8 := by
 have h0 := h
 unfold pgOk at h0
 simp only [Bool.and_eq_true, decide_eq_true_eq] at h0
 have ha : ∀ r, r ∈ cRows p → Asc r := fun r hr => by
  obtain ⟨x, _, rfl⟩ := List.mem_map.1 hr
  exact ascOf_asc _
 refine ⟨fun r hr => ⟨asc_nodup (ha r hr), fun y hy => ?_⟩, ha, h0.1⟩
 obtain ⟨x, hx, rfl⟩ := List.mem_map.1 hr
 unfold Pg.rowI at hy
 rw [ascOf_mem] at hy
 obtain ⟨nm, hn, rfl⟩ := List.mem_map.1 hy
 obtain ⟨k, hk⟩ := okL_mem h0.2 x hx
 unfold Pg.relOk at hk
 simp only [Bool.and_eq_true] at hk
 have hc : p.callsFit x.body = true := hk.2
 unfold Pg.callNames at hn
 obtain ⟨g, hg, hgn⟩ := List.mem_map.1 hn
 obtain ⟨hg1, hg2⟩ := List.mem_filter.1 hg
 unfold Pg.callsFit at hc
 simp only [List.all_eq_true] at hc
 have hf := hc g hg1
 have h9 : g.kind = 9 := by simpa using hg2
 unfold Pg.fitC at hf
 rw [hgn] at hf
 simp only [h9, decide_true, Bool.not_true, Bool.false_or] at hf
 have hcl := cRows_len p
 have hr := p.find_range nm
 split at hf
 ·rename_i r' hr'
  simp only [Bool.and_eq_true, decide_eq_true_eq] at hf
  omega
 ·cases hf
theorem l02Has_fn (l : List Int) (k : Int) : Gives Tryz.prog 14 [.sl (intsD l), .int .i64 k] (.d (.bool (decide (k ∈ l)))) := by
 have hf : (decide (k ∈ l)) = (l.any fun x => decide (x = k)) := by
  rw [Bool.eq_iff_iff, decide_eq_true_eq, List.any_eq_true]
  exact ⟨fun h => ⟨k, h, by simp⟩, fun ⟨x, hx, he⟩ => by simp at he; subst he; exact hx⟩
 rw [hf]
 generalize hN : (l.any fun x => decide (x = k)) = N
 refine ACalls.enter (fn := Tryz.f14) Tryz.func14 rfl (by show 2 ≤ _; decide) ?_
 refine run_sound Tryz.func14 mixed 200 _ _ (by kernel_rfl) ?_
 simp only [go_sem, seval]
 repeat' (first
  | ((first | (refine br_n (fun hq => ?_) (fun hq => ?_)) | (refine idx_intro (fun x hx => have hq := hx; ?_))) <;> (try simp only [go_sem, seval, hq]))
  | (simp (disch := omega) only [wrap_ok])
  | ((first
   | (refine ⟨sd, ?_⟩)
   | (refine ⟨by assumption, ?_⟩)) <;> (try simp only [go_sem, seval]))
  | assumption)
 refine AW.rng l [1, 7, 8] 9 7 (fun _ : Unit => []) (fun H _ => H) (fun r _ => (r.any fun x => decide (x = k)) = N) () rfl (by simp [intsD]) hN (by refine ⟨by simp [mkS], by simp [mkS], by simp [mkS, O.refsLt, C.refsLt, C.refsLt1], ?_⟩; simp [mkS, Abs.get, C.refsLtT, C.refsLt, C.refsLt1]) (fun i x r acc hxi hdr hlt hm hinv hnext => ?_) (fun acc hinv => ?_)
 ·simp only [List.any_cons] at hinv
  have hai := intsD_at hxi
  refine run_sound Tryz.func14 mixed 200 _ _ (by kernel_rfl) ?_
  simp only [go_sem, seval, hlt, idx_of hai]
  repeat' (first
   | ((first | (refine br_n (fun hq => ?_) (fun hq => ?_)) | (refine idx_intro (fun x hx => have hq := hx; ?_))) <;> (try simp only [go_sem, seval, hlt, idx_of hai, hq]))
   | (simp (disch := omega) only [wrap_ok])
   | (refine hnext () _ ?_ (by refine ⟨by simp [mkS], by simp [mkS], by simp [mkS, O.refsLt, C.refsLt, C.refsLt1], ?_⟩; simp [mkS, Abs.get, C.refsLtT, C.refsLt, C.refsLt1]))
   | ((first
    | (refine ⟨sd, ?_⟩)
    | (refine ⟨by assumption, ?_⟩)) <;> (try simp only [go_sem, seval, hlt, idx_of hai]))
   | assumption)
  all_goals simp_all
 ·simp only [List.any_nil] at hinv
  subst hinv
  refine run_sound Tryz.func14 mixed 200 _ _ (by kernel_rfl) ?_
  simp only [go_sem, seval]
end Go.Proofs.YtfniakcjekooiaaGreat
