/- The law FnExactStrata: both texts answer alike on every input. -/
import Derived.Test.YtljdpohdfnileaaW30
import Derived.Test.YtljdpohdfnileaaW36
import Derived.Test.YtljdpohdfnileaaW10
import Derived.Test.YtljdpohdfnileaaFam
namespace Go.Proofs.Ytljdpohdfnileaa
open Go.Abs
set_option maxRecDepth 100000
set_option maxHeartbeats 4000000
set_option linter.unusedSimpArgs false
set_option linter.unusedVariables false

theorem lawFnExactStrata (a0 : Pg) (ha0 : Sh Try.prog 63 (a0.enc)) : Gives Try.prog 9 [.agg a0.enc] (.d (.bool true)) := by
  have hsza0 := szc63 _ a0.enc (Nat.lt_succ_self _) ha0
  have htoa0 := fun hb => toc63 _ a0.enc (Nat.lt_succ_self _) hb ha0
  have heqa0 := eqc63 _ a0.enc (Nat.lt_succ_self _) ha0
  refine ACalls.enter (fn := Try.f9) Try.func9 rfl (by show 1 ≤ _; decide) ?_
  refine AW.hole ?_
  refine AW.hole ?_
  refine AW.hole ?_
  refine run_sound Try.func9 mixed 200 _ _ (by kernel_rfl) ?_
  simp only [go_sem, seval]
  refine (hsza0 _ (by omega) (by omega)).calls rfl ?_
  simp only [go_sem, seval]
  refine br_intro (fun hq => ?_) (fun hq => ?_)
  · simp only [go_sem, seval]
  simp only [decide_eq_false_iff_not] at hq
  have hwa0 := szr_ge hq
  rw [szr_pos hwa0]
  clear hq
  simp only [go_sem, seval]
  have hmx : maxLen = 9223372036854775807 := rfl
  have hwr : wtR (a0.rels.map Rl.enc) ≤ 1048576 := by
    have : wtL a0.enc ≤ 1048576 := by omega
    simpa only [Pg.enc_eq, wtL, D.wt, Nat.add_zero] using this
  have hx := toProgram_T a0 (by omega)
  obtain ⟨B0, V0, hst⟩ := Pg.stV_some a0
  have hg := iStrata_T a0 hst (by omega)
  have hw0 := sStrata_fn a0 hst (by omega)
  have hmR := Rl.mcnts_wt a0.rels
  unfold stR at hg
  have hV := stV_len hst
  generalize (if pgOk a0 = true then V0 else []) = V at hg hw0 hV
  generalize (pgOk a0 && B0) = ok at hg hw0
  have hei := eq30 (intsD V) (by rw [show (intsD V).length = V.length from by simp [intsD]]; omega) (fun x hx => by obtain ⟨n, _, rfl⟩ := List.mem_map.1 hx; exact ⟨n, rfl⟩)
  have hmk := markProgram_T a0 1 1
  have hmi := fun q e B => markIntS_T V 1 q e B (by omega) (by omega) (by omega)
  have hhd := heldIntS_fn V 1 (by omega) (by omega) (by omega)
  refine (htoa0 (by omega)).calls rfl ?_
  simp only [go_sem, seval]
  refine hw0.calls rfl ?_
  simp only [go_sem, seval]
  refine ACalls.fresh (ds := [.agg a0.enc]) (m := 1) hx [0] rfl rfl (by simp) (by simp) ?_
  rintro c H' ⟨rfl, e1, B1, rfl⟩ _
  refine ⟨rfl, rfl, ?_⟩
  simp only [go_sem, seval]
  have hbf : ∀ e1 B1 X, borAll (.tree 1 7 e1 (a0.rels.map Rl.enc) B1 none :: X) [.agg [.own 0 1]] = some [.agg a0.enc] := fun e1 B1 X => by
    rw [Pg.enc_eq a0]; rfl
  refine ACalls.fresh (ds := [.agg a0.enc]) (m := 1) hg [1] (hbf _ _ _) rfl (by simp) (by simp) ?_
  rintro c H' ⟨rfl, e3, B3, rfl⟩ _
  refine ⟨rfl, rfl, ?_⟩
  simp only [go_sem, seval]
  refine hei.lend rfl (by simp only [go_sem, seval]) ?_
  simp only [go_sem, seval]
  refine (htoa0 (by omega)).callQ rfl ?_
  simp only [go_sem, seval]
  have hbe : ∀ e1 B1 X, borAll (.tree 1 7 e1 (a0.rels.map Rl.enc) B1 none :: X) [.agg [.own 0 1], .d (.agg a0.enc)] = some [.agg a0.enc, .agg a0.enc] := fun e1 B1 X => by
    rw [Pg.enc_eq a0]; rfl
  refine heqa0.lendQ rfl (hbe _ _ _) ?_
  simp only [go_sem, seval]
  refine ((hmk _ _ (by omega) (by omega)).frame (X := [_, _, _, _]) rfl rfl ?_)
  rintro c H' ⟨rfl, B5, rfl⟩ _
  simp only [go_sem, seval]
  repeat' (first
    | ((first | (refine br_intro (fun hq => ?_) (fun hq => ?_) <;> (try simp only [decide_eq_true_eq, decide_eq_false_iff_not, bne_iff_ne, beq_iff_eq, beq_eq_false_iff_ne, bne_eq_false_iff_eq, Bool.not_eq_true, Bool.not_eq_false, ne_eq, Decidable.not_not, Int.not_lt, Int.not_le, Bool.not_eq_eq_eq_not, Bool.not_true, Bool.not_false, gt_iff_lt, ge_iff_le, Bool.and_eq_true, Bool.or_eq_true, Bool.or_eq_false_iff, Bool.and_eq_false_imp] at hq)) | (refine idx_intro (fun x hx => have hq := hx; ?_))) <;> (try simp only [go_sem, seval, C.at1, hq]))
    | (simp (disch := omega) only [wrap_ok])
    | ((first
      | (refine hei.lend rfl (by simp only [go_sem, seval]) ?_)
      | (refine hhd.lend rfl (by simp only [go_sem, seval]) ?_)
      | (refine (htoa0 (by omega)).calls rfl ?_)
      | (refine (hmi 1 _ _).at1 rfl 1 rfl rfl ?_ <;> (rintro c o' ⟨rfl, B7, ho⟩; cases ho; refine ⟨rfl, rfl, ?_⟩))
      | (refine ACalls.fresh (ds := [.agg a0.enc]) (m := 1) hg [2] rfl rfl (by simp) (by simp) ?_ <;> (rintro c H' ⟨rfl, e8, B8, rfl⟩ _; refine ⟨rfl, rfl, ?_⟩))
      | (refine ⟨by first | omega | assumption | (simp; done) | (simp; omega), ?_⟩)) <;> (try simp only [go_sem, seval, C.at1]))
    | assumption)
  all_goals first | (exfalso; omega) | skip
end Go.Proofs.Ytljdpohdfnileaa

