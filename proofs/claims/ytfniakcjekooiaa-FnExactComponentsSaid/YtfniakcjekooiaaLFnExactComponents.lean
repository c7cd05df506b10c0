import Derived.Test.YtfniakcjekooiaaW30
import Derived.Test.YtfniakcjekooiaaW71
import Derived.Test.YtfniakcjekooiaaW34
import Derived.Test.YtfniakcjekooiaaFam
namespace Go.Proofs.Ytfniakcjekooiaa
open Go.Abs
set_option maxRecDepth 100000
set_option maxHeartbeats 4000000
set_option linter.unusedSimpArgs false
set_option linter.unusedVariables false
theorem lawFnExactComponents (a0 : Pg) (ha0 : Sh Try.prog 24 (a0.enc)) : Gives Try.prog 4 [.agg a0.enc] (.d (.bool true)) := by
 have hsza0 := szc24 _ a0.enc (Nat.lt_succ_self _) ha0
 have htoa0 := fun hb => toc24 _ a0.enc (Nat.lt_succ_self _) hb ha0
 have heqa0 := eqc24 _ a0.enc (Nat.lt_succ_self _) ha0
 refine ACalls.enter (fn := Try.f4) Try.func4 rfl (by show 1 ≤ _; decide) ?_
 refine AW.hole ?_
 refine AW.hole ?_
 refine AW.hole ?_
 refine run_sound Try.func4 mixed 200 _ _ (by kernel_rfl) ?_
 simp only [go_sem, seval]
 refine (hsza0 _ (by omega) (by omega)).calls rfl ?_
 simp only [go_sem, seval]
 refine br_intro (fun hq => ?_) (fun hq => ?_)
 ·simp only [go_sem, seval]
 simp only [decide_eq_false_iff_not] at hq
 have hwa0 := szr_ge hq
 rw [szr_pos hwa0]
 clear hq
 simp only [go_sem, seval]
 have hmx : maxLen = 9223372036854775807 := rfl
 have hwr : wtR (a0.rels.map Rl.enc) ≤ 1048576 := by
  have : wtL a0.enc ≤ 1048576 := by omega
  simpa only [Pg.enc_eq, wtL, D.wt, Nat.add_zero] using this
 have hx := toProgram_T a0 (by omega)
 have hg := iComponents_T a0 (by omega)
 have hw0 := sComponents_fn a0 (by omega)
 have hmR := Rl.mcnts_wt a0.rels
 have hV : (cpV a0).length ≤ 8 ∧ ∀ c, c ∈ cpV a0 → c.length ≤ 1048577 := by
  unfold cpV
  split
  ·rename_i hok
   have h8 : a0.rels.length ≤ 8 := by
    unfold pgOk at hok
    simp only [Bool.and_eq_true, decide_eq_true_eq] at hok
    exact hok.1
   have hcl := cRows_len a0
   have hl := cps_len (C := cRows a0) (cRows a0).length fun _ => false
   refine ⟨by unfold cpsV; omega, fun c hc => ?_⟩
   have := cps_rows _ _ c hc
   omega
  ·simp
 have hct := cntII_le (cpV a0) hV.2
 have hct8 : (cpV a0).length * 1048577 ≤ 8 * 1048577 := Nat.mul_le_mul_right _ hV.1
 generalize cpV a0 = V at hg hw0 hV hct hct8
 have heJ : encJ = encI2 := rfl
 have hei := eq12 (V.map encI2) (by rw [List.length_map]; omega) (fun x hx => by
  obtain ⟨c, hc, rfl⟩ := List.mem_map.1 hx
  refine ⟨_, rfl, ?_⟩
  have := hV.2 c hc
  exact eq28 _ (by rw [intsD_len]; omega) (fun x hx => by obtain ⟨n, _, rfl⟩ := List.mem_map.1 hx; exact ⟨n, rfl⟩))
 have hmk := markProgram_T a0 1 1
 have hmi := fun q e B => markIntSS_T V 1 q e B (by omega) (by omega) (by omega)
 have hhd := heldIntSS_T V 1 (by omega) (by omega) (by omega)
 rw [heJ] at hmi hhd
 refine (htoa0 (by omega)).calls rfl ?_
 simp only [go_sem, seval]
 refine hw0.calls rfl ?_
 simp only [go_sem, seval]
 refine ACalls.fresh (ds := [.agg a0.enc]) (m := 1) hx [0] rfl rfl (by simp) (by simp) ?_
 rintro c H' ⟨rfl, e1, B1, rfl⟩ _
 refine ⟨rfl, rfl, ?_⟩
 simp only [go_sem, seval]
 have hbf : ∀ e1 B1 X, borAll (.tree 1 7 e1 (a0.rels.map Rl.enc) B1 none :: X) [.agg [.own 0 1]] = some [.agg a0.enc] := fun e1 B1 X => by
  rw [Pg.enc_eq a0]; rfl
 refine ACalls.fresh (ds := [.agg a0.enc]) (m := 1) hg [1] (hbf _ _ _) rfl (by simp) (by simp) ?_
 rintro c H' ⟨rfl, e3, B3, rfl⟩ _
 refine ⟨rfl, rfl, ?_⟩
 simp only [go_sem, seval]
 refine hei.lend rfl (by simp only [go_sem, seval]) ?_
 simp only [go_sem, seval]
 refine (htoa0 (by omega)).callQ rfl ?_
 simp only [go_sem, seval]
 have hbe : ∀ e1 B1 X, borAll (.tree 1 7 e1 (a0.rels.map Rl.enc) B1 none :: X) [.agg [.own 0 1], .d (.agg a0.enc)] = some [.agg a0.enc, .agg a0.enc] := fun e1 B1 X => by
  rw [Pg.enc_eq a0]; rfl
 refine heqa0.lendQ rfl (hbe _ _ _) ?_
 simp only [go_sem, seval]
 refine ((hmk _ _ (by omega) (by omega)).frame (X := [_, _, _, _]) rfl rfl ?_)
 rintro c H' ⟨rfl, B5, rfl⟩ _
 simp only [go_sem, seval]
 repeat' (first
  | ((first | (refine br_n (fun hq => ?_) (fun hq => ?_)) | (refine idx_intro (fun x hx => have hq := hx; ?_))) <;> (try simp only [go_sem, seval, C.at1, hq]))
  | (simp (disch := omega) only [wrap_ok])
  | ((first
   | (refine hei.lend rfl (by simp only [go_sem, seval]) ?_)
   | (refine hhd.lend rfl (by simp only [go_sem, seval]) ?_)
   | (refine (htoa0 (by omega)).calls rfl ?_)
   | (refine (hmi 1 _ _).at1 rfl 1 rfl rfl ?_ <;> (rintro c o' ⟨rfl, B7, ho⟩; cases ho; refine ⟨rfl, rfl, ?_⟩))
   | (refine ACalls.fresh (ds := [.agg a0.enc]) (m := 1) hg [2] rfl rfl (by simp) (by simp) ?_ <;> (rintro c H' ⟨rfl, e8, B8, rfl⟩ _; refine ⟨rfl, rfl, ?_⟩))
   | (refine ⟨sd, ?_⟩)
   | (refine ⟨by assumption, ?_⟩)) <;> (try simp only [go_sem, seval, C.at1]))
  | assumption)
 all_goals first | (exfalso; omega) | skip
end Go.Proofs.Ytfniakcjekooiaa
