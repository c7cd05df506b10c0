import Derived.Test.YtgkahnlbgkoplaaGreatW76
import Derived.Test.YtgkahnlbgkoplaaGreatW65
import Derived.Test.YtgkahnlbgkoplaaGreatW11
import Derived.Test.YtgkahnlbgkoplaaGreatFam
namespace Go.Proofs.YtgkahnlbgkoplaaGreat
open Go.Abs
set_option maxRecDepth 100000
set_option maxHeartbeats 4000000
set_option linter.unusedSimpArgs false
set_option linter.unusedVariables false
theorem xc_wt {p : Pg} {s : List UInt8} {args : List Tm} {next : Int} (hwa : wtL p.enc + wtR (args.map Tm.enc) ≤ 1048576) : wtR ((xcS args next (xcR p s args next)).map Gl.enc) ≤ 2000000 := by
 unfold xcS
 split
 ·rename_i r hr
  unfold xcR at hr
  split at hr
  ·rename_i hc
   simp only [Bool.and_eq_true, decide_eq_true_eq] at hc
   split at hr
   ·rename_i r' hr'
    split at hr
    ·rename_i hh
     cases hr
     have hrm := List.mem_of_getElem? hr'
     obtain ⟨b1, b2, b3⟩ := pgOk_rel hc.1.1.1 r hrm
     have hbw := Pg.wt_rels hrm
     have hbw2 := Rl.wt_body r
     have h1 := xcEqs_wt next args 0
     have h2 := Gl.sh_wt next r.body b3
     have h3 : ∀ a b : List (List D), wtR (a ++ b) = wtR a + wtR b := fun a b => by
      induction a with
      | nil => simp [wtR]
      | cons x a ih => simp only [List.cons_append, wtR, ih]; omega
     simp only [List.map_append, List.map_cons, List.map_nil, wtR, h3, h2]
     omega
    ·cases hr
   ·cases hr
  ·cases hr
 ·simp [wtR]
theorem heldGoalX_fn (kd : Int) (nm : List UInt8) (gs : List Gl) (k : Int) (h0 : 0 ≤ k) (h1 : k + Gl.mcnts gs ≤ 1000000000) :
  Gives Tryz.prog 16 [.agg [.int .i64 kd, .str nm, .sl [], .sl ((Gl.mrks k gs).map Gl.enc)], .int .i64 k] (.d (.int .i64 (k + Gl.mcnts gs))) := by
 have e1 := hTT_all [] k h0 (by simp [Tm.mcnts]; omega)
 simp only [Tm.mrks, Tm.mcnts, List.map_nil] at e1
 have e0 : k + ((0 : Nat) : Int) = k := by omega
 rw [e0] at e1
 have e2 := hGT_all gs k h0 h1
 refine ACalls.enter (fn := Tryz.f16) Tryz.func16 rfl (by show 2 ≤ _; decide) ?_
 refine run_sound Tryz.func16 mixed 200 _ _ (by kernel_rfl) ?_
 simp only [go_sem, seval]
 repeat' (first
  | ((first | (refine br_n (fun hq => ?_) (fun hq => ?_)) | (refine idx_intro (fun x hx => have hq := hx; ?_))) <;> (try simp only [go_sem, seval, hq]))
  | (simp (disch := omega) only [wrap_ok])
  | ((first
   | (refine e1.calls rfl ?_)
   | (refine e2.calls rfl ?_)
   | (refine ⟨sd, ?_⟩)
   | (refine ⟨by assumption, ?_⟩)) <;> (try simp only [go_sem, seval]))
  | assumption)
 all_goals first | (exfalso; omega) | rfl
theorem lawFnExactExpandCall (a0 : Pg) (a1 : List UInt8) (a2 : List Tm) (a3 : Int) (ha0 : Sh Tryz.prog 24 (a0.enc)) (ha1 : a1.length ≤ maxLen) (ha2 : Sh Tryz.prog 25 [.sl (a2.map Tm.enc)]) : Gives Tryz.prog 3 [.agg a0.enc, .str a1, .sl (a2.map Tm.enc), .int .i64 a3] (.d (.bool true)) := by
 have hsza0 := szc24 _ a0.enc (Nat.lt_succ_self _) ha0
 have htoa0 := fun hb => toc24 _ a0.enc (Nat.lt_succ_self _) hb ha0
 have heqa0 := eqc24 _ a0.enc (Nat.lt_succ_self _) ha0
 have hesa2 := shS (by kernel_rfl : leaves Tryz.prog 6 25 = some [.sl 49]) ha2
 have hsza2 := szs25 _ hesa2.1 hesa2.2
 have htoa2 := fun hb => tos25 _ hb hesa2.2
 have heqa2 := eqs25 _ hesa2.1 hesa2.2
 refine ACalls.enter (fn := Tryz.f3) Tryz.func3 rfl (by show 4 ≤ _; decide) ?_
 refine AW.hole ?_
 refine AW.hole ?_
 refine AW.hole ?_
 refine AW.hole ?_
 refine AW.hole ?_
 refine AW.hole ?_
 refine run_sound Tryz.func3 mixed 200 _ _ (by kernel_rfl) ?_
 simp only [go_sem, seval]
 refine br_intro (fun hq => ?_) (fun hq => ?_)
 ·simp only [go_sem, seval]
 simp only [decide_eq_false_iff_not, Int.not_lt] at hq
 have hsa1 : a1.length ≤ 1048576 := by omega
 clear hq
 try simp only [go_sem, seval]
 refine (hsza0 _ (by omega) (by omega)).calls rfl ?_
 simp only [go_sem, seval]
 refine br_intro (fun hq => ?_) (fun hq => ?_)
 ·simp only [go_sem, seval]
 simp only [decide_eq_false_iff_not] at hq
 have hwa0 := szr_ge hq
 rw [szr_pos hwa0]
 clear hq
 simp only [go_sem, seval]
 refine (hsza2 _ (by omega) (by omega)).calls rfl ?_
 simp only [go_sem, seval]
 refine br_intro (fun hq => ?_) (fun hq => ?_)
 ·simp only [go_sem, seval]
 simp only [decide_eq_false_iff_not] at hq
 have hwa2 := szr_ge hq
 rw [szr_pos hwa2]
 clear hq
 simp only [go_sem, seval]
 have hmx : maxLen = 9223372036854775807 := rfl
 have hwa : wtL a0.enc + wtR (a2.map Tm.enc) ≤ 1048576 := by omega
 have hwp : wtL a0.enc ≤ 1048576 := by omega
 have hwt : ∀ t, t ∈ a2 → wtL t.enc ≤ 1048576 := fun t ht => by
  have := wtL_lt (a2.map Tm.enc) t.enc (List.mem_map.2 ⟨t, ht, rfl⟩)
  omega
 have hla : a2.length ≤ 1048576 := by
  have := sumW_le (a2.map Tm.enc) 0; simp [sumW] at this; omega
 have hx := toProgram_T a0 hwp
 have hx2 := toTermS_T a2 (by omega) (fun t ht => toTerm_T t (hwt t ht))
 have hg := iExpandCall_T a0 a1 a2 a3 hwp (fun t ht => by have := hwt t ht; omega) hla
 have hw0 := sExpandCall_fn a0 a1 a2 a3 hwa
 have hmR := Rl.mcnts_wt a0.rels
 have hwr : wtR (a0.rels.map Rl.enc) ≤ 1048576 := by
  simpa only [Pg.enc_eq, wtL, D.wt, Nat.add_zero] using hwp
 have hA := xc_wt (s := a1) (next := a3) hwa
 have hmT := Tm.mcnts_wt a2
 generalize xcS a2 a3 (xcR a0 a1 a2 a3) = V at hg hw0 hA
 generalize xcK (xcR a0 a1 a2 a3) = kd at hg hw0
 generalize xcN a3 (xcR a0 a1 a2 a3) = nn at hg hw0
 generalize (xcR a0 a1 a2 a3).isSome = ok at hg hw0
 have hmG := Gl.mcnts_wt V
 have hei := eqGl_fn (.mk kd [] [] V) (by rw [Gl.enc_eq]; simp only [Gl.kind, Gl.name, Gl.terms, Gl.goals, List.map_nil, wtL, D.wt, wtR, List.length_nil]; omega)
 rw [Gl.enc_eq] at hei hw0
 simp only [Gl.kind, Gl.name, Gl.terms, Gl.goals, List.map_nil] at hei hw0
 have hmk := markProgram_T a0 1
 have hmt := fun e B => mTT_all a2 (1 + Rl.mcnts a0.rels) 1 e B (by omega) (by omega)
 unfold mTT at hmt
 have hmi := fun q q' e e' B B' => markGoal_T (.mk kd [] [] V) 1 q q' e e' B B' (by omega) (by simp only [Gl.mcnt_eq, Gl.terms, Gl.goals, Tm.mcnts]; omega)
 simp only [Gl.kind, Gl.name, Gl.terms, Gl.goals, List.map_nil, Tm.mrks, Tm.mcnts] at hmi
 have hhd := heldGoalX_fn kd [] V 1 (by omega) (by omega)
 have hbf : ∀ e1 B1 X, borAll (.tree 1 7 e1 (a0.rels.map Rl.enc) B1 none :: X) [.agg [.own 0 1]] = some [.agg a0.enc] := fun e1 B1 X => by
  rw [Pg.enc_eq a0]; rfl
 have hbg : ∀ e1 B1 e2 B2 X, borAll (.tree 1 7 e1 (a0.rels.map Rl.enc) B1 none :: .tree 1 4 e2 (a2.map Tm.enc) B2 none :: X) [.agg [.own 0 1], .d (.str a1), .own 1 1, .d (.int .i64 a3)] = some [.agg a0.enc, .str a1, .sl (a2.map Tm.enc), .int .i64 a3] := fun e1 B1 e2 B2 X => by
  rw [Pg.enc_eq a0]; rfl
 have hbe0 : ∀ e1 B1 X, borAll (.tree 1 7 e1 (a0.rels.map Rl.enc) B1 none :: X) [.agg [.own 0 1], .d (.agg a0.enc)] = some [.agg a0.enc, .agg a0.enc] := fun e1 B1 X => by
  rw [Pg.enc_eq a0]; rfl
 refine (htoa0 hwp).calls rfl ?_
 simp only [go_sem, seval]
 refine (htoa2 (by omega)).calls rfl ?_
 simp only [go_sem, seval]
 refine hw0.calls rfl ?_
 simp only [go_sem, seval]
 refine ACalls.fresh (ds := [.agg a0.enc]) (m := 1) hx [0] rfl rfl (by simp) (by simp) ?_
 rintro c H' ⟨rfl, e1, B1, rfl⟩ _
 refine ⟨rfl, rfl, ?_⟩
 simp only [go_sem, seval]
 refine ACalls.fresh (ds := [.sl (a2.map Tm.enc)]) (m := 1) hx2 [1] rfl rfl (by simp) (by simp) ?_
 rintro c H' ⟨rfl, e2, B2, rfl⟩ _
 refine ⟨rfl, rfl, ?_⟩
 simp only [go_sem, seval]
 refine ACalls.fresh (ds := [.agg a0.enc, .str a1, .sl (a2.map Tm.enc), .int .i64 a3]) (m := 2) hg [2, 3] (hbg _ _ _ _ _) rfl (by simp) (by simp) ?_
 rintro c H' ⟨rfl, e3, B3, e4, B4, rfl⟩ _
 refine ⟨rfl, rfl, ?_⟩
 simp only [go_sem, seval]
 repeat' (first
  | ((first | (refine br_n (fun hq => ?_) (fun hq => ?_)) | (refine idx_intro (fun x hx => have hq := hx; ?_))) <;> (try simp only [go_sem, seval, C.at1, hq]))
  | (simp (disch := omega) only [wrap_ok])
  | ((first
   | (refine hei.lend rfl (by simp only [go_sem, seval]) ?_)
   | (refine hhd.lend rfl (by simp only [go_sem, seval]) ?_)
   | (refine (htoa0 hwp).callQ rfl ?_)
   | (refine (htoa2 (by omega)).callQ rfl ?_)
   | (refine (htoa0 hwp).calls rfl ?_)
   | (refine (htoa2 (by omega)).calls rfl ?_)
   | (refine heqa0.lendQ rfl (hbe0 _ _ _) ?_)
   | (refine heqa2.lend rfl (by simp only [go_sem, seval]) ?_)
   | (refine (ACalls.emb (hmk 1 _ _ (by omega) (by omega)) [0] rfl rfl rfl (by decide) rfl ?_) <;> (rintro c H' ⟨rfl, B5, rfl⟩ _; refine ⟨rfl, rfl, ?_⟩))
   | (refine (hmt _ _).at1 rfl 1 rfl rfl ?_ <;> (rintro c o' ⟨rfl, B6, ho⟩; cases ho; refine ⟨rfl, rfl, ?_⟩))
   | (refine (ACalls.emb (hmi 1 1 _ _ _ _) [2, 3] rfl rfl rfl (by decide) rfl ?_) <;> (rintro c H' ⟨rfl, B7, B8, rfl⟩ _; refine ⟨rfl, rfl, ?_⟩))
   | (refine ACalls.fresh (ds := [.agg a0.enc, .str a1, .sl (a2.map Tm.enc), .int .i64 a3]) (m := 2) hg [4, 5] rfl rfl (by simp) (by simp) ?_ <;> (rintro c H' ⟨rfl, e9, B9, e10, B10, rfl⟩ _; refine ⟨rfl, rfl, ?_⟩))
   | (refine ⟨sd, ?_⟩)
   | (refine ⟨by assumption, ?_⟩)) <;> (try simp only [go_sem, seval, C.at1]))
  | assumption)
 all_goals first | (exfalso; omega) | skip
end Go.Proofs.YtgkahnlbgkoplaaGreat
