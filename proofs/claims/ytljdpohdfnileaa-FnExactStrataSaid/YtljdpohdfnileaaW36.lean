/- The strata: the reference's. -/
import Derived.Test.YtljdpohdfnileaaW35
import Derived.Test.YtljdpohdfnileaaW33
namespace Go.Proofs.Ytljdpohdfnileaa
open Go.Abs
set_option maxRecDepth 100000
set_option maxHeartbeats 4000000
set_option linter.unusedSimpArgs false
set_option linter.unusedVariables false

theorem l17Raise_T (l : List Int) (n i : Nat) (x : Int) (hn : l.length = n) (hi : i < n) : ACalls Try.prog 82 [.rsl 0 n, .d (.int .i64 i), .d (.int .i64 x)] [.row 1 3 (intsD l)] fun c H' => c = .d (.bool (decide (l.getD i 0 < x))) ∧ H' = [.row 1 3 (intsD (if l.getD i 0 < x then l.set i x else l))] := by
  have hil : i < l.length := by omega
  have hgi := intsD_g hil
  have hiz : (i : Int) < (n : Int) := by omega
  obtain ⟨vi, hvi⟩ : ∃ v, l.getD i 0 = v := ⟨_, rfl⟩
  rw [hvi] at hgi ⊢
  by_cases hb : vi < x
  · rw [if_pos hb, decide_eq_true hb]
    refine ACalls.enter (fn := Try.f82) Try.func82 rfl (by show 3 ≤ _; decide) ?_
    refine run_sound Try.func82 mixed 200 _ _ (by kernel_rfl) ?_
    simp only [go_sem, seval, hgi, hb, hil, hiz]
    repeat' (first
      | ((first | (refine br_intro (fun hq => ?_) (fun hq => ?_) <;> (try simp only [decide_eq_true_eq, decide_eq_false_iff_not, bne_iff_ne, beq_iff_eq, beq_eq_false_iff_ne, bne_eq_false_iff_eq, Bool.not_eq_true, Bool.not_eq_false, ne_eq, Decidable.not_not, Int.not_lt, Int.not_le, Bool.not_eq_eq_eq_not, Bool.not_true, Bool.not_false, gt_iff_lt, ge_iff_le, Bool.and_eq_true, Bool.or_eq_true, Bool.or_eq_false_iff, Bool.and_eq_false_imp] at hq)) | (refine idx_intro (fun x hx => have hq := hx; ?_))) <;> (try simp only [go_sem, seval, hgi, hb, hil, hiz, hq]))
      | (simp (disch := omega) only [wrap_ok])
      | ((first
        | (refine ⟨by first | omega | assumption | (simp; done) | (simp; omega), ?_⟩)) <;> (try simp only [go_sem, seval, hgi, hb, hil, hiz]))
      | assumption)
    all_goals exact ⟨rfl, rfl⟩
  · rw [if_neg hb, decide_eq_false hb]
    refine ACalls.enter (fn := Try.f82) Try.func82 rfl (by show 3 ≤ _; decide) ?_
    refine run_sound Try.func82 mixed 200 _ _ (by kernel_rfl) ?_
    simp only [go_sem, seval, hgi, hb, hil, hiz]
    repeat' (first
      | ((first | (refine br_intro (fun hq => ?_) (fun hq => ?_) <;> (try simp only [decide_eq_true_eq, decide_eq_false_iff_not, bne_iff_ne, beq_iff_eq, beq_eq_false_iff_ne, bne_eq_false_iff_eq, Bool.not_eq_true, Bool.not_eq_false, ne_eq, Decidable.not_not, Int.not_lt, Int.not_le, Bool.not_eq_eq_eq_not, Bool.not_true, Bool.not_false, gt_iff_lt, ge_iff_le, Bool.and_eq_true, Bool.or_eq_true, Bool.or_eq_false_iff, Bool.and_eq_false_imp] at hq)) | (refine idx_intro (fun x hx => have hq := hx; ?_))) <;> (try simp only [go_sem, seval, hgi, hb, hil, hiz, hq]))
      | (simp (disch := omega) only [wrap_ok])
      | ((first
        | (refine ⟨by first | omega | assumption | (simp; done) | (simp; omega), ?_⟩)) <;> (try simp only [go_sem, seval, hgi, hb, hil, hiz]))
      | assumption)
    all_goals exact ⟨rfl, rfl⟩
theorem edges_S {x : Rl} (hs : x.body.shape = true) : x.edges = ((x.body.callsS false).map fun n => (n, (0 : Int))) ++ ((x.body.callsS true).map fun n => (n, (1 : Int))) := by
  unfold Rl.edges
  rw [Gl.calls_same x.body false hs, Gl.calls_same x.body true hs]
theorem pgOk_sh {p : Pg} (h : pgOk p = true) : ∀ r, r ∈ p.rels → r.body.shape = true := by
  intro r hr
  have ho : p.okL p.rels = true := by
    unfold pgOk at h
    simp only [Bool.and_eq_true] at h
    exact h.2
  obtain ⟨i, hi⟩ := okL_mem ho r hr
  exact relOk_shape hi
theorem sStrata_fn1 (p : Pg) {B : Bool} {V : List Int} (hst : p.StV B V) (hw : wtL p.enc ≤ 1048576) (hok : pgOk p = true) (hsh : ∀ r, r ∈ p.rels → r.body.shape = true) : Gives Try.prog 41 [.agg p.enc] (.tup [.d (.sl (intsD V)), .d (.bool B)]) := by
  have hmx : maxLen = 9223372036854775807 := rfl
  have hEok := Pg.edges_ok hok
  have hN8 : p.rels.length ≤ 8 := by
    unfold pgOk at hok
    simp only [Bool.and_eq_true, decide_eq_true_eq] at hok
    exact hok.1
  refine ACalls.enter (fn := Try.f41) Try.func41 rfl (by show 1 ≤ _; decide) ?_
  refine run_sound Try.func41 mixed 200 _ _ (by kernel_rfl) ?_
  simp only [go_sem, seval, hok]
  repeat' (first
    | ((first | (refine br_intro (fun hq => ?_) (fun hq => ?_) <;> (try simp only [decide_eq_true_eq, decide_eq_false_iff_not, bne_iff_ne, beq_iff_eq, beq_eq_false_iff_ne, bne_eq_false_iff_eq, Bool.not_eq_true, Bool.not_eq_false, ne_eq, Decidable.not_not, Int.not_lt, Int.not_le, Bool.not_eq_eq_eq_not, Bool.not_true, Bool.not_false, gt_iff_lt, ge_iff_le, Bool.and_eq_true, Bool.or_eq_true, Bool.or_eq_false_iff, Bool.and_eq_false_imp] at hq)) | (refine idx_intro (fun x hx => have hq := hx; ?_))) <;> (try simp only [go_sem, seval, hok, hq]))
    | (simp (disch := omega) only [wrap_ok])
    | ((first
      | (refine (sProgramOk_fn _ (by first | omega | assumption | (simp; done) | (simp; omega))).calls rfl ?_)
      | (refine (sProgramOk_fn _ (by first | omega | assumption | (simp; done) | (simp; omega))).callQ rfl ?_)
      | (refine (l14Find_fn _ _).calls rfl ?_)
      | (refine (l14Find_fn _ _).callQ rfl ?_)
      | (refine ⟨by first | omega | assumption | (simp; done) | (simp; omega), ?_⟩)) <;> (try simp only [go_sem, seval, hok]))
    | assumption)
  obtain ⟨T, hT⟩ : ∃ T : Nat, p.rels.length - 1 = T := ⟨_, rfl⟩
  refine AW.lp [1, 4] (fun a : List Int × Bool => [(5, .d (.bool a.2))]) (fun _ a => [.box (p.enc.map .d), .row 1 3 (intsD a.1)]) (fun a => Hd p T a.1 a.2) (muS p T) (List.replicate p.rels.length 0, true) (hd0 p (by omega)) (by refine ⟨by simp [mkS], by simp [mkS, intsD], by simp only [mkS, List.all_cons, List.all_nil, O.refsLt, C.refsLt, C.refsLt1, all_dmap]; first | done | rfl | (simp; done), ?_⟩; simp [mkS, Abs.get, C.refsLtT, C.refsLt, C.refsLt1]) ?_
  rintro ⟨n0, ch⟩ hI hnext
  dsimp only at hI hnext ⊢
  cases ch with
  | false =>
    have hls : p.Least n0 := ⟨hI.sol rfl, hI.low⟩
    obtain ⟨s1, s2⟩ := hst.1 _ hls
    rw [s1, s2]
    refine AW.freeze 4 1 rfl rfl (by simp [intsD, hI.len]) ?_
    refine run_sound Try.func41 mixed 200 _ _ (by kernel_rfl) ?_
    simp only [go_sem, seval]
    repeat' (first
      | ((first | (refine br_intro (fun hq => ?_) (fun hq => ?_) <;> (try simp only [decide_eq_true_eq, decide_eq_false_iff_not, bne_iff_ne, beq_iff_eq, beq_eq_false_iff_ne, bne_eq_false_iff_eq, Bool.not_eq_true, Bool.not_eq_false, ne_eq, Decidable.not_not, Int.not_lt, Int.not_le, Bool.not_eq_eq_eq_not, Bool.not_true, Bool.not_false, gt_iff_lt, ge_iff_le, Bool.and_eq_true, Bool.or_eq_true, Bool.or_eq_false_iff, Bool.and_eq_false_imp] at hq)) | (refine idx_intro (fun x hx => have hq := hx; ?_))) <;> (try simp only [go_sem, seval, hq]))
      | (simp (disch := omega) only [wrap_ok])
      | ((first
        | (refine (sProgramOk_fn _ (by first | omega | assumption | (simp; done) | (simp; omega))).calls rfl ?_)
        | (refine (sProgramOk_fn _ (by first | omega | assumption | (simp; done) | (simp; omega))).callQ rfl ?_)
        | (refine (l14Find_fn _ _).calls rfl ?_)
        | (refine (l14Find_fn _ _).callQ rfl ?_)
        | (refine ⟨by first | omega | assumption | (simp; done) | (simp; omega), ?_⟩)) <;> (try simp only [go_sem, seval]))
      | assumption)
  | true =>
    refine run_sound Try.func41 mixed 200 _ _ (by kernel_rfl) ?_
    simp only [go_sem, seval]
    repeat' (first
      | ((first | (refine br_intro (fun hq => ?_) (fun hq => ?_) <;> (try simp only [decide_eq_true_eq, decide_eq_false_iff_not, bne_iff_ne, beq_iff_eq, beq_eq_false_iff_ne, bne_eq_false_iff_eq, Bool.not_eq_true, Bool.not_eq_false, ne_eq, Decidable.not_not, Int.not_lt, Int.not_le, Bool.not_eq_eq_eq_not, Bool.not_true, Bool.not_false, gt_iff_lt, ge_iff_le, Bool.and_eq_true, Bool.or_eq_true, Bool.or_eq_false_iff, Bool.and_eq_false_imp] at hq)) | (refine idx_intro (fun x hx => have hq := hx; ?_))) <;> (try simp only [go_sem, seval, hq]))
      | (simp (disch := omega) only [wrap_ok])
      | ((first
        | (refine (sProgramOk_fn _ (by first | omega | assumption | (simp; done) | (simp; omega))).calls rfl ?_)
        | (refine (sProgramOk_fn _ (by first | omega | assumption | (simp; done) | (simp; omega))).callQ rfl ?_)
        | (refine (l14Find_fn _ _).calls rfl ?_)
        | (refine (l14Find_fn _ _).callQ rfl ?_)
        | (refine ⟨by first | omega | assumption | (simp; done) | (simp; omega), ?_⟩)) <;> (try simp only [go_sem, seval]))
      | assumption)
    refine AW.rng p.rels [1, 4, 21, 22] 23 21 (fun a : List Int × Bool => [(5, .d (.bool a.2))]) (fun _ a => [.box (p.enc.map .d), .row 1 3 (intsD a.1)]) (fun r a => Btw p T n0 (p.rels.length - r.length) a.1 a.2) (n0, false) rfl (by simp) (by rw [Nat.sub_self]; exact Btw.init hI) (by refine ⟨by simp [mkS], by simp [mkS], by simp only [mkS, List.all_cons, List.all_nil, O.refsLt, C.refsLt, C.refsLt1, all_dmap]; first | done | rfl | (simp; done), ?_⟩; simp [mkS, Abs.get, C.refsLtT, C.refsLt, C.refsLt1]) (fun i x r a hxi hdr hlt hm hinv hnx1 => ?_) (fun a hinv => ?_)
    · obtain ⟨n1, ch1⟩ := a
      have hdl := drop_len hdr
      have hdl2 : p.rels.length - r.length = i + 1 := by have := congrArg List.length hdr; simp at this; omega
      simp only [List.length_cons, hdl] at hinv
      rw [hdl2] at hnx1
      dsimp only at hinv hnx1 ⊢
      have hxm := List.mem_of_getElem? hxi
      have hxw : wtL x.body.enc ≤ 1048576 := by have := Pg.wt_rels hxm; have := Rl.wt_body x; omega
      have hcw := Gl.cnt_le_wt x.body
      have c0 := l13Calls_T x.body (hsh x hxm) false 0 [] (fun _ => False) (by simp; omega)
      have c1 := l13Calls_T x.body (hsh x hxm) true 0 [] (fun _ => False) (by simp; omega)
      have hmid := hinv.mid (x := x) (by omega)
      have hCl := (Pg.edges_len hok hxm).1
      have hed : ∀ e, e ∈ x.edges → _ := fun e he => hEok i x hxi e he
      have hES := edges_S (hsh x hxm)
      generalize hL0 : x.body.callsS false = L0 at *
      generalize hL1 : x.body.callsS true = L1 at *
      refine run_sound Try.func41 mixed 11 _ _ (by kernel_rfl) ?_
      simp only [go_sem, seval, run.eq_1, hlt, idx_of hxi]
      repeat' (first
        | ((first | (refine br_intro (fun hq => ?_) (fun hq => ?_) <;> (try simp only [decide_eq_true_eq, decide_eq_false_iff_not, bne_iff_ne, beq_iff_eq, beq_eq_false_iff_ne, bne_eq_false_iff_eq, Bool.not_eq_true, Bool.not_eq_false, ne_eq, Decidable.not_not, Int.not_lt, Int.not_le, Bool.not_eq_eq_eq_not, Bool.not_true, Bool.not_false, gt_iff_lt, ge_iff_le, Bool.and_eq_true, Bool.or_eq_true, Bool.or_eq_false_iff, Bool.and_eq_false_imp] at hq)) | (refine idx_intro (fun x hx => have hq := hx; ?_))) <;> (try simp only [go_sem, seval, hlt, idx_of hxi, run.eq_1, hq]))
        | (simp (disch := omega) only [wrap_ok])
        | ((first
          | (refine (sProgramOk_fn _ (by first | omega | assumption | (simp; done) | (simp; omega))).calls rfl ?_)
          | (refine (sProgramOk_fn _ (by first | omega | assumption | (simp; done) | (simp; omega))).callQ rfl ?_)
          | (refine (l14Find_fn _ _).calls rfl ?_)
          | (refine (l14Find_fn _ _).callQ rfl ?_)
          | (refine ⟨by first | omega | assumption | (simp; done) | (simp; omega), ?_⟩)) <;> (try simp only [go_sem, seval, hlt, idx_of hxi, run.eq_1]))
        | assumption)
      refine AW.regT ?_
      simp only [go_sem, seval]
      repeat' (first
        | ((first | (refine br_intro (fun hq => ?_) (fun hq => ?_) <;> (try simp only [decide_eq_true_eq, decide_eq_false_iff_not, bne_iff_ne, beq_iff_eq, beq_eq_false_iff_ne, bne_eq_false_iff_eq, Bool.not_eq_true, Bool.not_eq_false, ne_eq, Decidable.not_not, Int.not_lt, Int.not_le, Bool.not_eq_eq_eq_not, Bool.not_true, Bool.not_false, gt_iff_lt, ge_iff_le, Bool.and_eq_true, Bool.or_eq_true, Bool.or_eq_false_iff, Bool.and_eq_false_imp] at hq)) | (refine idx_intro (fun x hx => have hq := hx; ?_))) <;> (try simp only [go_sem, seval, hq]))
        | (simp (disch := omega) only [wrap_ok])
        | ((first
          | (refine ACalls.nilLast (ds := [.agg x.body.enc, .bool false]) (z := 1) (by decide) c0 (d := .sl (strD L0)) ?_ ?_)
          | (refine (sProgramOk_fn _ (by first | omega | assumption | (simp; done) | (simp; omega))).calls rfl ?_)
          | (refine (sProgramOk_fn _ (by first | omega | assumption | (simp; done) | (simp; omega))).callQ rfl ?_)
          | (refine (l14Find_fn _ _).calls rfl ?_)
          | (refine (l14Find_fn _ _).callQ rfl ?_)
          | (refine ⟨by first | omega | assumption | (simp; done) | (simp; omega), ?_⟩)) <;> (try simp only [go_sem, seval]))
        | assumption)
      · rintro c H' ⟨q', B', rfl, rfl⟩
        simp [frz]
      refine run_sound Try.func41 mixed 200 _ _ (by kernel_rfl) ?_
      simp only [go_sem, seval]
      repeat' (first
        | ((first | (refine br_intro (fun hq => ?_) (fun hq => ?_) <;> (try simp only [decide_eq_true_eq, decide_eq_false_iff_not, bne_iff_ne, beq_iff_eq, beq_eq_false_iff_ne, bne_eq_false_iff_eq, Bool.not_eq_true, Bool.not_eq_false, ne_eq, Decidable.not_not, Int.not_lt, Int.not_le, Bool.not_eq_eq_eq_not, Bool.not_true, Bool.not_false, gt_iff_lt, ge_iff_le, Bool.and_eq_true, Bool.or_eq_true, Bool.or_eq_false_iff, Bool.and_eq_false_imp] at hq)) | (refine idx_intro (fun x hx => have hq := hx; ?_))) <;> (try simp only [go_sem, seval, hq]))
        | (simp (disch := omega) only [wrap_ok])
        | ((first
          | (refine (sProgramOk_fn _ (by first | omega | assumption | (simp; done) | (simp; omega))).calls rfl ?_)
          | (refine (sProgramOk_fn _ (by first | omega | assumption | (simp; done) | (simp; omega))).callQ rfl ?_)
          | (refine (l14Find_fn _ _).calls rfl ?_)
          | (refine (l14Find_fn _ _).callQ rfl ?_)
          | (refine ⟨by first | omega | assumption | (simp; done) | (simp; omega), ?_⟩)) <;> (try simp only [go_sem, seval]))
        | assumption)
      refine AW.rng L0 [1, 4, 6, 7, 21, 22, 23, 30, 31] 32 30 (fun a : List Int × Bool => [(5, .d (.bool a.2))]) (fun _ a => [.box (p.enc.map .d), .row 1 3 (intsD a.1), .box (x.enc.map .d)]) (fun u a => p.Mid T n0 i x.edges.length x.edges (u.map (fun n => (n, (0 : Int))) ++ L1.map (fun n => (n, (1 : Int)))) a.1 a.2 ∧ (u.map (fun n => (n, (0 : Int))) ++ L1.map (fun n => (n, (1 : Int)))).length ≤ x.edges.length ∧ (a.2 = false → ch1 = false)) (n1, ch1) rfl (by simp [strD_len]) ⟨by rw [← hES]; exact hmid, by rw [← hES]; exact Nat.le_refl _, fun h => h⟩ (by refine ⟨by simp [mkS], by simp [mkS], by simp only [mkS, List.all_cons, List.all_nil, O.refsLt, C.refsLt, C.refsLt1, all_dmap]; first | done | rfl | (simp; done), ?_⟩; simp [mkS, Abs.get, C.refsLtT, C.refsLt, C.refsLt1]) (fun jj nm u a hnj hdu hut hmu hinv3 hnx3 => ?_) (fun a hinv3 => ?_)
      · obtain ⟨n3, ch3⟩ := a
        obtain ⟨m1, m2, m4⟩ := hinv3
        simp only [List.map_cons, List.cons_append, List.length_cons] at m1 m2
        dsimp only at m1 m2 m4 hnx3 ⊢
        have he : (nm, (0 : Int)) ∈ x.edges := by rw [hES]; simp [List.mem_of_getElem? hnj]
        obtain ⟨⟨f0, f1⟩, f2⟩ := hed _ he
        have hat2 := strD_at hnj
        have hut2 : (jj : Int) < ((strD L0).length : Int) := by rw [strD_len]; exact hut
        have hrel := l14Find_fn p nm
        dsimp only at f0 f1 f2
        have hstep := m1.step (by omega) hxi he f1 f2 m2 m1.grew
        unfold Pg.relax at hstep
        dsimp only at hstep
        obtain ⟨f, hf⟩ : ∃ f : Nat, p.find nm = f := ⟨(p.find nm).toNat, by omega⟩
        rw [hf] at hrel hstep f1
        simp only [Int.toNat_natCast] at hstep f1
        have hfl : f < n3.length := by rw [m1.len]; exact f1
        have hil : i < n3.length := by rw [m1.len]; omega
        have hgf := intsD_g hfl
        have hbf := m1.oth f hfl
        have hown := m1.own
        simp only [List.length_cons] at hown
        have hfb : n3.getD f 0 ≤ 200 := by
          by_cases hfi : f = i
          · rw [hfi]; omega
          · have := hbf.2 hfi; omega
        have hwr : IntKind.i64.wrap (n3.getD f 0 + (0 : Int)) = n3.getD f 0 + (0 : Int) := wrap_ok (by omega) (by omega)
        have hfz : (f : Int) < (p.rels.length : Int) := by omega
        obtain ⟨X, hX⟩ : ∃ v, n3.getD f 0 + (0 : Int) = v := ⟨_, rfl⟩
        have hra := l17Raise_T n3 p.rels.length i X m1.len (by omega)
        have hvX : n3.getD f 0 = X - (0 : Int) := by omega
        rw [hX] at hwr
        rw [hvX] at hgf
        have hsub : X - (0 : Int) + (0 : Int) = X := by omega
        have hfin : p.Mid T n0 i x.edges.length x.edges (u.map (fun n => (n, (0 : Int))) ++ L1.map (fun n => (n, (1 : Int)))) (if n3.getD i 0 < X then n3.set i X else n3) (ch3 || decide (n3.getD i 0 < X)) := by
          simp only [hX] at hstep; exact hstep
        generalize hY : (if n3.getD i 0 < X then n3.set i X else n3) = Y at hra hfin
        generalize hb : decide (n3.getD i 0 < X) = b at hra hfin
        cases b with
        | true =>
          rw [Bool.or_true] at hfin
          refine run_sound Try.func41 mixed 200 _ _ (by kernel_rfl) ?_
          simp only [go_sem, seval, hut2, idx_of hat2, hgf, hfz, hsub, hwr, hfl, f1, Int.sub_zero]
          repeat' (first
            | ((first | (refine br_intro (fun hq => ?_) (fun hq => ?_) <;> (try simp only [decide_eq_true_eq, decide_eq_false_iff_not, bne_iff_ne, beq_iff_eq, beq_eq_false_iff_ne, bne_eq_false_iff_eq, Bool.not_eq_true, Bool.not_eq_false, ne_eq, Decidable.not_not, Int.not_lt, Int.not_le, Bool.not_eq_eq_eq_not, Bool.not_true, Bool.not_false, gt_iff_lt, ge_iff_le, Bool.and_eq_true, Bool.or_eq_true, Bool.or_eq_false_iff, Bool.and_eq_false_imp] at hq)) | (refine idx_intro (fun x hx => have hq := hx; ?_))) <;> (try simp only [go_sem, seval, hut2, idx_of hat2, hgf, hfz, hsub, hwr, hfl, f1, C.at1, Int.sub_zero, hq]))
            | (simp (disch := omega) only [wrap_ok])
            | ((first
              | (refine hrel.calls rfl ?_)
              | (refine hra.at1 rfl 1 rfl rfl ?_ <;> (rintro c o' ⟨rfl, ho⟩; cases ho; refine ⟨rfl, rfl, ?_⟩))
              | (refine (sProgramOk_fn _ (by first | omega | assumption | (simp; done) | (simp; omega))).calls rfl ?_)
              | (refine (sProgramOk_fn _ (by first | omega | assumption | (simp; done) | (simp; omega))).callQ rfl ?_)
              | (refine (l14Find_fn _ _).calls rfl ?_)
              | (refine (l14Find_fn _ _).callQ rfl ?_)
              | (refine ⟨by first | omega | assumption | (simp; done) | (simp; omega), ?_⟩)) <;> (try simp only [go_sem, seval, hut2, idx_of hat2, hgf, hfz, hsub, hwr, hfl, f1, C.at1, Int.sub_zero]))
            | assumption)
          refine hnx3 (Y, true) _ ⟨hfin, by omega, (fun h => by cases h)⟩ (by refine ⟨by simp [mkS], by simp [mkS], by simp only [mkS, List.all_cons, List.all_nil, O.refsLt, C.refsLt, C.refsLt1, all_dmap]; first | done | rfl | (simp; done), ?_⟩; simp [mkS, Abs.get, C.refsLtT, C.refsLt, C.refsLt1])
        | false =>
          rw [Bool.or_false] at hfin
          refine run_sound Try.func41 mixed 200 _ _ (by kernel_rfl) ?_
          simp only [go_sem, seval, hut2, idx_of hat2, hgf, hfz, hsub, hwr, hfl, f1, Int.sub_zero]
          repeat' (first
            | ((first | (refine br_intro (fun hq => ?_) (fun hq => ?_) <;> (try simp only [decide_eq_true_eq, decide_eq_false_iff_not, bne_iff_ne, beq_iff_eq, beq_eq_false_iff_ne, bne_eq_false_iff_eq, Bool.not_eq_true, Bool.not_eq_false, ne_eq, Decidable.not_not, Int.not_lt, Int.not_le, Bool.not_eq_eq_eq_not, Bool.not_true, Bool.not_false, gt_iff_lt, ge_iff_le, Bool.and_eq_true, Bool.or_eq_true, Bool.or_eq_false_iff, Bool.and_eq_false_imp] at hq)) | (refine idx_intro (fun x hx => have hq := hx; ?_))) <;> (try simp only [go_sem, seval, hut2, idx_of hat2, hgf, hfz, hsub, hwr, hfl, f1, C.at1, Int.sub_zero, hq]))
            | (simp (disch := omega) only [wrap_ok])
            | ((first
              | (refine hrel.calls rfl ?_)
              | (refine hra.at1 rfl 1 rfl rfl ?_ <;> (rintro c o' ⟨rfl, ho⟩; cases ho; refine ⟨rfl, rfl, ?_⟩))
              | (refine (sProgramOk_fn _ (by first | omega | assumption | (simp; done) | (simp; omega))).calls rfl ?_)
              | (refine (sProgramOk_fn _ (by first | omega | assumption | (simp; done) | (simp; omega))).callQ rfl ?_)
              | (refine (l14Find_fn _ _).calls rfl ?_)
              | (refine (l14Find_fn _ _).callQ rfl ?_)
              | (refine ⟨by first | omega | assumption | (simp; done) | (simp; omega), ?_⟩)) <;> (try simp only [go_sem, seval, hut2, idx_of hat2, hgf, hfz, hsub, hwr, hfl, f1, C.at1, Int.sub_zero]))
            | assumption)
          refine hnx3 (Y, ch3) _ ⟨hfin, by omega, m4⟩ (by refine ⟨by simp [mkS], by simp [mkS], by simp only [mkS, List.all_cons, List.all_nil, O.refsLt, C.refsLt, C.refsLt1, all_dmap]; first | done | rfl | (simp; done), ?_⟩; simp [mkS, Abs.get, C.refsLtT, C.refsLt, C.refsLt1])
      · obtain ⟨n2, ch2⟩ := a
        simp only [List.map_nil, List.nil_append] at hinv3
        refine run_sound Try.func41 mixed 7 _ _ (by kernel_rfl) ?_
        simp only [go_sem, seval, run.eq_1, strD_len, Int.lt_irrefl]
        repeat' (first
          | ((first | (refine br_intro (fun hq => ?_) (fun hq => ?_) <;> (try simp only [decide_eq_true_eq, decide_eq_false_iff_not, bne_iff_ne, beq_iff_eq, beq_eq_false_iff_ne, bne_eq_false_iff_eq, Bool.not_eq_true, Bool.not_eq_false, ne_eq, Decidable.not_not, Int.not_lt, Int.not_le, Bool.not_eq_eq_eq_not, Bool.not_true, Bool.not_false, gt_iff_lt, ge_iff_le, Bool.and_eq_true, Bool.or_eq_true, Bool.or_eq_false_iff, Bool.and_eq_false_imp] at hq)) | (refine idx_intro (fun x hx => have hq := hx; ?_))) <;> (try simp only [go_sem, seval, strD_len, Int.lt_irrefl, run.eq_1, hq]))
          | (simp (disch := omega) only [wrap_ok])
          | ((first
            | (refine (sProgramOk_fn _ (by first | omega | assumption | (simp; done) | (simp; omega))).calls rfl ?_)
            | (refine (sProgramOk_fn _ (by first | omega | assumption | (simp; done) | (simp; omega))).callQ rfl ?_)
            | (refine (l14Find_fn _ _).calls rfl ?_)
            | (refine (l14Find_fn _ _).callQ rfl ?_)
            | (refine ⟨by first | omega | assumption | (simp; done) | (simp; omega), ?_⟩)) <;> (try simp only [go_sem, seval, strD_len, Int.lt_irrefl, run.eq_1]))
          | assumption)
        refine AW.regT ?_
        simp only [go_sem, seval]
        repeat' (first
          | ((first | (refine br_intro (fun hq => ?_) (fun hq => ?_) <;> (try simp only [decide_eq_true_eq, decide_eq_false_iff_not, bne_iff_ne, beq_iff_eq, beq_eq_false_iff_ne, bne_eq_false_iff_eq, Bool.not_eq_true, Bool.not_eq_false, ne_eq, Decidable.not_not, Int.not_lt, Int.not_le, Bool.not_eq_eq_eq_not, Bool.not_true, Bool.not_false, gt_iff_lt, ge_iff_le, Bool.and_eq_true, Bool.or_eq_true, Bool.or_eq_false_iff, Bool.and_eq_false_imp] at hq)) | (refine idx_intro (fun x hx => have hq := hx; ?_))) <;> (try simp only [go_sem, seval, hq]))
          | (simp (disch := omega) only [wrap_ok])
          | ((first
            | (refine ACalls.nilLast (ds := [.agg x.body.enc, .bool true]) (z := 1) (by decide) c1 (d := .sl (strD L1)) ?_ ?_)
            | (refine (sProgramOk_fn _ (by first | omega | assumption | (simp; done) | (simp; omega))).calls rfl ?_)
            | (refine (sProgramOk_fn _ (by first | omega | assumption | (simp; done) | (simp; omega))).callQ rfl ?_)
            | (refine (l14Find_fn _ _).calls rfl ?_)
            | (refine (l14Find_fn _ _).callQ rfl ?_)
            | (refine ⟨by first | omega | assumption | (simp; done) | (simp; omega), ?_⟩)) <;> (try simp only [go_sem, seval]))
          | assumption)
        · rintro c H' ⟨q', B', rfl, rfl⟩
          simp [frz]
        refine run_sound Try.func41 mixed 200 _ _ (by kernel_rfl) ?_
        simp only [go_sem, seval]
        repeat' (first
          | ((first | (refine br_intro (fun hq => ?_) (fun hq => ?_) <;> (try simp only [decide_eq_true_eq, decide_eq_false_iff_not, bne_iff_ne, beq_iff_eq, beq_eq_false_iff_ne, bne_eq_false_iff_eq, Bool.not_eq_true, Bool.not_eq_false, ne_eq, Decidable.not_not, Int.not_lt, Int.not_le, Bool.not_eq_eq_eq_not, Bool.not_true, Bool.not_false, gt_iff_lt, ge_iff_le, Bool.and_eq_true, Bool.or_eq_true, Bool.or_eq_false_iff, Bool.and_eq_false_imp] at hq)) | (refine idx_intro (fun x hx => have hq := hx; ?_))) <;> (try simp only [go_sem, seval, hq]))
          | (simp (disch := omega) only [wrap_ok])
          | ((first
            | (refine (sProgramOk_fn _ (by first | omega | assumption | (simp; done) | (simp; omega))).calls rfl ?_)
            | (refine (sProgramOk_fn _ (by first | omega | assumption | (simp; done) | (simp; omega))).callQ rfl ?_)
            | (refine (l14Find_fn _ _).calls rfl ?_)
            | (refine (l14Find_fn _ _).callQ rfl ?_)
            | (refine ⟨by first | omega | assumption | (simp; done) | (simp; omega), ?_⟩)) <;> (try simp only [go_sem, seval]))
          | assumption)
        refine AW.rng L1 [1, 4, 6, 21, 22, 23, 51, 52] 53 51 (fun a : List Int × Bool => [(5, .d (.bool a.2))]) (fun _ a => [.box (p.enc.map .d), .row 1 3 (intsD a.1), .box (x.enc.map .d)]) (fun u a => p.Mid T n0 i x.edges.length x.edges (u.map (fun n => (n, (1 : Int)))) a.1 a.2 ∧ (u.map (fun n => (n, (1 : Int)))).length ≤ x.edges.length ∧ (a.2 = false → ch1 = false)) (n2, ch2) rfl (by simp [strD_len]) hinv3 (by refine ⟨by simp [mkS], by simp [mkS], by simp only [mkS, List.all_cons, List.all_nil, O.refsLt, C.refsLt, C.refsLt1, all_dmap]; first | done | rfl | (simp; done), ?_⟩; simp [mkS, Abs.get, C.refsLtT, C.refsLt, C.refsLt1]) (fun jj nm u a hnj hdu hut hmu hinv3 hnx3 => ?_) (fun a hinv3 => ?_)
        · obtain ⟨n3, ch3⟩ := a
          obtain ⟨m1, m2, m4⟩ := hinv3
          simp only [List.map_cons, List.cons_append, List.length_cons] at m1 m2
          dsimp only at m1 m2 m4 hnx3 ⊢
          have he : (nm, (1 : Int)) ∈ x.edges := by rw [hES]; simp [List.mem_of_getElem? hnj]
          obtain ⟨⟨f0, f1⟩, f2⟩ := hed _ he
          have hat2 := strD_at hnj
          have hut2 : (jj : Int) < ((strD L1).length : Int) := by rw [strD_len]; exact hut
          have hrel := l14Find_fn p nm
          dsimp only at f0 f1 f2
          have hstep := m1.step (by omega) hxi he f1 f2 m2 m1.grew
          unfold Pg.relax at hstep
          dsimp only at hstep
          obtain ⟨f, hf⟩ : ∃ f : Nat, p.find nm = f := ⟨(p.find nm).toNat, by omega⟩
          rw [hf] at hrel hstep f1
          simp only [Int.toNat_natCast] at hstep f1
          have hfl : f < n3.length := by rw [m1.len]; exact f1
          have hil : i < n3.length := by rw [m1.len]; omega
          have hgf := intsD_g hfl
          have hbf := m1.oth f hfl
          have hown := m1.own
          simp only [List.length_cons] at hown
          have hfb : n3.getD f 0 ≤ 200 := by
            by_cases hfi : f = i
            · rw [hfi]; omega
            · have := hbf.2 hfi; omega
          have hwr : IntKind.i64.wrap (n3.getD f 0 + (1 : Int)) = n3.getD f 0 + (1 : Int) := wrap_ok (by omega) (by omega)
          have hfz : (f : Int) < (p.rels.length : Int) := by omega
          obtain ⟨X, hX⟩ : ∃ v, n3.getD f 0 + (1 : Int) = v := ⟨_, rfl⟩
          have hra := l17Raise_T n3 p.rels.length i X m1.len (by omega)
          have hvX : n3.getD f 0 = X - (1 : Int) := by omega
          rw [hX] at hwr
          rw [hvX] at hgf
          have hsub : X - (1 : Int) + (1 : Int) = X := by omega
          have hfin : p.Mid T n0 i x.edges.length x.edges (u.map (fun n => (n, (1 : Int)))) (if n3.getD i 0 < X then n3.set i X else n3) (ch3 || decide (n3.getD i 0 < X)) := by
            simp only [hX] at hstep; exact hstep
          generalize hY : (if n3.getD i 0 < X then n3.set i X else n3) = Y at hra hfin
          generalize hb : decide (n3.getD i 0 < X) = b at hra hfin
          cases b with
          | true =>
            rw [Bool.or_true] at hfin
            refine run_sound Try.func41 mixed 200 _ _ (by kernel_rfl) ?_
            simp only [go_sem, seval, hut2, idx_of hat2, hgf, hfz, hsub, hwr, hfl, f1, Int.sub_zero]
            repeat' (first
              | ((first | (refine br_intro (fun hq => ?_) (fun hq => ?_) <;> (try simp only [decide_eq_true_eq, decide_eq_false_iff_not, bne_iff_ne, beq_iff_eq, beq_eq_false_iff_ne, bne_eq_false_iff_eq, Bool.not_eq_true, Bool.not_eq_false, ne_eq, Decidable.not_not, Int.not_lt, Int.not_le, Bool.not_eq_eq_eq_not, Bool.not_true, Bool.not_false, gt_iff_lt, ge_iff_le, Bool.and_eq_true, Bool.or_eq_true, Bool.or_eq_false_iff, Bool.and_eq_false_imp] at hq)) | (refine idx_intro (fun x hx => have hq := hx; ?_))) <;> (try simp only [go_sem, seval, hut2, idx_of hat2, hgf, hfz, hsub, hwr, hfl, f1, C.at1, Int.sub_zero, hq]))
              | (simp (disch := omega) only [wrap_ok])
              | ((first
                | (refine hrel.calls rfl ?_)
                | (refine hra.at1 rfl 1 rfl rfl ?_ <;> (rintro c o' ⟨rfl, ho⟩; cases ho; refine ⟨rfl, rfl, ?_⟩))
                | (refine (sProgramOk_fn _ (by first | omega | assumption | (simp; done) | (simp; omega))).calls rfl ?_)
                | (refine (sProgramOk_fn _ (by first | omega | assumption | (simp; done) | (simp; omega))).callQ rfl ?_)
                | (refine (l14Find_fn _ _).calls rfl ?_)
                | (refine (l14Find_fn _ _).callQ rfl ?_)
                | (refine ⟨by first | omega | assumption | (simp; done) | (simp; omega), ?_⟩)) <;> (try simp only [go_sem, seval, hut2, idx_of hat2, hgf, hfz, hsub, hwr, hfl, f1, C.at1, Int.sub_zero]))
              | assumption)
            refine hnx3 (Y, true) _ ⟨hfin, by omega, (fun h => by cases h)⟩ (by refine ⟨by simp [mkS], by simp [mkS], by simp only [mkS, List.all_cons, List.all_nil, O.refsLt, C.refsLt, C.refsLt1, all_dmap]; first | done | rfl | (simp; done), ?_⟩; simp [mkS, Abs.get, C.refsLtT, C.refsLt, C.refsLt1])
          | false =>
            rw [Bool.or_false] at hfin
            refine run_sound Try.func41 mixed 200 _ _ (by kernel_rfl) ?_
            simp only [go_sem, seval, hut2, idx_of hat2, hgf, hfz, hsub, hwr, hfl, f1, Int.sub_zero]
            repeat' (first
              | ((first | (refine br_intro (fun hq => ?_) (fun hq => ?_) <;> (try simp only [decide_eq_true_eq, decide_eq_false_iff_not, bne_iff_ne, beq_iff_eq, beq_eq_false_iff_ne, bne_eq_false_iff_eq, Bool.not_eq_true, Bool.not_eq_false, ne_eq, Decidable.not_not, Int.not_lt, Int.not_le, Bool.not_eq_eq_eq_not, Bool.not_true, Bool.not_false, gt_iff_lt, ge_iff_le, Bool.and_eq_true, Bool.or_eq_true, Bool.or_eq_false_iff, Bool.and_eq_false_imp] at hq)) | (refine idx_intro (fun x hx => have hq := hx; ?_))) <;> (try simp only [go_sem, seval, hut2, idx_of hat2, hgf, hfz, hsub, hwr, hfl, f1, C.at1, Int.sub_zero, hq]))
              | (simp (disch := omega) only [wrap_ok])
              | ((first
                | (refine hrel.calls rfl ?_)
                | (refine hra.at1 rfl 1 rfl rfl ?_ <;> (rintro c o' ⟨rfl, ho⟩; cases ho; refine ⟨rfl, rfl, ?_⟩))
                | (refine (sProgramOk_fn _ (by first | omega | assumption | (simp; done) | (simp; omega))).calls rfl ?_)
                | (refine (sProgramOk_fn _ (by first | omega | assumption | (simp; done) | (simp; omega))).callQ rfl ?_)
                | (refine (l14Find_fn _ _).calls rfl ?_)
                | (refine (l14Find_fn _ _).callQ rfl ?_)
                | (refine ⟨by first | omega | assumption | (simp; done) | (simp; omega), ?_⟩)) <;> (try simp only [go_sem, seval, hut2, idx_of hat2, hgf, hfz, hsub, hwr, hfl, f1, C.at1, Int.sub_zero]))
              | assumption)
            refine hnx3 (Y, ch3) _ ⟨hfin, by omega, m4⟩ (by refine ⟨by simp [mkS], by simp [mkS], by simp only [mkS, List.all_cons, List.all_nil, O.refsLt, C.refsLt, C.refsLt1, all_dmap]; first | done | rfl | (simp; done), ?_⟩; simp [mkS, Abs.get, C.refsLtT, C.refsLt, C.refsLt1])
        · obtain ⟨nf, chf⟩ := a
          obtain ⟨m1, m2, m4⟩ := hinv3
          simp only [List.map_nil] at m1
          try dsimp only at m1 m4
          have hil : i < nf.length := by rw [m1.len]; omega
          have hgi := intsD_g hil
          obtain ⟨vi, hvi⟩ : ∃ v, nf.getD i 0 = v := ⟨_, rfl⟩
          rw [hvi] at hgi
          by_cases hb : (p.rels.length : Int) ≤ vi
          · obtain ⟨s1, s2⟩ := hst.2.1 (Pg.no_sol (fun i r hr e he => ⟨(hEok i r hr e he).1.2, (hEok i r hr e he).2⟩) m1.low (i := i) (by omega) (by omega))
            rw [s1, s2]
            refine run_sound Try.func41 mixed 200 _ _ (by kernel_rfl) ?_
            simp only [go_sem, seval, hgi, hil, hb, strD_len, Int.lt_irrefl]
            repeat' (first
              | ((first | (refine br_intro (fun hq => ?_) (fun hq => ?_) <;> (try simp only [decide_eq_true_eq, decide_eq_false_iff_not, bne_iff_ne, beq_iff_eq, beq_eq_false_iff_ne, bne_eq_false_iff_eq, Bool.not_eq_true, Bool.not_eq_false, ne_eq, Decidable.not_not, Int.not_lt, Int.not_le, Bool.not_eq_eq_eq_not, Bool.not_true, Bool.not_false, gt_iff_lt, ge_iff_le, Bool.and_eq_true, Bool.or_eq_true, Bool.or_eq_false_iff, Bool.and_eq_false_imp] at hq)) | (refine idx_intro (fun x hx => have hq := hx; ?_))) <;> (try simp only [go_sem, seval, hgi, hil, hb, strD_len, Int.lt_irrefl, hq]))
              | (simp (disch := omega) only [wrap_ok])
              | ((first
                | (refine (sProgramOk_fn _ (by first | omega | assumption | (simp; done) | (simp; omega))).calls rfl ?_)
                | (refine (sProgramOk_fn _ (by first | omega | assumption | (simp; done) | (simp; omega))).callQ rfl ?_)
                | (refine (l14Find_fn _ _).calls rfl ?_)
                | (refine (l14Find_fn _ _).callQ rfl ?_)
                | (refine ⟨by first | omega | assumption | (simp; done) | (simp; omega), ?_⟩)) <;> (try simp only [go_sem, seval, hgi, hil, hb, strD_len, Int.lt_irrefl]))
              | assumption)
            all_goals rfl
          · refine run_sound Try.func41 mixed 200 _ _ (by kernel_rfl) ?_
            simp only [go_sem, seval, hgi, hil, hb, strD_len, Int.lt_irrefl]
            repeat' (first
              | ((first | (refine br_intro (fun hq => ?_) (fun hq => ?_) <;> (try simp only [decide_eq_true_eq, decide_eq_false_iff_not, bne_iff_ne, beq_iff_eq, beq_eq_false_iff_ne, bne_eq_false_iff_eq, Bool.not_eq_true, Bool.not_eq_false, ne_eq, Decidable.not_not, Int.not_lt, Int.not_le, Bool.not_eq_eq_eq_not, Bool.not_true, Bool.not_false, gt_iff_lt, ge_iff_le, Bool.and_eq_true, Bool.or_eq_true, Bool.or_eq_false_iff, Bool.and_eq_false_imp] at hq)) | (refine idx_intro (fun x hx => have hq := hx; ?_))) <;> (try simp only [go_sem, seval, hgi, hil, hb, strD_len, Int.lt_irrefl, hq]))
              | (simp (disch := omega) only [wrap_ok])
              | ((first
                | (refine (sProgramOk_fn _ (by first | omega | assumption | (simp; done) | (simp; omega))).calls rfl ?_)
                | (refine (sProgramOk_fn _ (by first | omega | assumption | (simp; done) | (simp; omega))).callQ rfl ?_)
                | (refine (l14Find_fn _ _).calls rfl ?_)
                | (refine (l14Find_fn _ _).callQ rfl ?_)
                | (refine ⟨by first | omega | assumption | (simp; done) | (simp; omega), ?_⟩)) <;> (try simp only [go_sem, seval, hgi, hil, hb, strD_len, Int.lt_irrefl]))
              | assumption)
            refine hnx1 (nf, chf) _ (hinv.next hxi m1 m4 (by rw [hvi]; omega)) (by refine ⟨by simp [mkS], by simp [mkS], by simp only [mkS, List.all_cons, List.all_nil, O.refsLt, C.refsLt, C.refsLt1, all_dmap]; first | done | rfl | (simp; done), ?_⟩; simp [mkS, Abs.get, C.refsLtT, C.refsLt, C.refsLt1])
    · simp only [List.length_nil, Nat.sub_zero] at hinv
      refine run_sound Try.func41 mixed 200 _ _ (by kernel_rfl) ?_
      simp only [go_sem, seval]
      repeat' (first
        | ((first | (refine br_intro (fun hq => ?_) (fun hq => ?_) <;> (try simp only [decide_eq_true_eq, decide_eq_false_iff_not, bne_iff_ne, beq_iff_eq, beq_eq_false_iff_ne, bne_eq_false_iff_eq, Bool.not_eq_true, Bool.not_eq_false, ne_eq, Decidable.not_not, Int.not_lt, Int.not_le, Bool.not_eq_eq_eq_not, Bool.not_true, Bool.not_false, gt_iff_lt, ge_iff_le, Bool.and_eq_true, Bool.or_eq_true, Bool.or_eq_false_iff, Bool.and_eq_false_imp] at hq)) | (refine idx_intro (fun x hx => have hq := hx; ?_))) <;> (try simp only [go_sem, seval, hq]))
        | (simp (disch := omega) only [wrap_ok])
        | ((first
          | (refine (sProgramOk_fn _ (by first | omega | assumption | (simp; done) | (simp; omega))).calls rfl ?_)
          | (refine (sProgramOk_fn _ (by first | omega | assumption | (simp; done) | (simp; omega))).callQ rfl ?_)
          | (refine (l14Find_fn _ _).calls rfl ?_)
          | (refine (l14Find_fn _ _).callQ rfl ?_)
          | (refine ⟨by first | omega | assumption | (simp; done) | (simp; omega), ?_⟩)) <;> (try simp only [go_sem, seval]))
        | assumption)
      refine hnext a _ hinv.fin hinv.mu (by refine ⟨by simp [mkS], by simp [mkS], by simp only [mkS, List.all_cons, List.all_nil, O.refsLt, C.refsLt, C.refsLt1, all_dmap]; first | done | rfl | (simp; done), ?_⟩; simp [mkS, Abs.get, C.refsLtT, C.refsLt, C.refsLt1])
theorem sStrata_fn (p : Pg) {B : Bool} {V : List Int} (hst : p.StV B V) (hw : wtL p.enc ≤ 1048576) : Gives Try.prog 41 [.agg p.enc] (.tup [.d (.sl (intsD (if pgOk p = true then V else []))), .d (.bool (pgOk p && B))]) := by
  by_cases hok : pgOk p = true
  · rw [if_pos hok, hok, Bool.true_and]
    exact sStrata_fn1 p hst hw hok (pgOk_sh hok)
  · simp only [if_neg hok]
    simp only [Bool.not_eq_true] at hok
    rw [hok, Bool.false_and]
    refine ACalls.enter (fn := Try.f41) Try.func41 rfl (by show 1 ≤ _; decide) ?_
    refine run_sound Try.func41 mixed 200 _ _ (by kernel_rfl) ?_
    simp only [go_sem, seval, hok]
    repeat' (first
      | ((first | (refine br_intro (fun hq => ?_) (fun hq => ?_) <;> (try simp only [decide_eq_true_eq, decide_eq_false_iff_not, bne_iff_ne, beq_iff_eq, beq_eq_false_iff_ne, bne_eq_false_iff_eq, Bool.not_eq_true, Bool.not_eq_false, ne_eq, Decidable.not_not, Int.not_lt, Int.not_le, Bool.not_eq_eq_eq_not, Bool.not_true, Bool.not_false, gt_iff_lt, ge_iff_le, Bool.and_eq_true, Bool.or_eq_true, Bool.or_eq_false_iff, Bool.and_eq_false_imp] at hq)) | (refine idx_intro (fun x hx => have hq := hx; ?_))) <;> (try simp only [go_sem, seval, hok, hq]))
      | (simp (disch := omega) only [wrap_ok])
      | ((first
        | (refine (sProgramOk_fn _ (by first | omega | assumption | (simp; done) | (simp; omega))).calls rfl ?_)
        | (refine (sProgramOk_fn _ (by first | omega | assumption | (simp; done) | (simp; omega))).callQ rfl ?_)
        | (refine (l14Find_fn _ _).calls rfl ?_)
        | (refine (l14Find_fn _ _).callQ rfl ?_)
        | (refine ⟨by first | omega | assumption | (simp; done) | (simp; omega), ?_⟩)) <;> (try simp only [go_sem, seval, hok]))
      | assumption)
    all_goals rfl
theorem stV_len {p : Pg} {B : Bool} {V : List Int} (hst : p.StV B V) : (if pgOk p = true then V else []).length ≤ 8 := by
  split
  · rename_i hok
    have := hst.2.2
    unfold pgOk at hok
    simp only [Bool.and_eq_true, decide_eq_true_eq] at hok
    have := hok.1
    omega
  · simp
end Go.Proofs.Ytljdpohdfnileaa

