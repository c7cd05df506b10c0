import Derived.Test.YtbncaodnnbldmaaGreatDoorW57
import Derived.Test.YtbncaodnnbldmaaGreatDoorW7
namespace Go.Proofs.YtbncaodnnbldmaaGreatDoor
open Go.Abs
set_option maxRecDepth 100000
set_option maxHeartbeats 4000000
set_option linter.unusedSimpArgs false
set_option linter.unusedVariables false
theorem tabQ {f : Nat} {args : List C} {r : C} (h : ACalls Tryz.prog f args [tabO] (fun c H' => c = r ∧ H' = [tabO])) (ha : args.all (C.refsLtT 1) = true) {X : List O} {K : C → Prop} (hk : K r) : CallQ Tryz.prog f args ([tabO] ++ X) K :=
 ⟨r, h.frame ha rfl (fun c H' h1 _ => ⟨h1.1, by rw [h1.2]⟩), hk⟩
theorem spec_FormatProgram_fn (p : Pg) (hw : wtL p.enc ≤ 1048576) : Gives Tryz.prog 6 [.agg p.enc] (.d (.str (if pgOk p = true then p.txt else []))) := by
 by_cases hg : pgOk p = true
 ·rw [if_pos hg]
  have hmx : maxLen = 9223372036854775807 := rfl
  have hpl := Pg.txt_len hg
  have hg' := hg
  unfold pgOk at hg'
  simp only [Bool.and_eq_true, decide_eq_true_eq] at hg'
  refine ACalls.enter (fn := Tryz.f6) Tryz.func6 rfl (by show 1 ≤ _; decide) ?_
  refine run_sound Tryz.func6 mixed 200 _ _ (by kernel_rfl) ?_
  simp only [go_sem, seval, hg]
  repeat' (first
   | ((first | (refine br_n (fun hq => ?_) (fun hq => ?_)) | (refine idx_intro (fun x hx => have hq := hx; ?_))) <;> (try simp only [go_sem, seval, hg, hq]))
   | (simp (disch := omega) only [wrap_ok])
   | ((first
    | (refine (sProgramOk_fn _ sd).calls rfl ?_)
    | (refine (sProgramOk_fn _ sd).callQ rfl ?_)
    | (refine ⟨sd, ?_⟩)
    | (refine ⟨by assumption, ?_⟩)) <;> (try simp only [go_sem, seval, hg]))
   | assumption)
  refine AW.rng p.rels [12, 13] 14 12 (fun acc : List UInt8 => [(3, .d (.str acc))]) (fun H _ => H) (fun r acc => acc ++ r.flatMap Rl.txt = p.txt) [] rfl (by simp) (by simp [Pg.txt]) (by refine ⟨by simp [mkS], by simp [mkS], by simp only [mkS, List.all_cons, List.all_nil, O.refsLt, C.refsLt, C.refsLt1, all_dmap]; first | done | rfl | (simp; done), ?_⟩; simp [mkS, Abs.get, C.refsLtT, C.refsLt, C.refsLt1]) (fun i x r acc hxi hdr hlt hm hinv hnext => ?_) (fun acc hinv => ?_)
  ·have hx := List.mem_of_getElem? hxi
   have hxw := Pg.wt_rels hx
   have hbw := (Rl.wt_body x).1
   obtain ⟨ix, hix⟩ := okL_mem hg'.2 x hx
   obtain ⟨x1, x2, x3, x4, x5⟩ := relOk_txt hix
   have hal := congrArg List.length hinv
   simp only [List.flatMap_cons, List.length_append, Rl.txt, List.length_cons, List.length_nil] at hal
   have hh := Rl.hd_len x1 (i := x.arity.toNat) (by omega)
   refine run_sound Tryz.func6 mixed 200 _ _ (by kernel_rfl) ?_
   simp only [go_sem, seval, hlt, idx_of hxi]
   refine AW.lp [3, 5, 12, 13, 14] (fun j : Nat => [(7, .d (.int .i64 j)), (6, .d (.str (joinS [32] (x.hdW j))))]) (fun H _ => H) (fun j => j ≤ x.arity.toNat) (fun j => x.arity.toNat - j) 0 (Nat.zero_le _) (by refine ⟨by simp [mkS], by simp [mkS], by simp only [mkS, List.all_cons, List.all_nil, O.refsLt, all_dmap]; rfl, ?_⟩; simp [mkS, Abs.get, C.refsLtT, C.refsLt, C.refsLt1, Rl.hd_zero]) ?_
   intro j hj hnx
   have hjl := Rl.hd_len x1 (i := j) (by omega)
   have hdl := dec_len (n := (j : Int)) (by omega) (by omega)
   by_cases hja : j < x.arity.toNat
   ·have hjz : (j : Int) < x.arity := by omega
    refine run_sound Tryz.func6 mixed 200 _ _ (by kernel_rfl) ?_
    simp only [go_sem, seval, hjz]
    repeat' (first
     | ((first | (refine br_n (fun hq => ?_) (fun hq => ?_)) | (refine idx_intro (fun x hx => have hq := hx; ?_))) <;> (try simp only [go_sem, seval, hjz, hq]))
     | (simp (disch := omega) only [wrap_ok])
     | (refine hnx (j + 1) _ (by omega) (by omega) (by refine ⟨by simp [mkS], by simp [mkS], by simp only [mkS, List.all_cons, List.all_nil, O.refsLt, all_dmap]; rfl, ?_⟩; simp [mkS, Abs.get, C.refsLtT, C.refsLt, C.refsLt1, Rl.hd_succ]))
     | ((first
      | (refine (spec_FormatInt_fn j (by omega) (by omega)).calls rfl ?_)
      | (refine (sProgramOk_fn _ sd).calls rfl ?_)
      | (refine (sProgramOk_fn _ sd).callQ rfl ?_)
      | (refine ⟨sd, ?_⟩)
      | (refine ⟨by assumption, ?_⟩)) <;> (try simp only [go_sem, seval, hjz]))
     | assumption)
   ·have hjz : ¬ (j : Int) < x.arity := by omega
    obtain rfl : j = x.arity.toNat := by omega
    refine run_sound Tryz.func6 mixed 200 _ _ (by kernel_rfl) ?_
    simp only [go_sem, seval, hjz]
    repeat' (first
     | ((first | (refine br_n (fun hq => ?_) (fun hq => ?_)) | (refine idx_intro (fun x hx => have hq := hx; ?_))) <;> (try simp only [go_sem, seval, hjz, bytesOf, hq]))
     | (simp (disch := omega) only [wrap_ok])
     | (refine hnext (acc ++ x.txt) _ (by rw [← hinv]; simp) (by refine ⟨by simp [mkS], by simp [mkS], by simp only [mkS, List.all_cons, List.all_nil, O.refsLt, all_dmap]; rfl, ?_⟩; simp [mkS, Abs.get, C.refsLtT, C.refsLt, C.refsLt1, Rl.txt]))
     | ((first
      | (refine (l15Format_fn x.body x4 x5 (by omega)).callQ rfl ?_)
      | (refine (sProgramOk_fn _ sd).calls rfl ?_)
      | (refine (sProgramOk_fn _ sd).callQ rfl ?_)
      | (refine ⟨sd, ?_⟩)
      | (refine ⟨by assumption, ?_⟩)) <;> (try simp only [go_sem, seval, hjz, bytesOf]))
     | assumption)
  ·simp only [List.flatMap_nil, List.append_nil] at hinv
   subst hinv
   refine run_sound Tryz.func6 mixed 200 _ _ (by kernel_rfl) ?_
   simp only [go_sem, seval]
   repeat' (first
    | ((first | (refine br_n (fun hq => ?_) (fun hq => ?_)) | (refine idx_intro (fun x hx => have hq := hx; ?_))) <;> (try simp only [go_sem, seval, hq]))
    | (simp (disch := omega) only [wrap_ok])
    | ((first
     | (refine (sProgramOk_fn _ sd).calls rfl ?_)
     | (refine (sProgramOk_fn _ sd).callQ rfl ?_)
     | (refine ⟨sd, ?_⟩)
     | (refine ⟨by assumption, ?_⟩)) <;> (try simp only [go_sem, seval]))
    | assumption)
 ·rw [if_neg hg]
  simp only [Bool.not_eq_true] at hg
  refine ACalls.enter (fn := Tryz.f6) Tryz.func6 rfl (by show 1 ≤ _; decide) ?_
  refine run_sound Tryz.func6 mixed 200 _ _ (by kernel_rfl) ?_
  simp only [go_sem, seval, hg]
  repeat' (first
   | ((first | (refine br_n (fun hq => ?_) (fun hq => ?_)) | (refine idx_intro (fun x hx => have hq := hx; ?_))) <;> (try simp only [go_sem, seval, hg, hq]))
   | (simp (disch := omega) only [wrap_ok])
   | ((first
    | (refine (sProgramOk_fn _ sd).calls rfl ?_)
    | (refine (sProgramOk_fn _ sd).callQ rfl ?_)
    | (refine ⟨sd, ?_⟩)
    | (refine ⟨by assumption, ?_⟩)) <;> (try simp only [go_sem, seval, hg]))
   | assumption)
theorem variable_fn (n : Int) : Gives Tryz.prog 22 [.int .i64 n] (.d (.agg (V.var n).tm.enc)) := by
 refine ACalls.enter (fn := Tryz.f22) Tryz.func22 rfl (by show 1 ≤ _; decide) ?_
 refine run_sound Tryz.func22 mixed 200 _ _ (by kernel_rfl) ?_
 simp only [go_sem, seval]
 repeat' (first
  | ((first | (refine br_n (fun hq => ?_) (fun hq => ?_)) | (refine idx_intro (fun x hx => have hq := hx; ?_))) <;> (try simp only [go_sem, seval, hq]))
  | (simp (disch := omega) only [wrap_ok])
  | ((first
   | (refine ⟨sd, ?_⟩)
   | (refine ⟨by assumption, ?_⟩)) <;> (try simp only [go_sem, seval]))
  | assumption)
 all_goals rfl
theorem refs2 (m : Nat) (cs ds : List D) (q : Nat) (xs : List (List D)) : [tabO, .box (cs.map .d), .box (ds.map .d), .buf q 1 9 xs].all (O.refsLt m) = true := by
 show (tabO.refsLt m && ((cs.map C.d).all (C.refsLt m) && ((ds.map C.d).all (C.refsLt m) && (true && true)))) = true
 rw [all_dmap, all_dmap, tabO_refs]; rfl
theorem refs1 (m : Nat) (cs : List D) : [tabO, .box (cs.map .d)].all (O.refsLt m) = true := by
 show (tabO.refsLt m && ((cs.map C.d).all (C.refsLt m) && true)) = true
 rw [all_dmap, tabO_refs]; rfl
theorem impl_FormatProgram_fn (p : Pg) (hw : wtL p.enc ≤ 1048576) : ACalls Tryz.prog 8 [.d (.agg p.enc)] [tabO] (fun c H' => c = .d (.str (if pgOk p = true then p.txt else [])) ∧ H' = [tabO]) := by
 by_cases hg : pgOk p = true
 ·rw [if_pos hg]
  have hmx : maxLen = 9223372036854775807 := rfl
  have hpl := Pg.txt_len hg
  have hg' := hg
  unfold pgOk at hg'
  simp only [Bool.and_eq_true, decide_eq_true_eq] at hg'
  refine ACalls.enter (fn := Tryz.f8) Tryz.func8 rfl (by show 1 ≤ _; decide) ?_
  refine run_sound Tryz.func8 mixed 200 _ _ (by kernel_rfl) ?_
  simp only [go_sem, seval, hg]
  repeat' (first
   | ((first | (refine br_n (fun hq => ?_) (fun hq => ?_)) | (refine idx_intro (fun x hx => have hq := hx; ?_))) <;> (try simp only [go_sem, seval, hg, hq]))
   | (simp (disch := omega) only [wrap_ok])
   | ((first
    | (refine (iProgramOk_fn _ sd).calls rfl ?_)
    | (refine (iProgramOk_fn _ sd).callQ rfl ?_)
    | (refine ⟨sd, ?_⟩)
    | (refine ⟨by assumption, ?_⟩)) <;> (try simp only [go_sem, seval, hg]))
   | assumption)
  refine AW.rng p.rels [12, 13] 14 12 (fun acc : List UInt8 => [(3, .d (.str acc))]) (fun H _ => H) (fun r acc => acc ++ r.flatMap Rl.txt = p.txt) [] rfl (by simp) (by simp [Pg.txt]) (by refine ⟨by simp [mkS], by simp [mkS], refs1 _ _, ?_⟩; simp [mkS, Abs.get, C.refsLtT, C.refsLt, C.refsLt1]) (fun i x r acc hxi hdr hlt hm hinv hnext => ?_) (fun acc hinv => ?_)
  ·have hx := List.mem_of_getElem? hxi
   have hxw := Pg.wt_rels hx
   have hbw := (Rl.wt_body x).1
   obtain ⟨ix, hix⟩ := okL_mem hg'.2 x hx
   obtain ⟨x1, x2, x3, x4, x5⟩ := relOk_txt hix
   have hal := congrArg List.length hinv
   simp only [List.flatMap_cons, List.length_append, Rl.txt, List.length_cons, List.length_nil] at hal
   have hh := Rl.hd_len x1 (i := x.arity.toNat) (by omega)
   refine run_sound Tryz.func8 mixed 10 _ _ (by kernel_rfl) ?_
   simp only [go_sem, seval, run.eq_1, hlt, idx_of hxi]
   repeat' (first
    | ((first | (refine br_n (fun hq => ?_) (fun hq => ?_)) | (refine idx_intro (fun x hx => have hq := hx; ?_))) <;> (try simp only [go_sem, seval, hlt, idx_of hxi, run.eq_1, hq]))
    | (simp (disch := omega) only [wrap_ok])
    | ((first
     | (refine (iProgramOk_fn _ sd).calls rfl ?_)
     | (refine (iProgramOk_fn _ sd).callQ rfl ?_)
     | (refine ⟨sd, ?_⟩)
     | (refine ⟨by assumption, ?_⟩)) <;> (try simp only [go_sem, seval, hlt, idx_of hxi, run.eq_1]))
    | assumption)
   refine AW.regL ?_
   simp only [go_sem, seval]
   repeat' (first
    | ((first | (refine br_n (fun hq => ?_) (fun hq => ?_)) | (refine idx_intro (fun x hx => have hq := hx; ?_))) <;> (try simp only [go_sem, seval, hq]))
    | (simp (disch := omega) only [wrap_ok])
    | ((first
     | (refine all_intro (fun Bz => ?_))
     | (refine (iProgramOk_fn _ sd).calls rfl ?_)
     | (refine (iProgramOk_fn _ sd).callQ rfl ?_)
     | (refine ⟨sd, ?_⟩)
     | (refine ⟨by assumption, ?_⟩)) <;> (try simp only [go_sem, seval]))
    | assumption)
   refine AW.treeB 3 rfl (by simp [D.flat]) ?_
   refine run_sound Tryz.func8 mixed 200 _ _ (by kernel_rfl) ?_
   simp only [go_sem, seval]
   refine AW.lp [3, 5, 12, 13, 14] (fun j : Nat => [(7, .d (.int .i64 j)), (6, .own 3 j)]) (fun H j => H.take 3 ++ [.buf j 1 9 (strD (x.hdW j))]) (fun j => j ≤ x.arity.toNat) (fun j => x.arity.toNat - j) 0 (Nat.zero_le _) (by refine ⟨by simp [mkS], by simp [mkS, Rl.hdW, strD_one], refs2 _ _ _ _ _, ?_⟩; simp [mkS, Abs.get, C.refsLtT, C.refsLt, C.refsLt1]) ?_
   intro j hj hnx
   have hdl := dec_len (n := (j : Int)) (by omega) (by omega)
   by_cases hja : j < x.arity.toNat
   ·have hjz : (j : Int) < x.arity := by omega
    have hft := FormatTerm_fn (V.var j).tm (by show wtL (V.var j).enc ≤ _; rw [V.enc_var]; simp [wtL, D.wt, wtR])
    have hvf : (V.var j).fine = true := by simp [V.fine]; omega
    have hvo : (V.var j).ok = true := by simp [V.ok, hvf, V.size]
    rw [if_pos (tmOk_tm hvo)] at hft
    have hvt : (V.var j).tm.V.txt = 63 :: dec j := by simp [Tm.V, V.v?_tm _ hvf]; rfl
    rw [hvt] at hft
    refine run_sound Tryz.func8 mixed 200 _ _ (by kernel_rfl) ?_
    simp only [go_sem, seval, hjz]
    repeat' (first
     | ((first | (refine br_n (fun hq => ?_) (fun hq => ?_)) | (refine idx_intro (fun x hx => have hq := hx; ?_))) <;> (try simp only [go_sem, seval, hjz, strD_len, Rl.hdW_len, hq]))
     | (simp (disch := omega) only [wrap_ok])
     | (refine hnx (j + 1) _ (by omega) (by omega) (by refine ⟨by simp [mkS], by simp [mkS, Rl.hdW_succ, strD_append, strD_one], refs2 _ _ _ _ _, ?_⟩; simp [mkS, Abs.get, C.refsLtT, C.refsLt, C.refsLt1]))
     | ((first
      | (refine (variable_fn j).calls rfl ?_)
      | (refine hft.frame (X := [_, _, _]) rfl rfl ?_ <;> (rintro c H' ⟨rfl, rfl⟩ _))
      | (refine (iProgramOk_fn _ sd).calls rfl ?_)
      | (refine (iProgramOk_fn _ sd).callQ rfl ?_)
      | (refine ⟨sd, ?_⟩)
      | (refine ⟨by assumption, ?_⟩)) <;> (try simp only [go_sem, seval, hjz, strD_len, Rl.hdW_len]))
     | assumption)
   ·have hjz : ¬ (j : Int) < x.arity := by omega
    obtain rfl : j = x.arity.toNat := by omega
    refine run_sound Tryz.func8 mixed 5 _ _ (by kernel_rfl) ?_
    simp only [go_sem, seval, run.eq_1, hjz]
    repeat' (first
     | ((first | (refine br_n (fun hq => ?_) (fun hq => ?_)) | (refine idx_intro (fun x hx => have hq := hx; ?_))) <;> (try simp only [go_sem, seval, hjz, run.eq_1, hq]))
     | (simp (disch := omega) only [wrap_ok])
     | ((first
      | (refine (iProgramOk_fn _ sd).calls rfl ?_)
      | (refine (iProgramOk_fn _ sd).callQ rfl ?_)
      | (refine ⟨sd, ?_⟩)
      | (refine ⟨by assumption, ?_⟩)) <;> (try simp only [go_sem, seval, hjz, run.eq_1]))
     | assumption)
    refine AW.freezeB 6 3 rfl rfl ?_
    refine run_sound Tryz.func8 mixed 200 _ _ (by kernel_rfl) ?_
    simp only [go_sem, seval]
    repeat' (first
     | ((first | (refine br_n (fun hq => ?_) (fun hq => ?_)) | (refine idx_intro (fun x hx => have hq := hx; ?_))) <;> (try simp only [go_sem, seval, hq]))
     | (simp (disch := omega) only [wrap_ok])
     | (refine hnext (acc ++ x.txt) _ (by rw [← hinv]; simp) (by refine ⟨by simp [mkS], by simp [mkS], refs1 _ _, ?_⟩; simp [mkS, Abs.get, C.refsLtT, C.refsLt, C.refsLt1, Rl.txt]))
     | ((first
      | (refine (impl_Join_fn (x.hdW x.arity.toNat) [32] (by omega)).callQ rfl ?_)
      | (refine tabQ (goalText_fn x.body x4 x5 (by omega)) (X := [_, _, _]) rfl ?_)
      | (refine (iProgramOk_fn _ sd).calls rfl ?_)
      | (refine (iProgramOk_fn _ sd).callQ rfl ?_)
      | (refine ⟨sd, ?_⟩)
      | (refine ⟨by assumption, ?_⟩)) <;> (try simp only [go_sem, seval]))
     | assumption)
  ·simp only [List.flatMap_nil, List.append_nil] at hinv
   subst hinv
   refine run_sound Tryz.func8 mixed 200 _ _ (by kernel_rfl) ?_
   simp only [go_sem, seval]
   repeat' (first
    | ((first | (refine br_n (fun hq => ?_) (fun hq => ?_)) | (refine idx_intro (fun x hx => have hq := hx; ?_))) <;> (try simp only [go_sem, seval, hq]))
    | (simp (disch := omega) only [wrap_ok])
    | ((first
     | (refine (iProgramOk_fn _ sd).calls rfl ?_)
     | (refine (iProgramOk_fn _ sd).callQ rfl ?_)
     | (refine ⟨sd, ?_⟩)
     | (refine ⟨by assumption, ?_⟩)) <;> (try simp only [go_sem, seval]))
    | assumption)
 ·rw [if_neg hg]
  simp only [Bool.not_eq_true] at hg
  refine ACalls.enter (fn := Tryz.f8) Tryz.func8 rfl (by show 1 ≤ _; decide) ?_
  refine run_sound Tryz.func8 mixed 200 _ _ (by kernel_rfl) ?_
  simp only [go_sem, seval, hg]
  repeat' (first
   | ((first | (refine br_n (fun hq => ?_) (fun hq => ?_)) | (refine idx_intro (fun x hx => have hq := hx; ?_))) <;> (try simp only [go_sem, seval, hg, hq]))
   | (simp (disch := omega) only [wrap_ok])
   | ((first
    | (refine (iProgramOk_fn _ sd).calls rfl ?_)
    | (refine (iProgramOk_fn _ sd).callQ rfl ?_)
    | (refine ⟨sd, ?_⟩)
    | (refine ⟨by assumption, ?_⟩)) <;> (try simp only [go_sem, seval, hg]))
   | assumption)
end Go.Proofs.YtbncaodnnbldmaaGreatDoor
