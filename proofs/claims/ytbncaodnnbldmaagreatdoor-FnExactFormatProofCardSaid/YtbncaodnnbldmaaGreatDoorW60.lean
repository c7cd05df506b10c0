import Derived.Test.YtbncaodnnbldmaaGreatDoorW57
import Derived.Test.YtbncaodnnbldmaaGreatDoorW39
import Derived.Test.YtbncaodnnbldmaaGreatDoorW41
namespace Go.Proofs.YtbncaodnnbldmaaGreatDoor
open Go.Abs
set_option maxRecDepth 100000
set_option maxHeartbeats 4000000
set_option linter.unusedSimpArgs false
set_option linter.unusedVariables false
theorem tabQ {f : Nat} {args : List C} {r : C} (h : ACalls Tryz.prog f args [tabO] (fun c H' => c = r ∧ H' = [tabO])) (ha : args.all (C.refsLtT 1) = true) {X : List O} {K : C → Prop} (hk : K r) : CallQ Tryz.prog f args ([tabO] ++ X) K :=
 ⟨r, h.frame ha rfl (fun c H' h1 _ => ⟨h1.1, by rw [h1.2]⟩), hk⟩
theorem spec_group_fn (l : List (List UInt8)) (hb : (grp l).length ≤ 1000000000) : Gives Tryz.prog 58 [.sl (strD l)] (.d (.str (grp l))) := by
 have hmx : maxLen = 9223372036854775807 := rfl
 have hg : grp l = 40 :: (joinS [32] l ++ [41]) := rfl
 have hl := congrArg List.length hg
 simp only [List.length_cons, List.length_append, List.length_nil] at hl
 rw [hg]
 refine ACalls.enter (fn := Tryz.f58) Tryz.func58 rfl (by show 1 ≤ _; decide) ?_
 refine run_sound Tryz.func58 mixed 200 _ _ (by kernel_rfl) ?_
 simp only [go_sem, seval]
 repeat' (first
  | ((first | (refine br_n (fun hq => ?_) (fun hq => ?_)) | (refine idx_intro (fun x hx => have hq := hx; ?_))) <;> (try simp only [go_sem, seval, hq]))
  | (simp (disch := omega) only [wrap_ok])
  | ((first
   | (refine (spec_Join_fn l [32] (by omega)).calls rfl ?_)
   | (refine ⟨sd, ?_⟩)
   | (refine ⟨by assumption, ?_⟩)) <;> (try simp only [go_sem, seval]))
  | assumption)
 all_goals (rw [hmx]; omega)
theorem impl_group_fn (l : List (List UInt8)) (hb : (grp l).length ≤ 1000000000) : Gives Tryz.prog 64 [.sl (strD l)] (.d (.str (grp l))) := by
 have hmx : maxLen = 9223372036854775807 := rfl
 have hg : grp l = 40 :: (joinS [32] l ++ [41]) := rfl
 have hl := congrArg List.length hg
 simp only [List.length_cons, List.length_append, List.length_nil] at hl
 rw [hg]
 refine ACalls.enter (fn := Tryz.f64) Tryz.func64 rfl (by show 1 ≤ _; decide) ?_
 refine run_sound Tryz.func64 mixed 200 _ _ (by kernel_rfl) ?_
 simp only [go_sem, seval]
 repeat' (first
  | ((first | (refine br_n (fun hq => ?_) (fun hq => ?_)) | (refine idx_intro (fun x hx => have hq := hx; ?_))) <;> (try simp only [go_sem, seval, hq]))
  | (simp (disch := omega) only [wrap_ok])
  | ((first
   | (refine (impl_Join_fn l [32] (by omega)).calls rfl ?_)
   | (refine ⟨sd, ?_⟩)
   | (refine ⟨by assumption, ?_⟩)) <;> (try simp only [go_sem, seval]))
  | assumption)
 all_goals (rw [hmx]; omega)
theorem refsG (m : Nat) (cs : List D) (q : Nat) (xs : List (List D)) : [.box (cs.map .d), .grow q 1 9 xs].all (O.refsLt m) = true := by
 show ((cs.map C.d).all (C.refsLt m) && (true && true)) = true
 rw [all_dmap]; rfl
theorem refsB (m : Nat) (cs : List D) (o : O) (ho : o.refsLt m = true) (q : Nat) (xs : List (List D)) : [.box (cs.map .d), o, .buf q 1 9 xs].all (O.refsLt m) = true := by
 show ((cs.map C.d).all (C.refsLt m) && (o.refsLt m && (true && true))) = true
 rw [all_dmap, ho]; rfl
theorem refsT (m : Nat) (q : Nat) (xs : List (List D)) : [tabO, .grow q 1 9 xs].all (O.refsLt m) = true := by
 show (tabO.refsLt m && (true && true)) = true
 rw [tabO_refs]; rfl
theorem l27Proof_fn (p : Pg) (hp : pgOk p = true) : ∀ t : Pf, p.prf t = true → t.cnt ≤ 200 → wtL t.enc ≤ 1048576 → Gives Tryz.prog 29 [.agg t.enc] (.d (.str t.txt)) := by
 intro t
 induction t using Pf.ind' with
 | h t ih =>
  intro h hc hw
  have hmx : maxLen = 9223372036854775807 := rfl
  obtain ⟨n1, n2, n3, n4, n5⟩ := Pg.prf_node hp h
  have htl := Pf.txt_len hp t h hw
  have hvl := vals_len n1 n2
  have hdl := dec_len (n := t.clause) (by omega) (by omega)
  rw [Pf.txt_eq] at htl ⊢
  refine ACalls.enter (fn := Tryz.f29) Tryz.func29 rfl (by show 1 ≤ _; decide) ?_
  refine run_sound Tryz.func29 mixed 200 _ _ (by kernel_rfl) ?_
  simp only [go_sem, seval]
  repeat' (first
   | ((first | (refine br_n (fun hq => ?_) (fun hq => ?_)) | (refine idx_intro (fun x hx => have hq := hx; ?_))) <;> (try simp only [go_sem, seval, hq]))
   | (simp (disch := omega) only [wrap_ok])
   | ((first
    | (refine ⟨sd, ?_⟩)
    | (refine ⟨by assumption, ?_⟩)) <;> (try simp only [go_sem, seval]))
   | assumption)
  refine AW.adopt 3 1 9 (by decide) rfl ?_
  refine AW.rng t.values [1, 11, 12] 13 11 (fun q : Nat × List (List UInt8) => [(3, .own 1 q.1)]) (fun H q => H.take 1 ++ [.grow q.1 1 9 (strD q.2)]) (fun r q => q.2 ++ r.map (fun t => t.V.txt) = t.vals) (0, []) rfl (by simp) (by simp [Pf.vals]) (by refine ⟨by simp [mkS, strD_nil], by simp [mkS, strD_nil], refsG _ _ _ _, ?_⟩; simp [mkS, Abs.get, C.refsLtT, C.refsLt, C.refsLt1]) (fun i x r q hxi hdr hlt hm hinv hnext => ?_) (fun q hinv => ?_)
  ·obtain ⟨q, acc⟩ := q
   dsimp only at hinv ⊢
   obtain ⟨v, rfl, hv⟩ := tmOk_of (List.all_eq_true.1 n2 x (List.mem_of_getElem? hxi))
   have hv2 : v.fine = true ∧ v.size ≤ 5000 := by simpa [V.ok] using hv
   have hV : v.tm.V = v := by simp [Tm.V, V.v?_tm v hv2.1]
   have hal := congrArg List.length hinv
   simp only [List.length_append, List.length_map, List.length_cons, Pf.vals] at hal
   refine run_sound Tryz.func29 mixed 200 _ _ (by kernel_rfl) ?_
   simp only [go_sem, seval, hlt, idx_of hxi, strD_len]
   repeat' (first
    | ((first | (refine br_n (fun hq => ?_) (fun hq => ?_)) | (refine idx_intro (fun x hx => have hq := hx; ?_))) <;> (try simp only [go_sem, seval, hlt, hq]))
    | (simp (disch := omega) only [wrap_ok])
    | ((first
     | (refine (l03Format_fn 5000 v hv2.2 (by decide) hv2.1).calls rfl ?_)
     | (refine ⟨sd, ?_⟩)
     | (refine ⟨by assumption, ?_⟩)) <;> (try simp only [go_sem, seval, hlt]))
    | assumption)
   refine ⟨by simp only [strD_len]; omega, by simp only [strD_len]; omega, hnext (q + 1, acc ++ [v.txt]) _ (by rw [← hinv, List.map_cons, hV]; simp) (by refine ⟨by simp [mkS], by simp [mkS, strD_append, strD_one], refsG _ _ _ _, ?_⟩; simp [mkS, Abs.get, C.refsLtT, C.refsLt, C.refsLt1])⟩
  obtain ⟨q, acc⟩ := q
  simp only [List.map_nil, List.append_nil] at hinv
  subst hinv
  refine run_sound Tryz.func29 mixed 6 _ _ (by kernel_rfl) ?_
  simp only [go_sem, seval, run.eq_1]
  repeat' (first
   | ((first | (refine br_n (fun hq => ?_) (fun hq => ?_)) | (refine idx_intro (fun x hx => have hq := hx; ?_))) <;> (try simp only [go_sem, seval, run.eq_1, hq]))
   | (simp (disch := omega) only [wrap_ok])
   | ((first
    | (refine ⟨sd, ?_⟩)
    | (refine ⟨by assumption, ?_⟩)) <;> (try simp only [go_sem, seval, run.eq_1]))
   | assumption)
  refine AW.readG 3 1 rfl rfl ?_
  refine AW.drawL mixed #[true, true, true, true, true, true, true, false, false] [(0, .box (t.enc.map .d))] [] [0, 1, 2, 3, 5, 4, 6] [7, 8] none (by kernel_rfl) trivial (by simp [holdsB]) ?_
  simp only [go_sem, seval]
  repeat' (first
   | ((first | (refine br_n (fun hq => ?_) (fun hq => ?_)) | (refine idx_intro (fun x hx => have hq := hx; ?_))) <;> (try simp only [go_sem, seval, hq]))
   | (simp (disch := omega) only [wrap_ok])
   | ((first
    | (refine (spec_FormatInt_fn t.clause (by omega) (by omega)).calls rfl ?_)
    | (refine (spec_group_fn t.vals (by omega)).calls rfl ?_)
    | (refine all_intro (fun Bz => ?_))
    | (refine ⟨sd, ?_⟩)
    | (refine ⟨by assumption, ?_⟩)) <;> (try simp only [go_sem, seval]))
   | assumption)
  refine AW.treeB 2 rfl (by simp [D.flat]) ?_
  refine run_sound Tryz.func29 mixed 200 _ _ (by kernel_rfl) ?_
  simp only [go_sem, seval]
  refine AW.rng t.kids [32, 33] 34 32 (fun q : Nat × List (List UInt8) => [(6, .own 2 q.1)]) (fun H q => H.take 2 ++ [.buf q.1 1 9 (strD q.2)]) (fun r q => q.2 ++ r.map Pf.txt = t.words) (0, [t.rel, dec t.clause, grp t.vals]) rfl (by simp) (by simp [Pf.words]) (by refine ⟨by simp [mkS], by simp [mkS, strD, Go.Abs.encS], refsB _ _ _ rfl _ _, ?_⟩; simp [mkS, Abs.get, C.refsLtT, C.refsLt, C.refsLt1]) (fun i x r q hxi hdr hlt hm hinv hnext => ?_) (fun q hinv => ?_)
  ·obtain ⟨q2, acc⟩ := q
   dsimp only at hinv ⊢
   have hx := List.mem_of_getElem? hxi
   have hxw := Pf.wt_kids hx
   have hxc := Pf.cnt_mem hx
   have hrec := ih x hx (n5 x hx) (by omega) (by omega)
   have hal := congrArg List.length hinv
   simp only [List.length_append, List.length_map, List.length_cons, Pf.words] at hal
   refine run_sound Tryz.func29 mixed 200 _ _ (by kernel_rfl) ?_
   simp only [go_sem, seval, hlt, idx_of hxi, strD_len]
   repeat' (first
    | ((first | (refine br_n (fun hq => ?_) (fun hq => ?_)) | (refine idx_intro (fun x hx => have hq := hx; ?_))) <;> (try simp only [go_sem, seval, hlt, hq]))
    | (simp (disch := omega) only [wrap_ok])
    | ((first
     | (refine hrec.calls rfl ?_)
     | (refine ⟨sd, ?_⟩)
     | (refine ⟨by assumption, ?_⟩)) <;> (try simp only [go_sem, seval, hlt]))
    | assumption)
   refine ⟨by simp only [strD_len]; omega, by simp only [strD_len]; omega, hnext (q2 + 1, acc ++ [x.txt]) _ (by rw [← hinv, List.map_cons]; simp) (by refine ⟨by simp [mkS], by simp [mkS, strD_append, strD_one], refsB _ _ _ rfl _ _, ?_⟩; simp [mkS, Abs.get, C.refsLtT, C.refsLt, C.refsLt1])⟩
  obtain ⟨q2, acc⟩ := q
  simp only [List.map_nil, List.append_nil] at hinv
  subst hinv
  refine run_sound Tryz.func29 mixed 6 _ _ (by kernel_rfl) ?_
  simp only [go_sem, seval, run.eq_1]
  repeat' (first
   | ((first | (refine br_n (fun hq => ?_) (fun hq => ?_)) | (refine idx_intro (fun x hx => have hq := hx; ?_))) <;> (try simp only [go_sem, seval, run.eq_1, hq]))
   | (simp (disch := omega) only [wrap_ok])
   | ((first
    | (refine ⟨sd, ?_⟩)
    | (refine ⟨by assumption, ?_⟩)) <;> (try simp only [go_sem, seval, run.eq_1]))
   | assumption)
  refine AW.freezeB 6 2 rfl rfl ?_
  refine run_sound Tryz.func29 mixed 200 _ _ (by kernel_rfl) ?_
  simp only [go_sem, seval]
  repeat' (first
   | ((first | (refine br_n (fun hq => ?_) (fun hq => ?_)) | (refine idx_intro (fun x hx => have hq := hx; ?_))) <;> (try simp only [go_sem, seval, hq]))
   | (simp (disch := omega) only [wrap_ok])
   | ((first
    | (refine (spec_group_fn t.words (by omega)).calls rfl ?_)
    | (refine ⟨sd, ?_⟩)
    | (refine ⟨by assumption, ?_⟩)) <;> (try simp only [go_sem, seval]))
   | assumption)
theorem listText_fn (l : List Tm) (hl : l.length ≤ 12) (ho : l.all tmOk = true) (hw : ∀ x, x ∈ l → wtL x.enc ≤ 1048576) (hb : (grp (l.map fun t => t.V.txt)).length ≤ 1600000) :
  ACalls Tryz.prog 63 [.d (.sl (l.map Tm.enc))] [tabO] (fun c H' => c = .d (.str (grp (l.map fun t => t.V.txt))) ∧ H' = [tabO]) := by
 have hmx : maxLen = 9223372036854775807 := rfl
 have hg : grp (l.map fun t => t.V.txt) = 40 :: (joinS [32] (l.map fun t => t.V.txt) ++ [41]) := rfl
 have hgl := congrArg List.length hg
 simp only [List.length_cons, List.length_append, List.length_nil] at hgl
 rw [hg]
 refine ACalls.enter (fn := Tryz.f63) Tryz.func63 rfl (by show 1 ≤ _; decide) ?_
 refine run_sound Tryz.func63 mixed 200 _ _ (by kernel_rfl) ?_
 simp only [go_sem, seval]
 repeat' (first
  | ((first | (refine br_n (fun hq => ?_) (fun hq => ?_)) | (refine idx_intro (fun x hx => have hq := hx; ?_))) <;> (try simp only [go_sem, seval, hq]))
  | (simp (disch := omega) only [wrap_ok])
  | ((first
   | (refine ⟨sd, ?_⟩)
   | (refine ⟨by assumption, ?_⟩)) <;> (try simp only [go_sem, seval]))
  | assumption)
 refine AW.adopt 3 1 9 (by decide) rfl ?_
 refine AW.rng l [7, 8] 9 7 (fun q : Nat × List (List UInt8) => [(3, .own 1 q.1)]) (fun H q => H.take 1 ++ [.grow q.1 1 9 (strD q.2)]) (fun r q => q.2 ++ r.map (fun t => t.V.txt) = l.map (fun t => t.V.txt)) (0, []) rfl (by simp) (by simp) (by refine ⟨by simp [mkS, strD_nil], by simp [mkS, strD_nil], refsT _ _ _, ?_⟩; simp [mkS, Abs.get, C.refsLtT, C.refsLt, C.refsLt1]) (fun i x r q hxi hdr hlt hm hinv hnext => ?_) (fun q hinv => ?_)
 ·obtain ⟨q, acc⟩ := q
  dsimp only at hinv ⊢
  have hxm := List.mem_of_getElem? hxi
  have hft := FormatTerm_fn x (hw x hxm)
  rw [if_pos (List.all_eq_true.1 ho x hxm)] at hft
  have hal := congrArg List.length hinv
  simp only [List.length_append, List.length_map, List.length_cons] at hal
  refine run_sound Tryz.func63 mixed 200 _ _ (by kernel_rfl) ?_
  simp only [go_sem, seval, hlt, idx_of hxi, strD_len]
  repeat' (first
   | ((first | (refine br_n (fun hq => ?_) (fun hq => ?_)) | (refine idx_intro (fun x hx => have hq := hx; ?_))) <;> (try simp only [go_sem, seval, hlt, hq]))
   | (simp (disch := omega) only [wrap_ok])
   | ((first
    | (refine hft.frame (X := [_, _]) rfl rfl ?_ <;> (rintro c H' ⟨rfl, rfl⟩ _))
    | (refine ⟨sd, ?_⟩)
    | (refine ⟨by assumption, ?_⟩)) <;> (try simp only [go_sem, seval, hlt]))
   | assumption)
  refine ⟨by simp only [strD_len]; omega, by simp only [strD_len]; omega, hnext (q + 1, acc ++ [x.V.txt]) _ (by rw [← hinv, List.map_cons]; simp) (by refine ⟨by simp [mkS], by simp [mkS, strD_append, strD_one], refsT _ _ _, ?_⟩; simp [mkS, Abs.get, C.refsLtT, C.refsLt, C.refsLt1])⟩
 obtain ⟨q, acc⟩ := q
 simp only [List.map_nil, List.append_nil] at hinv
 subst hinv
 refine run_sound Tryz.func63 mixed 6 _ _ (by kernel_rfl) ?_
 simp only [go_sem, seval, run.eq_1]
 repeat' (first
  | ((first | (refine br_n (fun hq => ?_) (fun hq => ?_)) | (refine idx_intro (fun x hx => have hq := hx; ?_))) <;> (try simp only [go_sem, seval, run.eq_1, hq]))
  | (simp (disch := omega) only [wrap_ok])
  | ((first
   | (refine ⟨sd, ?_⟩)
   | (refine ⟨by assumption, ?_⟩)) <;> (try simp only [go_sem, seval, run.eq_1]))
  | assumption)
 refine AW.readG 3 1 rfl rfl ?_
 refine run_sound Tryz.func63 mixed 200 _ _ (by kernel_rfl) ?_
 simp only [go_sem, seval]
 repeat' (first
  | ((first | (refine br_n (fun hq => ?_) (fun hq => ?_)) | (refine idx_intro (fun x hx => have hq := hx; ?_))) <;> (try simp only [go_sem, seval, hq]))
  | (simp (disch := omega) only [wrap_ok])
  | ((first
   | (refine (impl_Join_fn _ [32] (by omega)).calls rfl ?_)
   | (refine ⟨sd, ?_⟩)
   | (refine ⟨by assumption, ?_⟩)) <;> (try simp only [go_sem, seval]))
  | assumption)
 all_goals (rw [hmx]; omega)
theorem refsU (m : Nat) (cs : List D) (q : Nat) (xs : List (List D)) : [tabO, .box (cs.map .d), .buf q 1 9 xs].all (O.refsLt m) = true := by
 show (tabO.refsLt m && ((cs.map C.d).all (C.refsLt m) && (true && true))) = true
 rw [all_dmap, tabO_refs]; rfl
theorem proofText_fn (p : Pg) (hp : pgOk p = true) : ∀ t : Pf, p.prf t = true → t.cnt ≤ 200 → wtL t.enc ≤ 1048576 → ACalls Tryz.prog 33 [.d (.agg t.enc)] [tabO] (fun c H' => c = .d (.str t.txt) ∧ H' = [tabO]) := by
 intro t
 induction t using Pf.ind' with
 | h t ih =>
  intro h hc hw
  have hmx : maxLen = 9223372036854775807 := rfl
  obtain ⟨n1, n2, n3, n4, n5⟩ := Pg.prf_node hp h
  have htl := Pf.txt_len hp t h hw
  have hvl := vals_len n1 n2
  have hdl := dec_len (n := t.clause) (by omega) (by omega)
  have hlt := listText_fn t.values n1 n2 (fun x hx => by have := Pf.wt_values hx; omega) hvl
  rw [Pf.txt_eq] at htl ⊢
  refine ACalls.enter (fn := Tryz.f33) Tryz.func33 rfl (by show 1 ≤ _; decide) ?_
  refine run_sound Tryz.func33 mixed 3 _ _ (by kernel_rfl) ?_
  simp only [go_sem, seval, run.eq_1]
  repeat' (first
   | ((first | (refine br_n (fun hq => ?_) (fun hq => ?_)) | (refine idx_intro (fun x hx => have hq := hx; ?_))) <;> (try simp only [go_sem, seval, all_dmap, run.eq_1, hq]))
   | (simp (disch := omega) only [wrap_ok])
   | ((first
    | (refine ⟨sd, ?_⟩)
    | (refine ⟨by assumption, ?_⟩)) <;> (try simp only [go_sem, seval, all_dmap, run.eq_1]))
   | assumption)
  refine AW.drawL mixed #[true, true, true, true, true, true, true, true, false, false] [(1, .box (t.enc.map .d))] [] [0, 1, 2, 3, 5, 6, 4, 7] [8, 9] none (by kernel_rfl) trivial (by simp [holdsB]) ?_
  simp only [go_sem, seval]
  repeat' (first
   | ((first | (refine br_n (fun hq => ?_) (fun hq => ?_)) | (refine idx_intro (fun x hx => have hq := hx; ?_))) <;> (try simp only [go_sem, seval, hq]))
   | (simp (disch := omega) only [wrap_ok])
   | ((first
    | (refine (impl_FormatInt_fn t.clause (by omega) (by omega)).frame (X := [_]) rfl rfl ?_ <;> (rintro c H' ⟨rfl, rfl⟩ _))
    | (refine hlt.frame (X := [_]) rfl rfl ?_ <;> (rintro c H' ⟨rfl, rfl⟩ _))
    | (refine all_intro (fun Bz => ?_))
    | (refine ⟨sd, ?_⟩)
    | (refine ⟨by assumption, ?_⟩)) <;> (try simp only [go_sem, seval]))
   | assumption)
  refine AW.treeB 2 rfl (by simp [D.flat]) ?_
  refine run_sound Tryz.func33 mixed 200 _ _ (by kernel_rfl) ?_
  simp only [go_sem, seval]
  refine AW.rng t.kids [16, 17] 18 16 (fun q : Nat × List (List UInt8) => [(3, .own 2 q.1)]) (fun H q => H.take 2 ++ [.buf q.1 1 9 (strD q.2)]) (fun r q => q.2 ++ r.map Pf.txt = t.words) (0, [t.rel, dec t.clause, grp t.vals]) rfl (by simp) (by simp [Pf.words]) (by refine ⟨by simp [mkS], by simp [mkS, strD, Go.Abs.encS, Pf.vals], refsU _ _ _ _, ?_⟩; simp [mkS, Abs.get, C.refsLtT, C.refsLt, C.refsLt1]) (fun i x r q hxi hdr hxl hm hinv hnext => ?_) (fun q hinv => ?_)
  ·obtain ⟨q2, acc⟩ := q
   dsimp only at hinv ⊢
   have hx := List.mem_of_getElem? hxi
   have hxw := Pf.wt_kids hx
   have hxc := Pf.cnt_mem hx
   have hrec := ih x hx (n5 x hx) (by omega) (by omega)
   have hal := congrArg List.length hinv
   simp only [List.length_append, List.length_map, List.length_cons, Pf.words] at hal
   refine run_sound Tryz.func33 mixed 200 _ _ (by kernel_rfl) ?_
   simp only [go_sem, seval, hxl, idx_of hxi, strD_len]
   repeat' (first
    | ((first | (refine br_n (fun hq => ?_) (fun hq => ?_)) | (refine idx_intro (fun x hx => have hq := hx; ?_))) <;> (try simp only [go_sem, seval, hxl, hq]))
    | (simp (disch := omega) only [wrap_ok])
    | ((first
     | (refine hrec.frame (X := [_, _, _]) rfl rfl ?_ <;> (rintro c H' ⟨rfl, rfl⟩ _))
     | (refine ⟨sd, ?_⟩)
     | (refine ⟨by assumption, ?_⟩)) <;> (try simp only [go_sem, seval, hxl]))
    | assumption)
   refine ⟨by simp only [strD_len]; omega, by simp only [strD_len]; omega, hnext (q2 + 1, acc ++ [x.txt]) _ (by rw [← hinv, List.map_cons]; simp) (by refine ⟨by simp [mkS], by simp [mkS, strD_append, strD_one], refsU _ _ _ _, ?_⟩; simp [mkS, Abs.get, C.refsLtT, C.refsLt, C.refsLt1])⟩
  obtain ⟨q2, acc⟩ := q
  simp only [List.map_nil, List.append_nil] at hinv
  subst hinv
  refine run_sound Tryz.func33 mixed 6 _ _ (by kernel_rfl) ?_
  simp only [go_sem, seval, run.eq_1]
  repeat' (first
   | ((first | (refine br_n (fun hq => ?_) (fun hq => ?_)) | (refine idx_intro (fun x hx => have hq := hx; ?_))) <;> (try simp only [go_sem, seval, run.eq_1, hq]))
   | (simp (disch := omega) only [wrap_ok])
   | ((first
    | (refine ⟨sd, ?_⟩)
    | (refine ⟨by assumption, ?_⟩)) <;> (try simp only [go_sem, seval, run.eq_1]))
   | assumption)
  refine AW.freezeB 3 2 rfl rfl ?_
  refine run_sound Tryz.func33 mixed 200 _ _ (by kernel_rfl) ?_
  simp only [go_sem, seval]
  repeat' (first
   | ((first | (refine br_n (fun hq => ?_) (fun hq => ?_)) | (refine idx_intro (fun x hx => have hq := hx; ?_))) <;> (try simp only [go_sem, seval, hq]))
   | (simp (disch := omega) only [wrap_ok])
   | ((first
    | (refine (impl_group_fn t.words (by omega)).calls rfl ?_)
    | (refine ⟨sd, ?_⟩)
    | (refine ⟨by assumption, ?_⟩)) <;> (try simp only [go_sem, seval]))
   | assumption)
theorem spec_FormatProof_fn (p : Pg) (t : Pf) (hwp : wtL p.enc ≤ 1048576) (hw : wtL t.enc ≤ 1048576) : Gives Tryz.prog 11 [.agg p.enc, .agg t.enc] (.d (.str (if p.prfOk t = true then t.txt else []))) := by
 by_cases hg : p.prfOk t = true
 ·have hg' := hg
  unfold Pg.prfOk at hg'
  simp only [Bool.and_eq_true, decide_eq_true_eq] at hg'
  rw [if_pos hg]
  refine ACalls.enter (fn := Tryz.f11) Tryz.func11 rfl (by show 2 ≤ _; decide) ?_
  refine run_sound Tryz.func11 mixed 200 _ _ (by kernel_rfl) ?_
  simp only [go_sem, seval, hg]
  repeat' (first
   | ((first | (refine br_n (fun hq => ?_) (fun hq => ?_)) | (refine idx_intro (fun x hx => have hq := hx; ?_))) <;> (try simp only [go_sem, seval, hg, hq]))
   | (simp (disch := omega) only [wrap_ok])
   | ((first
    | (refine (l27Proof_fn p hg'.1 t hg'.2.2 hg'.2.1 hw).calls rfl ?_)
    | (refine (sProofOk_fn _ _ sd sd).calls rfl ?_)
    | (refine ⟨sd, ?_⟩)
    | (refine ⟨by assumption, ?_⟩)) <;> (try simp only [go_sem, seval, hg]))
   | assumption)
 ·rw [if_neg hg]
  simp only [Bool.not_eq_true] at hg
  refine ACalls.enter (fn := Tryz.f11) Tryz.func11 rfl (by show 2 ≤ _; decide) ?_
  refine run_sound Tryz.func11 mixed 200 _ _ (by kernel_rfl) ?_
  simp only [go_sem, seval, hg]
  repeat' (first
   | ((first | (refine br_n (fun hq => ?_) (fun hq => ?_)) | (refine idx_intro (fun x hx => have hq := hx; ?_))) <;> (try simp only [go_sem, seval, hg, hq]))
   | (simp (disch := omega) only [wrap_ok])
   | ((first
    | (refine (sProofOk_fn _ _ sd sd).calls rfl ?_)
    | (refine ⟨sd, ?_⟩)
    | (refine ⟨by assumption, ?_⟩)) <;> (try simp only [go_sem, seval, hg]))
   | assumption)
theorem impl_FormatProof_fn (p : Pg) (t : Pf) (hwp : wtL p.enc ≤ 1048576) (hw : wtL t.enc ≤ 1048576) : ACalls Tryz.prog 13 [.d (.agg p.enc), .d (.agg t.enc)] [tabO] (fun c H' => c = .d (.str (if p.prfOk t = true then t.txt else [])) ∧ H' = [tabO]) := by
 by_cases hg : p.prfOk t = true
 ·have hg' := hg
  unfold Pg.prfOk at hg'
  simp only [Bool.and_eq_true, decide_eq_true_eq] at hg'
  rw [if_pos hg]
  refine ACalls.enter (fn := Tryz.f13) Tryz.func13 rfl (by show 2 ≤ _; decide) ?_
  refine run_sound Tryz.func13 mixed 200 _ _ (by kernel_rfl) ?_
  simp only [go_sem, seval, hg]
  repeat' (first
   | ((first | (refine br_n (fun hq => ?_) (fun hq => ?_)) | (refine idx_intro (fun x hx => have hq := hx; ?_))) <;> (try simp only [go_sem, seval, hg, hq]))
   | (simp (disch := omega) only [wrap_ok])
   | ((first
    | (refine (proofText_fn p hg'.1 t hg'.2.2 hg'.2.1 hw).frame (X := [_, _]) rfl rfl ?_ <;> (rintro c H' ⟨rfl, rfl⟩ _))
    | (refine (iProofOk_fn _ _ sd sd).calls rfl ?_)
    | (refine ⟨sd, ?_⟩)
    | (refine ⟨by assumption, ?_⟩)) <;> (try simp only [go_sem, seval, hg]))
   | assumption)
 ·rw [if_neg hg]
  simp only [Bool.not_eq_true] at hg
  refine ACalls.enter (fn := Tryz.f13) Tryz.func13 rfl (by show 2 ≤ _; decide) ?_
  refine run_sound Tryz.func13 mixed 200 _ _ (by kernel_rfl) ?_
  simp only [go_sem, seval, hg]
  repeat' (first
   | ((first | (refine br_n (fun hq => ?_) (fun hq => ?_)) | (refine idx_intro (fun x hx => have hq := hx; ?_))) <;> (try simp only [go_sem, seval, hg, hq]))
   | (simp (disch := omega) only [wrap_ok])
   | ((first
    | (refine (iProofOk_fn _ _ sd sd).calls rfl ?_)
    | (refine ⟨sd, ?_⟩)
    | (refine ⟨by assumption, ?_⟩)) <;> (try simp only [go_sem, seval, hg]))
   | assumption)
end Go.Proofs.YtbncaodnnbldmaaGreatDoor
