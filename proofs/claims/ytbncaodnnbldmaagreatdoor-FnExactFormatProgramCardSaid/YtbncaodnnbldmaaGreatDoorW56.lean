import Derived.Test.YtbncaodnnbldmaaGreatDoorW55
namespace Go.Proofs.YtbncaodnnbldmaaGreatDoor
open Go.Abs
set_option maxRecDepth 100000
set_option maxHeartbeats 4000000
set_option linter.unusedSimpArgs false
set_option linter.unusedVariables false
theorem heads_map {k : Int} {Hd : List UInt8} (h0 : 2 ≤ k) (h1 : k ≤ 10) (h9 : k ≠ 9) (hd : Hd = headT k) :
  (mget [(D.int .i64 2, D.str [61]), (.int .i64 3, .str [47, 61]), (.int .i64 4, .str [115, 121, 109, 98, 111, 108]), (.int .i64 5, .str [110, 117, 109, 98, 101, 114]), (.int .i64 6, .str [97, 98, 115, 101, 110, 116]), (.int .i64 7, .str [97, 110, 100]), (.int .i64 8, .str [111, 114]), (.int .i64 10, .str [110, 111, 116])] (.int .i64 k)).getD (.str []) = .str Hd := by
 have : k = 2 ∨ k = 3 ∨ k = 4 ∨ k = 5 ∨ k = 6 ∨ k = 7 ∨ k = 8 ∨ k = 10 := by omega
 subst hd
 rcases this with rfl | rfl | rfl | rfl | rfl | rfl | rfl | rfl <;> simp [mget, kEq, headT]
theorem refs4m (m : Nat) (cs : List D) (sk : Bool) (es : List (D × D)) (q z e : Nat) (xs : List (List D)) : [tabO, .box (cs.map .d), .map sk es, .buf q z e xs].all (O.refsLt m) = true := by
 show (tabO.refsLt m && ((cs.map C.d).all (C.refsLt m) && (true && (true && true)))) = true
 rw [all_dmap, tabO_refs]; rfl
theorem goalText_fn : ∀ g : Gl, g.shape = true → g.cnt ≤ 80 → wtL g.enc ≤ 1048576 → ACalls Tryz.prog 24 [.d (.agg g.enc)] [tabO] (fun c H' => c = .d (.str g.txt) ∧ H' = [tabO]) := by
 intro g
 induction g using Gl.ind' with
 | h g ih =>
  intro hs hc hw
  have hmx : maxLen = 9223372036854775807 := rfl
  have hs' := hs
  rw [Gl.shape_eq] at hs'
  simp only [Bool.and_eq_true] at hs'
  obtain ⟨⟨h1, h2⟩, h3⟩ := hs'
  obtain ⟨f1, f2, f3, f4, f5, f6⟩ := Gl.form_sizes h1
  have hhl := headT_len g.kind
  have htl := Gl.txt_len g hs
  rw [Gl.txt_eq] at htl ⊢
  by_cases hk : g.kind ≤ 1
  ·rw [if_pos hk, f1 (by omega)]
   by_cases hk0 : g.kind = 0
   ·refine ACalls.enter (fn := Tryz.f24) Tryz.func24 rfl (by show 1 ≤ _; decide) ?_
    refine run_sound Tryz.func24 mixed 200 _ _ (by kernel_rfl) ?_
    simp only [go_sem, seval, hk0]
    repeat' (first
     | ((first | (refine br_n (fun hq => ?_) (fun hq => ?_)) | (refine idx_intro (fun x hx => have hq := hx; ?_))) <;> (try simp only [go_sem, seval, all_dmap, hk0, hq]))
     | (simp (disch := omega) only [wrap_ok])
     | ((first
      | (refine ⟨sd, ?_⟩)
      | (refine ⟨by assumption, ?_⟩)) <;> (try simp only [go_sem, seval, all_dmap, hk0]))
     | assumption)
    all_goals rfl
   ·have hk1 : g.kind = 1 := by omega
    refine ACalls.enter (fn := Tryz.f24) Tryz.func24 rfl (by show 1 ≤ _; decide) ?_
    refine run_sound Tryz.func24 mixed 200 _ _ (by kernel_rfl) ?_
    simp only [go_sem, seval, hk1]
    repeat' (first
     | ((first | (refine br_n (fun hq => ?_) (fun hq => ?_)) | (refine idx_intro (fun x hx => have hq := hx; ?_))) <;> (try simp only [go_sem, seval, all_dmap, hk1, hq]))
     | (simp (disch := omega) only [wrap_ok])
     | ((first
      | (refine ⟨sd, ?_⟩)
      | (refine ⟨by assumption, ?_⟩)) <;> (try simp only [go_sem, seval, all_dmap, hk1]))
     | assumption)
    all_goals rfl
  rw [if_neg hk] at htl ⊢
  simp only [List.length_cons, List.length_append, List.length_nil] at htl
  have hjl : (joinS [32] g.words).length ≤ 1000000000 := by omega
  obtain ⟨Hd, hHd⟩ : ∃ Hd, Hd = headT g.kind ++ g.name := ⟨_, rfl⟩
  have hwd : g.words = Hd :: (g.terms.map (fun t => t.V.txt) ++ g.goals.map Gl.txt) := by rw [hHd]; rfl
  refine ACalls.enter (fn := Tryz.f24) Tryz.func24 rfl (by show 1 ≤ _; decide) ?_
  have hk0 : ¬ g.kind = 0 := by omega
  have hk1 : ¬ g.kind = 1 := by omega
  by_cases h9 : g.kind = 9
  ·have hnm : g.name = Hd := by rw [hHd, h9]; rfl
   refine run_sound Tryz.func24 mixed 20 _ _ (by kernel_rfl) ?_
   simp only [go_sem, seval, run.eq_1, h9, hnm]
   repeat' (first
    | ((first | (refine br_n (fun hq => ?_) (fun hq => ?_)) | (refine idx_intro (fun x hx => have hq := hx; ?_))) <;> (try simp only [go_sem, seval, h9, run.eq_1, hq]))
    | (simp (disch := omega) only [wrap_ok])
    | ((first
     | (refine ⟨sd, ?_⟩)
     | (refine ⟨by assumption, ?_⟩)) <;> (try simp only [go_sem, seval, h9, run.eq_1]))
    | assumption)
   refine AW.regL ?_
   simp only [go_sem, seval]
   repeat' (first
    | ((first | (refine br_n (fun hq => ?_) (fun hq => ?_)) | (refine idx_intro (fun x hx => have hq := hx; ?_))) <;> (try simp only [go_sem, seval, hq]))
    | (simp (disch := omega) only [wrap_ok])
    | ((first
     | (refine all_intro (fun Bz => ?_))
     | (refine ⟨sd, ?_⟩)
     | (refine ⟨by assumption, ?_⟩)) <;> (try simp only [go_sem, seval]))
    | assumption)
   refine AW.treeB 3 rfl (by simp [D.flat]) ?_
   refine run_sound Tryz.func24 mixed 200 _ _ (by kernel_rfl) ?_
   simp only [go_sem, seval]
   refine AW.rng g.terms [1, 27, 28] 29 27 (fun p : Nat × List (List UInt8) => [(4, .own 3 p.1)]) (fun H p => H.take 3 ++ [.buf p.1 1 9 (strD p.2)]) (fun r p => p.2 ++ r.map (fun t => t.V.txt) = Hd :: g.terms.map (fun t => t.V.txt)) (0, [Hd]) rfl (by simp) (by simp) (by refine ⟨by simp [mkS, strD_one], by simp [mkS, strD_one], refs4m _ _ _ _ _ _ _ _, ?_⟩; simp [mkS, Abs.get, C.refsLtT, C.refsLt, C.refsLt1]) (fun i x r p hxi hdr hlt hm hinv hnext => ?_) (fun p hinv => ?_)
   ·obtain ⟨q, acc⟩ := p
    dsimp only at hinv ⊢
    have hxm := List.mem_of_getElem? hxi
    have hok := List.all_eq_true.1 h2 x hxm
    have hxw := Gl.wt_terms hxm
    have hft := FormatTerm_fn x (by omega)
    rw [if_pos hok] at hft
    have hal := congrArg List.length hinv
    simp only [List.length_append, List.length_map, List.length_cons] at hal
    refine run_sound Tryz.func24 mixed 200 _ _ (by kernel_rfl) ?_
    simp only [go_sem, seval, hlt, idx_of hxi, strD_len]
    repeat' (first
     | ((first | (refine br_n (fun hq => ?_) (fun hq => ?_)) | (refine idx_intro (fun x hx => have hq := hx; ?_))) <;> (try simp only [go_sem, seval, hlt, hq]))
     | (simp (disch := omega) only [wrap_ok])
     | ((first
      | (refine hft.frame (X := [_, _, _, _]) rfl rfl ?_ <;> (rintro c H' ⟨rfl, rfl⟩ _))
      | (refine ⟨sd, ?_⟩)
      | (refine ⟨by assumption, ?_⟩)) <;> (try simp only [go_sem, seval, hlt]))
     | assumption)
    refine ⟨by simp only [strD_len]; omega, by simp only [strD_len]; omega, hnext (q + 1, acc ++ [x.V.txt]) _ (by rw [← hinv, List.map_cons]; simp) (by refine ⟨by simp [mkS], by simp [mkS, strD_append, strD_one], refs4m _ _ _ _ _ _ _ _, ?_⟩; simp [mkS, Abs.get, C.refsLtT, C.refsLt, C.refsLt1])⟩
   obtain ⟨q, acc⟩ := p
   simp only [List.map_nil, List.append_nil] at hinv
   subst hinv
   refine run_sound Tryz.func24 mixed 200 _ _ (by kernel_rfl) ?_
   simp only [go_sem, seval]
   refine AW.rng g.goals [40, 41] 42 40 (fun p : Nat × List (List UInt8) => [(4, .own 3 p.1)]) (fun H p => H.take 3 ++ [.buf p.1 1 9 (strD p.2)]) (fun r p => p.2 ++ r.map Gl.txt = g.words) (q, Hd :: g.terms.map (fun t => t.V.txt)) rfl (by simp) (by rw [hwd]; simp) (by refine ⟨by simp [mkS], by simp [mkS], refs4m _ _ _ _ _ _ _ _, ?_⟩; simp [mkS, Abs.get, C.refsLtT, C.refsLt, C.refsLt1]) (fun i x r p hxi hdr hlt hm hinv hnext => ?_) (fun p hinv => ?_)
   ·obtain ⟨q2, acc⟩ := p
    dsimp only at hinv ⊢
    have hx := List.mem_of_getElem? hxi
    have hxs := List.all_eq_true.1 h3 x hx
    have hxw := Gl.wt_goals hx
    have hxc := Gl.cnt_mem hx
    have hrec := ih x hx hxs (by omega) (by omega)
    have hal := congrArg List.length hinv
    rw [hwd] at hal
    simp only [List.length_append, List.length_map, List.length_cons] at hal
    refine run_sound Tryz.func24 mixed 200 _ _ (by kernel_rfl) ?_
    simp only [go_sem, seval, hlt, idx_of hxi, strD_len]
    repeat' (first
     | ((first | (refine br_n (fun hq => ?_) (fun hq => ?_)) | (refine idx_intro (fun x hx => have hq := hx; ?_))) <;> (try simp only [go_sem, seval, hlt, hq]))
     | (simp (disch := omega) only [wrap_ok])
     | ((first
      | (refine hrec.frame (X := [_, _, _, _]) rfl rfl ?_ <;> (rintro c H' ⟨rfl, rfl⟩ _))
      | (refine ⟨sd, ?_⟩)
      | (refine ⟨by assumption, ?_⟩)) <;> (try simp only [go_sem, seval, hlt]))
     | assumption)
    refine ⟨by simp only [strD_len]; omega, by simp only [strD_len]; omega, hnext (q2 + 1, acc ++ [x.txt]) _ (by rw [← hinv, List.map_cons]; simp) (by refine ⟨by simp [mkS], by simp [mkS, strD_append, strD_one], refs4m _ _ _ _ _ _ _ _, ?_⟩; simp [mkS, Abs.get, C.refsLtT, C.refsLt, C.refsLt1])⟩
   obtain ⟨q2, acc⟩ := p
   simp only [List.map_nil, List.append_nil] at hinv
   subst hinv
   refine run_sound Tryz.func24 mixed 6 _ _ (by kernel_rfl) ?_
   simp only [go_sem, seval, run.eq_1]
   repeat' (first
    | ((first | (refine br_n (fun hq => ?_) (fun hq => ?_)) | (refine idx_intro (fun x hx => have hq := hx; ?_))) <;> (try simp only [go_sem, seval, run.eq_1, hq]))
    | (simp (disch := omega) only [wrap_ok])
    | ((first
     | (refine ⟨sd, ?_⟩)
     | (refine ⟨by assumption, ?_⟩)) <;> (try simp only [go_sem, seval, run.eq_1]))
    | assumption)
   refine AW.freezeB 4 3 rfl rfl ?_
   refine run_sound Tryz.func24 mixed 200 _ _ (by kernel_rfl) ?_
   simp only [go_sem, seval]
   repeat' (first
    | ((first | (refine br_n (fun hq => ?_) (fun hq => ?_)) | (refine idx_intro (fun x hx => have hq := hx; ?_))) <;> (try simp only [go_sem, seval, hq]))
    | (simp (disch := omega) only [wrap_ok])
    | ((first
     | (refine (impl_Join_fn g.words [32] hjl).calls rfl ?_)
     | (refine ⟨sd, ?_⟩)
     | (refine ⟨by assumption, ?_⟩)) <;> (try simp only [go_sem, seval]))
    | assumption)
   all_goals (rw [hmx]; omega)
  ·have hmg := heads_map (k := g.kind) (Hd := Hd) (by omega) (by omega) h9 (by rw [hHd, f1 h9, List.append_nil])
   refine run_sound Tryz.func24 mixed 20 _ _ (by kernel_rfl) ?_
   simp only [go_sem, seval, run.eq_1, ↓hmg, hk0, hk1, h9]
   repeat' (first
    | ((first | (refine br_n (fun hq => ?_) (fun hq => ?_)) | (refine idx_intro (fun x hx => have hq := hx; ?_))) <;> (try simp only [go_sem, seval, ↓hmg, hk0, hk1, h9, run.eq_1, hq]))
    | (simp (disch := omega) only [wrap_ok])
    | ((first
     | (refine ⟨sd, ?_⟩)
     | (refine ⟨by assumption, ?_⟩)) <;> (try simp only [go_sem, seval, ↓hmg, hk0, hk1, h9, run.eq_1]))
    | assumption)
   refine AW.regL ?_
   simp only [go_sem, seval]
   repeat' (first
    | ((first | (refine br_n (fun hq => ?_) (fun hq => ?_)) | (refine idx_intro (fun x hx => have hq := hx; ?_))) <;> (try simp only [go_sem, seval, hq]))
    | (simp (disch := omega) only [wrap_ok])
    | ((first
     | (refine all_intro (fun Bz => ?_))
     | (refine ⟨sd, ?_⟩)
     | (refine ⟨by assumption, ?_⟩)) <;> (try simp only [go_sem, seval]))
    | assumption)
   refine AW.treeB 3 rfl (by simp [D.flat]) ?_
   refine run_sound Tryz.func24 mixed 200 _ _ (by kernel_rfl) ?_
   simp only [go_sem, seval]
   refine AW.rng g.terms [1, 27, 28] 29 27 (fun p : Nat × List (List UInt8) => [(4, .own 3 p.1)]) (fun H p => H.take 3 ++ [.buf p.1 1 9 (strD p.2)]) (fun r p => p.2 ++ r.map (fun t => t.V.txt) = Hd :: g.terms.map (fun t => t.V.txt)) (0, [Hd]) rfl (by simp) (by simp) (by refine ⟨by simp [mkS, strD_one], by simp [mkS, strD_one], refs4m _ _ _ _ _ _ _ _, ?_⟩; simp [mkS, Abs.get, C.refsLtT, C.refsLt, C.refsLt1]) (fun i x r p hxi hdr hlt hm hinv hnext => ?_) (fun p hinv => ?_)
   ·obtain ⟨q, acc⟩ := p
    dsimp only at hinv ⊢
    have hxm := List.mem_of_getElem? hxi
    have hok := List.all_eq_true.1 h2 x hxm
    have hxw := Gl.wt_terms hxm
    have hft := FormatTerm_fn x (by omega)
    rw [if_pos hok] at hft
    have hal := congrArg List.length hinv
    simp only [List.length_append, List.length_map, List.length_cons] at hal
    refine run_sound Tryz.func24 mixed 200 _ _ (by kernel_rfl) ?_
    simp only [go_sem, seval, hlt, idx_of hxi, strD_len]
    repeat' (first
     | ((first | (refine br_n (fun hq => ?_) (fun hq => ?_)) | (refine idx_intro (fun x hx => have hq := hx; ?_))) <;> (try simp only [go_sem, seval, hlt, hq]))
     | (simp (disch := omega) only [wrap_ok])
     | ((first
      | (refine hft.frame (X := [_, _, _, _]) rfl rfl ?_ <;> (rintro c H' ⟨rfl, rfl⟩ _))
      | (refine ⟨sd, ?_⟩)
      | (refine ⟨by assumption, ?_⟩)) <;> (try simp only [go_sem, seval, hlt]))
     | assumption)
    refine ⟨by simp only [strD_len]; omega, by simp only [strD_len]; omega, hnext (q + 1, acc ++ [x.V.txt]) _ (by rw [← hinv, List.map_cons]; simp) (by refine ⟨by simp [mkS], by simp [mkS, strD_append, strD_one], refs4m _ _ _ _ _ _ _ _, ?_⟩; simp [mkS, Abs.get, C.refsLtT, C.refsLt, C.refsLt1])⟩
   obtain ⟨q, acc⟩ := p
   simp only [List.map_nil, List.append_nil] at hinv
   subst hinv
   refine run_sound Tryz.func24 mixed 200 _ _ (by kernel_rfl) ?_
   simp only [go_sem, seval]
   refine AW.rng g.goals [40, 41] 42 40 (fun p : Nat × List (List UInt8) => [(4, .own 3 p.1)]) (fun H p => H.take 3 ++ [.buf p.1 1 9 (strD p.2)]) (fun r p => p.2 ++ r.map Gl.txt = g.words) (q, Hd :: g.terms.map (fun t => t.V.txt)) rfl (by simp) (by rw [hwd]; simp) (by refine ⟨by simp [mkS], by simp [mkS], refs4m _ _ _ _ _ _ _ _, ?_⟩; simp [mkS, Abs.get, C.refsLtT, C.refsLt, C.refsLt1]) (fun i x r p hxi hdr hlt hm hinv hnext => ?_) (fun p hinv => ?_)
   ·obtain ⟨q2, acc⟩ := p
    dsimp only at hinv ⊢
    have hx := List.mem_of_getElem? hxi
    have hxs := List.all_eq_true.1 h3 x hx
    have hxw := Gl.wt_goals hx
    have hxc := Gl.cnt_mem hx
    have hrec := ih x hx hxs (by omega) (by omega)
    have hal := congrArg List.length hinv
    rw [hwd] at hal
    simp only [List.length_append, List.length_map, List.length_cons] at hal
    refine run_sound Tryz.func24 mixed 200 _ _ (by kernel_rfl) ?_
    simp only [go_sem, seval, hlt, idx_of hxi, strD_len]
    repeat' (first
     | ((first | (refine br_n (fun hq => ?_) (fun hq => ?_)) | (refine idx_intro (fun x hx => have hq := hx; ?_))) <;> (try simp only [go_sem, seval, hlt, hq]))
     | (simp (disch := omega) only [wrap_ok])
     | ((first
      | (refine hrec.frame (X := [_, _, _, _]) rfl rfl ?_ <;> (rintro c H' ⟨rfl, rfl⟩ _))
      | (refine ⟨sd, ?_⟩)
      | (refine ⟨by assumption, ?_⟩)) <;> (try simp only [go_sem, seval, hlt]))
     | assumption)
    refine ⟨by simp only [strD_len]; omega, by simp only [strD_len]; omega, hnext (q2 + 1, acc ++ [x.txt]) _ (by rw [← hinv, List.map_cons]; simp) (by refine ⟨by simp [mkS], by simp [mkS, strD_append, strD_one], refs4m _ _ _ _ _ _ _ _, ?_⟩; simp [mkS, Abs.get, C.refsLtT, C.refsLt, C.refsLt1])⟩
   obtain ⟨q2, acc⟩ := p
   simp only [List.map_nil, List.append_nil] at hinv
   subst hinv
   refine run_sound Tryz.func24 mixed 6 _ _ (by kernel_rfl) ?_
   simp only [go_sem, seval, run.eq_1]
   repeat' (first
    | ((first | (refine br_n (fun hq => ?_) (fun hq => ?_)) | (refine idx_intro (fun x hx => have hq := hx; ?_))) <;> (try simp only [go_sem, seval, run.eq_1, hq]))
    | (simp (disch := omega) only [wrap_ok])
    | ((first
     | (refine ⟨sd, ?_⟩)
     | (refine ⟨by assumption, ?_⟩)) <;> (try simp only [go_sem, seval, run.eq_1]))
    | assumption)
   refine AW.freezeB 4 3 rfl rfl ?_
   refine run_sound Tryz.func24 mixed 200 _ _ (by kernel_rfl) ?_
   simp only [go_sem, seval]
   repeat' (first
    | ((first | (refine br_n (fun hq => ?_) (fun hq => ?_)) | (refine idx_intro (fun x hx => have hq := hx; ?_))) <;> (try simp only [go_sem, seval, hq]))
    | (simp (disch := omega) only [wrap_ok])
    | ((first
     | (refine (impl_Join_fn g.words [32] hjl).calls rfl ?_)
     | (refine ⟨sd, ?_⟩)
     | (refine ⟨by assumption, ?_⟩)) <;> (try simp only [go_sem, seval]))
    | assumption)
   all_goals (rw [hmx]; omega)
end Go.Proofs.YtbncaodnnbldmaaGreatDoor
