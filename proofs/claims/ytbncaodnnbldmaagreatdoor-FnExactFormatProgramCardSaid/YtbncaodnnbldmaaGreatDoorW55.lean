import Derived.Test.YtbncaodnnbldmaaGreatDoorW54
namespace Go.Proofs.YtbncaodnnbldmaaGreatDoor
open Go.Abs
set_option maxRecDepth 100000
set_option maxHeartbeats 4000000
set_option linter.unusedSimpArgs false
set_option linter.unusedVariables false
def headsL : List (List UInt8) := [[116, 114, 117, 101], [102, 97, 105, 108], [61], [47, 61], [115, 121, 109, 98, 111, 108], [110, 117, 109, 98, 101, 114], [97, 98, 115, 101, 110, 116], [97, 110, 100], [111, 114], [], [110, 111, 116]]
theorem heads_at {k : Int} (h0 : 0 ≤ k) (h1 : k ≤ 10) : (strD headsL)[k.toNat]? = some [.str (headT k)] := by
 obtain ⟨m, rfl⟩ : ∃ m : Nat, k = m := ⟨k.toNat, by omega⟩
 have hm : m < 11 := by omega
 have : ∀ j : Fin 11, headsL[j.val]? = some (headT (j.val : Int)) := by decide
 exact strD_at (this ⟨m, hm⟩)
theorem l15Heads_fn : Gives Tryz.prog 42 [] (.d (.sl (strD headsL))) := by
 refine ACalls.enter (fn := Tryz.f42) Tryz.func42 rfl (by show 0 ≤ _; decide) ?_
 refine run_sound Tryz.func42 mixed 200 _ _ (by kernel_rfl) ?_
 simp only [go_sem, seval]
 repeat' (first
  | ((first | (refine br_n (fun hq => ?_) (fun hq => ?_)) | (refine idx_intro (fun x hx => have hq := hx; ?_))) <;> (try simp only [go_sem, seval, hq]))
  | (simp (disch := omega) only [wrap_ok])
  | ((first
   | (refine ⟨sd, ?_⟩)
   | (refine ⟨by assumption, ?_⟩)) <;> (try simp only [go_sem, seval]))
  | assumption)
 all_goals rfl
theorem l15Format_fn : ∀ g : Gl, g.shape = true → g.cnt ≤ 80 → wtL g.enc ≤ 1048576 → Gives Tryz.prog 18 [.agg g.enc] (.d (.str g.txt)) := by
 intro g
 induction g using Gl.ind' with
 | h g ih =>
  intro hs hc hw
  have hmx : maxLen = 9223372036854775807 := rfl
  have hs' := hs
  rw [Gl.shape_eq] at hs'
  simp only [Bool.and_eq_true] at hs'
  obtain ⟨⟨h1, h2⟩, h3⟩ := hs'
  obtain ⟨f1, f2, f3, f4, f5, f6⟩ := Gl.form_sizes h1
  have hhl := headT_len g.kind
  have hha := heads_at f5 f6
  have hln : headsL.length = 11 := rfl
  have htl := Gl.txt_len g hs
  rw [Gl.txt_eq] at htl ⊢
  have hln : headsL.length = 11 := rfl
  by_cases hk : g.kind ≤ 1
  ·rw [if_pos hk] at htl ⊢
   refine ACalls.enter (fn := Tryz.f18) Tryz.func18 rfl (by show 1 ≤ _; decide) ?_
   refine run_sound Tryz.func18 mixed 200 _ _ (by kernel_rfl) ?_
   simp only [go_sem, seval, hk]
   repeat' (first
    | ((first | (refine br_n (fun hq => ?_) (fun hq => ?_)) | (refine idx_intro (fun x hx => have hq := hx; ?_))) <;> (try simp only [go_sem, seval, f5, idx_of hha, strD_len, hln, hk, hq]))
    | (simp (disch := omega) only [wrap_ok])
    | ((first
     | (refine l15Heads_fn.callQ rfl ?_)
     | (refine ⟨sd, ?_⟩)
     | (refine ⟨by assumption, ?_⟩)) <;> (try simp only [go_sem, seval, f5, idx_of hha, strD_len, hln, hk]))
    | assumption)
   all_goals (rw [hmx]; omega)
  rw [if_neg hk] at htl ⊢
  simp only [List.length_cons, List.length_append, List.length_nil] at htl
  have hjl : (joinS [32] g.words).length ≤ 1000000000 := by omega
  refine ACalls.enter (fn := Tryz.f18) Tryz.func18 rfl (by show 1 ≤ _; decide) ?_
  refine run_sound Tryz.func18 mixed 10 _ _ (by kernel_rfl) ?_
  simp only [go_sem, seval, run.eq_1, hk]
  repeat' (first
   | ((first | (refine br_n (fun hq => ?_) (fun hq => ?_)) | (refine idx_intro (fun x hx => have hq := hx; ?_))) <;> (try simp only [go_sem, seval, f5, idx_of hha, strD_len, hln, hk, run.eq_1, hq]))
   | (simp (disch := omega) only [wrap_ok])
   | ((first
    | (refine l15Heads_fn.callQ rfl ?_)
    | (refine ⟨sd, ?_⟩)
    | (refine ⟨by assumption, ?_⟩)) <;> (try simp only [go_sem, seval, f5, idx_of hha, strD_len, hln, hk, run.eq_1]))
   | assumption)
  refine AW.regL ?_
  simp only [go_sem, seval]
  repeat' (first
   | ((first | (refine br_n (fun hq => ?_) (fun hq => ?_)) | (refine idx_intro (fun x hx => have hq := hx; ?_))) <;> (try simp only [go_sem, seval, hq]))
   | (simp (disch := omega) only [wrap_ok])
   | ((first
    | (refine all_intro (fun Bz => ?_))
    | (refine ⟨sd, ?_⟩)
    | (refine ⟨by assumption, ?_⟩)) <;> (try simp only [go_sem, seval]))
   | assumption)
  refine AW.treeB 1 rfl (by simp [D.flat]) ?_
  refine run_sound Tryz.func18 mixed 200 _ _ (by kernel_rfl) ?_
  simp only [go_sem, seval]
  refine AW.rng g.terms [1, 24, 25] 26 24 (fun p : Nat × List (List UInt8) => [(4, .own 1 p.1)]) (fun _ p => [.box (g.enc.map .d), .buf p.1 1 9 (strD p.2)]) (fun r p => p.2 ++ r.map (fun t => t.V.txt) = (headT g.kind ++ g.name) :: g.terms.map (fun t => t.V.txt)) (0, [headT g.kind ++ g.name]) rfl (by simp) (by simp) (by refine ⟨by simp [mkS, strD_one], by simp [mkS, strD_one], by simp only [mkS, List.all_cons, List.all_nil, O.refsLt, C.refsLt, C.refsLt1, all_dmap]; first | done | rfl | (simp; done), ?_⟩; simp [mkS, Abs.get, C.refsLtT, C.refsLt, C.refsLt1]) (fun i x r p hxi hdr hlt hm hinv hnext => ?_) (fun p hinv => ?_)
  ·obtain ⟨q, acc⟩ := p
   dsimp only at hinv ⊢
   obtain ⟨v, rfl, hv⟩ := tmOk_of (List.all_eq_true.1 h2 x (List.mem_of_getElem? hxi))
   have hv2 : v.fine = true ∧ v.size ≤ 5000 := by simpa [V.ok] using hv
   have hV : v.tm.V = v := by simp [Tm.V, V.v?_tm v hv2.1]
   have hal := congrArg List.length hinv
   simp only [List.length_append, List.length_map, List.length_cons] at hal
   refine run_sound Tryz.func18 mixed 200 _ _ (by kernel_rfl) ?_
   simp only [go_sem, seval, hlt, idx_of hxi, strD_len]
   repeat' (first
    | ((first | (refine br_n (fun hq => ?_) (fun hq => ?_)) | (refine idx_intro (fun x hx => have hq := hx; ?_))) <;> (try simp only [go_sem, seval, hlt, hq]))
    | (simp (disch := omega) only [wrap_ok])
    | ((first
     | (refine (l03Format_fn 5000 v hv2.2 (by decide) hv2.1).calls rfl ?_)
     | (refine ⟨sd, ?_⟩)
     | (refine ⟨by assumption, ?_⟩)) <;> (try simp only [go_sem, seval, hlt]))
    | assumption)
   refine ⟨by simp only [strD_len]; omega, by simp only [strD_len]; omega, hnext (q + 1, acc ++ [v.txt]) _ (by rw [← hinv, List.map_cons, hV]; simp) (by refine ⟨by simp [mkS, strD_append, strD_one], by simp [mkS, strD_append, strD_one], by simp only [mkS, List.all_cons, List.all_nil, O.refsLt, C.refsLt, C.refsLt1, all_dmap]; first | done | rfl | (simp; done), ?_⟩; simp [mkS, Abs.get, C.refsLtT, C.refsLt, C.refsLt1])⟩
  obtain ⟨q, acc⟩ := p
  simp only [List.map_nil, List.append_nil] at hinv
  subst hinv
  refine run_sound Tryz.func18 mixed 200 _ _ (by kernel_rfl) ?_
  simp only [go_sem, seval]
  refine AW.rng g.goals [37, 38] 39 37 (fun p : Nat × List (List UInt8) => [(4, .own 1 p.1)]) (fun _ p => [.box (g.enc.map .d), .buf p.1 1 9 (strD p.2)]) (fun r p => p.2 ++ r.map Gl.txt = g.words) (q, (headT g.kind ++ g.name) :: g.terms.map (fun t => t.V.txt)) rfl (by simp) (by simp [Gl.words]) (by refine ⟨by simp [mkS], by simp [mkS], by simp only [mkS, List.all_cons, List.all_nil, O.refsLt, C.refsLt, C.refsLt1, all_dmap]; first | done | rfl | (simp; done), ?_⟩; simp [mkS, Abs.get, C.refsLtT, C.refsLt, C.refsLt1]) (fun i x r p hxi hdr hlt hm hinv hnext => ?_) (fun p hinv => ?_)
  ·obtain ⟨q2, acc⟩ := p
   dsimp only at hinv ⊢
   have hx := List.mem_of_getElem? hxi
   have hxs := List.all_eq_true.1 h3 x hx
   have hxw := Gl.wt_goals hx
   have hxc := Gl.cnt_mem hx
   have hrec := ih x hx hxs (by omega) (by omega)
   have hal := congrArg List.length hinv
   simp only [List.length_append, List.length_map, List.length_cons, Gl.words] at hal
   refine run_sound Tryz.func18 mixed 200 _ _ (by kernel_rfl) ?_
   simp only [go_sem, seval, hlt, idx_of hxi, strD_len]
   repeat' (first
    | ((first | (refine br_n (fun hq => ?_) (fun hq => ?_)) | (refine idx_intro (fun x hx => have hq := hx; ?_))) <;> (try simp only [go_sem, seval, hlt, hq]))
    | (simp (disch := omega) only [wrap_ok])
    | ((first
     | (refine hrec.calls rfl ?_)
     | (refine ⟨sd, ?_⟩)
     | (refine ⟨by assumption, ?_⟩)) <;> (try simp only [go_sem, seval, hlt]))
    | assumption)
   refine ⟨by simp only [strD_len]; omega, by simp only [strD_len]; omega, hnext (q2 + 1, acc ++ [x.txt]) _ (by rw [← hinv, List.map_cons]; simp) (by refine ⟨by simp [mkS, strD_append, strD_one], by simp [mkS, strD_append, strD_one], by simp only [mkS, List.all_cons, List.all_nil, O.refsLt, C.refsLt, C.refsLt1, all_dmap]; first | done | rfl | (simp; done), ?_⟩; simp [mkS, Abs.get, C.refsLtT, C.refsLt, C.refsLt1])⟩
  obtain ⟨q2, acc⟩ := p
  simp only [List.map_nil, List.append_nil] at hinv
  subst hinv
  refine run_sound Tryz.func18 mixed 6 _ _ (by kernel_rfl) ?_
  simp only [go_sem, seval, run.eq_1]
  repeat' (first
   | ((first | (refine br_n (fun hq => ?_) (fun hq => ?_)) | (refine idx_intro (fun x hx => have hq := hx; ?_))) <;> (try simp only [go_sem, seval, run.eq_1, hq]))
   | (simp (disch := omega) only [wrap_ok])
   | ((first
    | (refine ⟨sd, ?_⟩)
    | (refine ⟨by assumption, ?_⟩)) <;> (try simp only [go_sem, seval, run.eq_1]))
   | assumption)
  refine AW.freezeB 4 1 rfl rfl ?_
  refine run_sound Tryz.func18 mixed 200 _ _ (by kernel_rfl) ?_
  simp only [go_sem, seval]
  repeat' (first
   | ((first | (refine br_n (fun hq => ?_) (fun hq => ?_)) | (refine idx_intro (fun x hx => have hq := hx; ?_))) <;> (try simp only [go_sem, seval, hq]))
   | (simp (disch := omega) only [wrap_ok])
   | ((first
    | (refine (spec_Join_fn g.words [32] hjl).calls rfl ?_)
    | (refine ⟨sd, ?_⟩)
    | (refine ⟨by assumption, ?_⟩)) <;> (try simp only [go_sem, seval]))
   | assumption)
  all_goals (rw [hmx]; omega)
end Go.Proofs.YtbncaodnnbldmaaGreatDoor
