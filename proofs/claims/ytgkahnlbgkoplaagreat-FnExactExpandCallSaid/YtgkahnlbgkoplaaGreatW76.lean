import Derived.Test.YtgkahnlbgkoplaaGreatW75
import Derived.Test.YtgkahnlbgkoplaaGreatW20
namespace Go.Proofs.YtgkahnlbgkoplaaGreat
open Go.Abs
set_option maxRecDepth 100000
set_option maxHeartbeats 4000000
set_option linter.unusedSimpArgs false
set_option linter.unusedVariables false
theorem l02VarX_fn (n : Int) : Gives Tryz.prog 44 [.int .i64 n] (.d (.agg (V.var n).enc)) := by
 have hE : (V.var n).enc = [.int .i64 1, .int .i64 n, .str [], .sl []] := by rw [V.enc_eq]; rfl
 rw [hE]
 refine ACalls.enter (fn := Tryz.f44) Tryz.func44 rfl (by show 1 ≤ _; decide) ?_
 refine run_sound Tryz.func44 mixed 200 _ _ (by kernel_rfl) ?_
 simp only [go_sem, seval]
 repeat' (first
  | ((first | (refine br_n (fun hq => ?_) (fun hq => ?_)) | (refine idx_intro (fun x hx => have hq := hx; ?_))) <;> (try simp only [go_sem, seval, hq]))
  | (simp (disch := omega) only [wrap_ok])
  | ((first
   | (refine ⟨sd, ?_⟩)
   | (refine ⟨by assumption, ?_⟩)) <;> (try simp only [go_sem, seval]))
  | assumption)
theorem l02PairX_fn (a b : V) : Gives Tryz.prog 80 [.agg a.enc, .agg b.enc] (.d (.agg (V.pair a b).enc)) := by
 rw [V.enc_pair]
 refine ACalls.enter (fn := Tryz.f80) Tryz.func80 rfl (by show 2 ≤ _; decide) ?_
 refine run_sound Tryz.func80 mixed 200 _ _ (by kernel_rfl) ?_
 simp only [go_sem, seval]
 repeat' (first
  | ((first | (refine br_n (fun hq => ?_) (fun hq => ?_)) | (refine idx_intro (fun x hx => have hq := hx; ?_))) <;> (try simp only [go_sem, seval, hq]))
  | (simp (disch := omega) only [wrap_ok])
  | ((first
   | (refine ⟨sd, ?_⟩)
   | (refine ⟨by assumption, ?_⟩)) <;> (try simp only [go_sem, seval]))
  | assumption)
theorem l07Shift_fn (n : Int) (h0 : 0 ≤ n ∧ n ≤ 1000000) : ∀ v : V, v.fine = true → Gives Tryz.prog 65 [.agg v.enc, .int .i64 n] (.d (.agg (v.sh n).enc)) := by
 intro v
 induction v with
 | pair x y ihx ihy =>
  intro hf
  simp only [V.fine, Bool.and_eq_true] at hf
  have hx := ihx hf.1
  have hy := ihy hf.2
  have hs : (V.pair x y).sh n = .pair (x.sh n) (y.sh n) := rfl
  rw [hs]
  refine ACalls.enter (fn := Tryz.f65) Tryz.func65 rfl (by show 2 ≤ _; decide) ?_
  refine run_sound Tryz.func65 mixed 12 _ _ (by kernel_rfl) ?_
  simp only [go_sem, seval, run.eq_1, V.kind, V.int, V.kids]
  repeat' (first
   | ((first | (refine br_n (fun hq => ?_) (fun hq => ?_)) | (refine idx_intro (fun x hx => have hq := hx; ?_))) <;> (try simp only [go_sem, seval, V.kind, V.int, V.kids, run.eq_1, hq]))
   | (simp (disch := omega) only [wrap_ok])
   | ((first
    | (refine (l02VarX_fn _).calls rfl ?_)
    | (refine (l02VarX_fn _).callQ rfl ?_)
    | (refine (l02PairX_fn _ _).calls rfl ?_)
    | (refine (l02PairX_fn _ _).callQ rfl ?_)
    | (refine ⟨sd, ?_⟩)
    | (refine ⟨by assumption, ?_⟩)) <;> (try simp only [go_sem, seval, V.kind, V.int, V.kids, run.eq_1]))
   | assumption)
  have hkk : (V.pair x y).kids = [x, y] := rfl
  refine AW.drawA mixed #[true, true, true, true, true, true, true, true, true, true, true, true, true, false] [(0, .box ((V.pair x y).enc.map .d))] [] [0, 1, 2, 3, 4, 6, 7, 8, 9, 10, 5, 11, 12] [13] none (by kernel_rfl) trivial (by simp [holdsB]) ?_
  simp only [go_sem, seval, hkk]
  repeat' (first
   | ((first | (refine br_n (fun hq => ?_) (fun hq => ?_)) | (refine idx_intro (fun x hx => have hq := hx; ?_))) <;> (try simp only [go_sem, seval, hkk, hq]))
   | (simp (disch := omega) only [wrap_ok])
   | ((first
    | (refine hx.calls rfl ?_)
    | (refine hy.calls rfl ?_)
    | (refine (l02VarX_fn _).calls rfl ?_)
    | (refine (l02VarX_fn _).callQ rfl ?_)
    | (refine (l02PairX_fn _ _).calls rfl ?_)
    | (refine (l02PairX_fn _ _).callQ rfl ?_)
    | (refine ⟨sd, ?_⟩)
    | (refine ⟨by assumption, ?_⟩)) <;> (try simp only [go_sem, seval, hkk]))
   | assumption)
  refine run_sound Tryz.func65 mixed 200 _ _ (by kernel_rfl) ?_
  simp only [go_sem, seval]
  repeat' (first
   | ((first | (refine br_n (fun hq => ?_) (fun hq => ?_)) | (refine idx_intro (fun x hx => have hq := hx; ?_))) <;> (try simp only [go_sem, seval, hq]))
   | (simp (disch := omega) only [wrap_ok])
   | ((first
    | (refine (l02VarX_fn _).calls rfl ?_)
    | (refine (l02VarX_fn _).callQ rfl ?_)
    | (refine (l02PairX_fn _ _).calls rfl ?_)
    | (refine (l02PairX_fn _ _).callQ rfl ?_)
    | (refine ⟨sd, ?_⟩)
    | (refine ⟨by assumption, ?_⟩)) <;> (try simp only [go_sem, seval]))
   | assumption)
 | var k =>
  intro hf
  simp only [V.fine, decide_eq_true_eq] at hf
  have hs : (V.var k).sh n = .var (k + n) := rfl
  rw [hs]
  have w3 : IntKind.i64.wrap (k + n) = k + n := by simp (disch := omega) only [wrap_ok]
  refine ACalls.enter (fn := Tryz.f65) Tryz.func65 rfl (by show 2 ≤ _; decide) ?_
  refine run_sound Tryz.func65 mixed 200 _ _ (by kernel_rfl) ?_
  simp only [go_sem, seval, V.kind, V.int, w3]
  repeat' (first
   | ((first | (refine br_n (fun hq => ?_) (fun hq => ?_)) | (refine idx_intro (fun x hx => have hq := hx; ?_))) <;> (try simp only [go_sem, seval, V.kind, V.int, w3, hq]))
   | (simp (disch := omega) only [wrap_ok])
   | ((first
    | (refine (l02VarX_fn _).calls rfl ?_)
    | (refine (l02VarX_fn _).callQ rfl ?_)
    | (refine (l02PairX_fn _ _).calls rfl ?_)
    | (refine (l02PairX_fn _ _).callQ rfl ?_)
    | (refine ⟨sd, ?_⟩)
    | (refine ⟨by assumption, ?_⟩)) <;> (try simp only [go_sem, seval, V.kind, V.int, w3]))
   | assumption)
 | _ =>
  intro _
  refine ACalls.enter (fn := Tryz.f65) Tryz.func65 rfl (by show 2 ≤ _; decide) ?_
  refine run_sound Tryz.func65 mixed 200 _ _ (by kernel_rfl) ?_
  simp only [go_sem, seval, V.kind, V.int]
  repeat' (first
   | ((first | (refine br_n (fun hq => ?_) (fun hq => ?_)) | (refine idx_intro (fun x hx => have hq := hx; ?_))) <;> (try simp only [go_sem, seval, V.kind, V.int, hq]))
   | (simp (disch := omega) only [wrap_ok])
   | ((first
    | (refine (l02VarX_fn _).calls rfl ?_)
    | (refine (l02VarX_fn _).callQ rfl ?_)
    | (refine (l02PairX_fn _ _).calls rfl ?_)
    | (refine (l02PairX_fn _ _).callQ rfl ?_)
    | (refine ⟨sd, ?_⟩)
    | (refine ⟨by assumption, ?_⟩)) <;> (try simp only [go_sem, seval, V.kind, V.int]))
   | assumption)
  all_goals first | rfl | skip
theorem l14Shift_fn (n : Int) (h0 : 0 ≤ n ∧ n ≤ 1000000) : ∀ g : Gl, g.shape = true → Gives Tryz.prog 45 [.agg g.enc, .int .i64 n] (.d (.agg (g.sh n).enc)) := by
 intro g
 induction g using Gl.ind' with
 | h g ih =>
  intro hg
  have hmx : maxLen = 9223372036854775807 := rfl
  have hln := Gl.shape_len hg
  have hts := Gl.shape_terms hg
  have hs' := hg
  rw [Gl.shape_eq] at hs'
  simp only [Bool.and_eq_true, List.all_eq_true] at hs'
  have higs := hs'.2
  have hR : (g.sh n).enc = [.int .i64 g.kind, .str g.name, .sl ((g.terms.map fun t => t.V.sh n).map V.enc), .sl ((g.goals.map (Gl.sh n)).map Gl.enc)] := by
   rw [Gl.sh_eq, Gl.enc_eq]
   simp only [Gl.kind, Gl.name, Gl.terms, Gl.goals, List.map_map]
   rfl
  rw [hR]
  refine ACalls.enter (fn := Tryz.f45) Tryz.func45 rfl (by show 2 ≤ _; decide) ?_
  refine run_sound Tryz.func45 mixed 5 _ _ (by kernel_rfl) ?_
  simp only [go_sem, seval, run.eq_1]
  repeat' (first
   | ((first | (refine br_n (fun hq => ?_) (fun hq => ?_)) | (refine idx_intro (fun x hx => have hq := hx; ?_))) <;> (try simp only [go_sem, seval, run.eq_1, hq]))
   | (simp (disch := omega) only [wrap_ok])
   | ((first
    | (refine ⟨sd, ?_⟩)
    | (refine ⟨by assumption, ?_⟩)) <;> (try simp only [go_sem, seval, run.eq_1]))
   | assumption)
  refine AW.adoptGB 2 2 4 59 (by decide) rfl rfl ?_
  refine AW.adoptGB 2 3 4 31 (by decide) rfl rfl ?_
  refine run_sound Tryz.func45 mixed 200 _ _ (by kernel_rfl) ?_
  simp only [go_sem, seval]
  repeat' (first
   | ((first | (refine br_n (fun hq => ?_) (fun hq => ?_)) | (refine idx_intro (fun x hx => have hq := hx; ?_))) <;> (try simp only [go_sem, seval, hq]))
   | (simp (disch := omega) only [wrap_ok])
   | ((first
    | (refine ⟨sd, ?_⟩)
    | (refine ⟨by assumption, ?_⟩)) <;> (try simp only [go_sem, seval]))
   | assumption)
  refine AW.rng g.terms [1, 2, 4, 5, 16, 17] 18 16 (fun p : List V => []) (fun _ p => [.box (g.enc.map .d), .box [.d (.int .i64 0), .d (.str []), .nil0, .nil0], .box [.d (.int .i64 g.kind), .d (.str g.name), .own 3 p.length, .own 4 0], .grow p.length 4 59 (p.map V.enc), .grow 0 4 31 []]) (fun r p => p ++ r.map (fun t => t.V.sh n) = g.terms.map fun t => t.V.sh n) [] rfl (by simp) rfl (by refine ⟨by simp [mkS], by simp [mkS], by simp only [mkS, List.all_cons, List.all_nil, O.refsLt, C.refsLt, C.refsLt1, all_dmap]; first | done | rfl | (simp; done), ?_⟩; simp [mkS, Abs.get, C.refsLtT, C.refsLt, C.refsLt1]) (fun i x r p hxi hdr hlt hm hinv hnext => ?_) (fun p hinv => ?_)
  ·have hxm := List.mem_of_getElem? hxi
   have hw := l07Shift_fn n h0 x.V (Tm.V_fine (hts x hxm))
   rw [← Tm.enc_V (hts x hxm)] at hw
   have hpl : p.length + (r.length + 1) = g.terms.length := by have := congrArg List.length hinv; simpa using this
   refine run_sound Tryz.func45 mixed 9 _ _ (by kernel_rfl) ?_
   simp only [go_sem, seval, run.eq_1, hlt, idx_of hxi]
   repeat' (first
    | ((first | (refine br_n (fun hq => ?_) (fun hq => ?_)) | (refine idx_intro (fun x hx => have hq := hx; ?_))) <;> (try simp only [go_sem, seval, hlt, idx_of hxi, run.eq_1, hq]))
    | (simp (disch := omega) only [wrap_ok])
    | ((first
     | (refine ⟨sd, ?_⟩)
     | (refine ⟨by assumption, ?_⟩)) <;> (try simp only [go_sem, seval, hlt, idx_of hxi, run.eq_1]))
    | assumption)
   refine AW.drawA mixed #[true, true, true, true, true, true, true, false, false] [(2, .box [.d (.int .i64 g.kind), .d (.str g.name), .own 3 p.length, .own 4 0]), (5, .box (x.enc.map .d))] [] [0, 1, 2, 3, 4, 5, 6] [7, 8] none (by kernel_rfl) trivial (by simp [holdsB]) ?_
   simp only [go_sem, seval]
   repeat' (first
    | ((first | (refine br_n (fun hq => ?_) (fun hq => ?_)) | (refine idx_intro (fun x hx => have hq := hx; ?_))) <;> (try simp only [go_sem, seval, hq]))
    | (simp (disch := omega) only [wrap_ok])
    | ((first
     | (refine hw.calls rfl ?_)
     | (refine ⟨sd, ?_⟩)
     | (refine ⟨by assumption, ?_⟩)) <;> (try simp only [go_sem, seval]))
    | assumption)
   refine run_sound Tryz.func45 mixed 200 _ _ (by kernel_rfl) ?_
   simp only [go_sem, seval]
   repeat' (first
    | ((first | (refine br_n (fun hq => ?_) (fun hq => ?_)) | (refine idx_intro (fun x hx => have hq := hx; ?_))) <;> (try simp only [go_sem, seval, hq]))
    | (simp (disch := omega) only [wrap_ok])
    | ((first
     | (refine ⟨sd, ?_⟩)
     | (refine ⟨by assumption, ?_⟩)) <;> (try simp only [go_sem, seval]))
    | assumption)
   refine hnext (p ++ [x.V.sh n]) _ (by rw [← hinv]; simp) (by refine ⟨by simp [mkS], by simp [mkS], by simp only [mkS, List.all_cons, List.all_nil, O.refsLt, C.refsLt, C.refsLt1, all_dmap]; first | done | rfl | (simp; done), ?_⟩; simp [mkS, Abs.get, C.refsLtT, C.refsLt, C.refsLt1])
  ·simp only [List.map_nil, List.append_nil] at hinv
   subst hinv
   generalize (g.terms.map fun t => t.V.sh n) = L
   refine run_sound Tryz.func45 mixed 200 _ _ (by kernel_rfl) ?_
   simp only [go_sem, seval]
   repeat' (first
    | ((first | (refine br_n (fun hq => ?_) (fun hq => ?_)) | (refine idx_intro (fun x hx => have hq := hx; ?_))) <;> (try simp only [go_sem, seval, hq]))
    | (simp (disch := omega) only [wrap_ok])
    | ((first
     | (refine ⟨sd, ?_⟩)
     | (refine ⟨by assumption, ?_⟩)) <;> (try simp only [go_sem, seval]))
    | assumption)
   refine AW.rng g.goals [1, 4, 5, 32, 33] 34 32 (fun p : List Gl => []) (fun _ p => [.box (g.enc.map .d), .box [.d (.int .i64 0), .d (.str []), .nil0, .nil0], .box [.d (.int .i64 g.kind), .d (.str g.name), .own 3 L.length, .own 4 p.length], .grow L.length 4 59 (L.map V.enc), .grow p.length 4 31 (p.map Gl.enc)]) (fun r p => p ++ r.map (Gl.sh n) = g.goals.map (Gl.sh n)) [] rfl (by simp) rfl (by refine ⟨by simp [mkS], by simp [mkS], by simp only [mkS, List.all_cons, List.all_nil, O.refsLt, C.refsLt, C.refsLt1, all_dmap]; first | done | rfl | (simp; done), ?_⟩; simp [mkS, Abs.get, C.refsLtT, C.refsLt, C.refsLt1]) (fun i x r p hxi hdr hlt hm hinv hnext => ?_) (fun p hinv => ?_)
   ·have hxm := List.mem_of_getElem? hxi
    have hw := ih x hxm (higs x hxm)
    have hpl : p.length + (r.length + 1) = g.goals.length := by have := congrArg List.length hinv; simpa using this
    refine run_sound Tryz.func45 mixed 9 _ _ (by kernel_rfl) ?_
    simp only [go_sem, seval, run.eq_1, hlt, idx_of hxi]
    repeat' (first
     | ((first | (refine br_n (fun hq => ?_) (fun hq => ?_)) | (refine idx_intro (fun x hx => have hq := hx; ?_))) <;> (try simp only [go_sem, seval, hlt, idx_of hxi, run.eq_1, hq]))
     | (simp (disch := omega) only [wrap_ok])
     | ((first
      | (refine ⟨sd, ?_⟩)
      | (refine ⟨by assumption, ?_⟩)) <;> (try simp only [go_sem, seval, hlt, idx_of hxi, run.eq_1]))
     | assumption)
    refine AW.drawA mixed #[true, true, true, true, true, true, true, false, false] [(2, .box [.d (.int .i64 g.kind), .d (.str g.name), .own 3 L.length, .own 4 p.length]), (5, .box (x.enc.map .d))] [] [0, 1, 2, 3, 4, 5, 6] [7, 8] none (by kernel_rfl) trivial (by simp [holdsB]) ?_
    simp only [go_sem, seval]
    repeat' (first
     | ((first | (refine br_n (fun hq => ?_) (fun hq => ?_)) | (refine idx_intro (fun x hx => have hq := hx; ?_))) <;> (try simp only [go_sem, seval, hq]))
     | (simp (disch := omega) only [wrap_ok])
     | ((first
      | (refine hw.calls rfl ?_)
      | (refine ⟨sd, ?_⟩)
      | (refine ⟨by assumption, ?_⟩)) <;> (try simp only [go_sem, seval]))
     | assumption)
    refine run_sound Tryz.func45 mixed 200 _ _ (by kernel_rfl) ?_
    simp only [go_sem, seval]
    repeat' (first
     | ((first | (refine br_n (fun hq => ?_) (fun hq => ?_)) | (refine idx_intro (fun x hx => have hq := hx; ?_))) <;> (try simp only [go_sem, seval, hq]))
     | (simp (disch := omega) only [wrap_ok])
     | ((first
      | (refine ⟨sd, ?_⟩)
      | (refine ⟨by assumption, ?_⟩)) <;> (try simp only [go_sem, seval]))
     | assumption)
    refine hnext (p ++ [x.sh n]) _ (by rw [← hinv]; simp) (by refine ⟨by simp [mkS], by simp [mkS], by simp only [mkS, List.all_cons, List.all_nil, O.refsLt, C.refsLt, C.refsLt1, all_dmap]; first | done | rfl | (simp; done), ?_⟩; simp [mkS, Abs.get, C.refsLtT, C.refsLt, C.refsLt1])
   ·simp only [List.map_nil, List.append_nil] at hinv
    subst hinv
    refine run_sound Tryz.func45 mixed 200 _ _ (by kernel_rfl) ?_
    simp only [go_sem, seval]
    repeat' (first
     | ((first | (refine br_n (fun hq => ?_) (fun hq => ?_)) | (refine idx_intro (fun x hx => have hq := hx; ?_))) <;> (try simp only [go_sem, seval, hq]))
     | (simp (disch := omega) only [wrap_ok])
     | ((first
      | (refine ⟨sd, ?_⟩)
      | (refine ⟨by assumption, ?_⟩)) <;> (try simp only [go_sem, seval]))
     | assumption)
theorem l13Make_fn (k : Int) (ts gs : List (List D)) : Gives Tryz.prog 43 [.int .i64 k, .sl ts, .sl gs] (.d (.agg [.int .i64 k, .str [], .sl ts, .sl gs])) := by
 refine ACalls.enter (fn := Tryz.f43) Tryz.func43 rfl (by show 3 ≤ _; decide) ?_
 refine run_sound Tryz.func43 mixed 200 _ _ (by kernel_rfl) ?_
 simp only [go_sem, seval]
 repeat' (first
  | ((first | (refine br_n (fun hq => ?_) (fun hq => ?_)) | (refine idx_intro (fun x hx => have hq := hx; ?_))) <;> (try simp only [go_sem, seval, hq]))
  | (simp (disch := omega) only [wrap_ok])
  | ((first
   | (refine ⟨sd, ?_⟩)
   | (refine ⟨by assumption, ?_⟩)) <;> (try simp only [go_sem, seval]))
  | assumption)
theorem l14Expand_fn (r : Rl) (args : List Tm) (next : Int) (hal : (args.length : Int) ≤ 4) (h0 : 0 ≤ next ∧ next ≤ 100000) (hs : r.body.shape = true) : Gives Tryz.prog 23 [.agg r.enc, .sl (args.map Tm.enc), .int .i64 next] (.d (.agg (Gl.mk 7 [] [] (xcEqs next 0 args ++ [r.body.sh next])).enc)) := by
 have hmx : maxLen = 9223372036854775807 := rfl
 have hR : (Gl.mk 7 [] [] (xcEqs next 0 args ++ [r.body.sh next])).enc = [.int .i64 7, .str [], .sl [], .sl ((xcEqs next 0 args).map Gl.enc ++ [(r.body.sh next).enc])] := by
  rw [Gl.enc_eq]
  simp [Gl.kind, Gl.name, Gl.terms, Gl.goals]
 rw [hR]
 refine ACalls.enter (fn := Tryz.f23) Tryz.func23 rfl (by show 3 ≤ _; decide) ?_
 refine run_sound Tryz.func23 mixed 8 _ _ (by kernel_rfl) ?_
 simp only [go_sem, seval, run.eq_1]
 repeat' (first
  | ((first | (refine br_n (fun hq => ?_) (fun hq => ?_)) | (refine idx_intro (fun x hx => have hq := hx; ?_))) <;> (try simp only [go_sem, seval, run.eq_1, hq]))
  | (simp (disch := omega) only [wrap_ok])
  | ((first
   | (refine (l02VarX_fn _).calls rfl ?_)
   | (refine (l02VarX_fn _).callQ rfl ?_)
   | (refine (l14Shift_fn _ (by assumption) _ (by assumption)).calls rfl ?_)
   | (refine (l14Shift_fn _ (by assumption) _ (by assumption)).callQ rfl ?_)
   | (refine ⟨sd, ?_⟩)
   | (refine ⟨by assumption, ?_⟩)) <;> (try simp only [go_sem, seval, run.eq_1]))
  | assumption)
 refine AW.adoptGB 2 3 4 31 (by decide) rfl rfl ?_
 refine run_sound Tryz.func23 mixed 1 _ _ (by kernel_rfl) ?_
 simp only [go_sem, seval, run.eq_1]
 refine AW.rng args [2, 3, 6, 7, 11, 12] 13 11 (fun p : List Tm => []) (fun _ p => [.box (r.enc.map .d), .box [.d (.int .i64 0), .d (.str []), .nil0, .nil0], .box [.d (.int .i64 7), .d (.str []), .nil0, .own 3 p.length], .grow p.length 4 31 ((xcEqs next 0 p).map Gl.enc)]) (fun q p => p ++ q = args) [] rfl (by simp) rfl (by refine ⟨by simp [mkS, xcEqs], by simp [mkS, xcEqs], by simp only [mkS, List.all_cons, List.all_nil, O.refsLt, C.refsLt, C.refsLt1, all_dmap]; first | done | rfl | (simp; done), ?_⟩; simp [mkS, Abs.get, C.refsLtT, C.refsLt, C.refsLt1]) (fun i x q p hxi hdr hlt hm hinv hnext => ?_) (fun p hinv => ?_)
 ·have hxm := List.mem_of_getElem? hxi
  have hpl : p.length + (q.length + 1) = args.length := by rw [← hinv]; simp
  have hdl := congrArg List.length hdr
  simp only [List.length_drop, List.length_cons] at hdl
  have hip : i = p.length := by omega
  have hv := l02VarX_fn (next + i)
  have hqe : (xcEq next i x).enc = [.int .i64 2, .str [], .sl [(V.var (next + i)).enc, x.enc], .sl []] := by
   unfold xcEq
   rw [Gl.enc_eq]
   simp only [Gl.kind, Gl.name, Gl.terms, Gl.goals, List.map_cons, List.map_nil]
   rfl
  have hap : xcEqs next 0 (p ++ [x]) = xcEqs next 0 p ++ [xcEq next i x] := by
   rw [xcEqs_app, hip]; simp [xcEqs]
  have hxl := xcEqs_len next p 0
  have hmk := l13Make_fn 2 [(V.var (next + i)).enc, x.enc] []
  have w3 : IntKind.i64.wrap (next + (i : Int)) = next + (i : Int) := by simp (disch := omega) only [wrap_ok]
  refine run_sound Tryz.func23 mixed 9 _ _ (by kernel_rfl) ?_
  simp only [go_sem, seval, run.eq_1, hlt, idx_of hxi]
  repeat' (first
   | ((first | (refine br_n (fun hq => ?_) (fun hq => ?_)) | (refine idx_intro (fun x hx => have hq := hx; ?_))) <;> (try simp only [go_sem, seval, hlt, idx_of hxi, run.eq_1, hq]))
   | (simp (disch := omega) only [wrap_ok])
   | ((first
    | (refine (l02VarX_fn _).calls rfl ?_)
    | (refine (l02VarX_fn _).callQ rfl ?_)
    | (refine (l14Shift_fn _ (by assumption) _ (by assumption)).calls rfl ?_)
    | (refine (l14Shift_fn _ (by assumption) _ (by assumption)).callQ rfl ?_)
    | (refine ⟨sd, ?_⟩)
    | (refine ⟨by assumption, ?_⟩)) <;> (try simp only [go_sem, seval, hlt, idx_of hxi, run.eq_1]))
   | assumption)
  refine AW.drawA mixed #[true, true, true, true, true, true, true, true, true, true, true, false, false] [(2, .box [.d (.int .i64 7), .d (.str []), .nil0, .own 3 p.length]), (4, .box (x.enc.map .d))] [] [0, 1, 2, 3, 4, 6, 5, 7, 8, 9, 10] [11, 12] none (by kernel_rfl) trivial (by simp [holdsB]) ?_
  simp only [go_sem, seval, w3]
  repeat' (first
   | ((first | (refine br_n (fun hq => ?_) (fun hq => ?_)) | (refine idx_intro (fun x hx => have hq := hx; ?_))) <;> (try simp only [go_sem, seval, w3, hxl, hq]))
   | (simp (disch := omega) only [wrap_ok])
   | ((first
    | (refine hv.calls rfl ?_)
    | (refine hmk.calls rfl ?_)
    | (refine ACalls.nilD rfl ?_; refine hmk.calls rfl ?_)
    | (refine (l02VarX_fn _).calls rfl ?_)
    | (refine (l02VarX_fn _).callQ rfl ?_)
    | (refine (l14Shift_fn _ (by assumption) _ (by assumption)).calls rfl ?_)
    | (refine (l14Shift_fn _ (by assumption) _ (by assumption)).callQ rfl ?_)
    | (refine ⟨sd, ?_⟩)
    | (refine ⟨by assumption, ?_⟩)) <;> (try simp only [go_sem, seval, w3, hxl]))
   | assumption)
  refine run_sound Tryz.func23 mixed 200 _ _ (by kernel_rfl) ?_
  simp only [go_sem, seval]
  try simp (disch := omega) only [wrap_ok]
  refine hnext (p ++ [x]) _ (by simp [← hinv]) (by refine ⟨by simp [mkS, hap, hqe], by simp [mkS, hap, hqe], by simp only [mkS, List.all_cons, List.all_nil, O.refsLt, C.refsLt, C.refsLt1, all_dmap]; first | done | rfl | (simp; done), ?_⟩; simp [mkS, Abs.get, C.refsLtT, C.refsLt, C.refsLt1])
 ·simp only [List.append_nil] at hinv
  subst hinv
  have hsh := l14Shift_fn next ⟨h0.1, by omega⟩ r.body hs
  have hxl := xcEqs_len next p 0
  refine run_sound Tryz.func23 mixed 6 _ _ (by kernel_rfl) ?_
  simp only [go_sem, seval, run.eq_1]
  repeat' (first
   | ((first | (refine br_n (fun hq => ?_) (fun hq => ?_)) | (refine idx_intro (fun x hx => have hq := hx; ?_))) <;> (try simp only [go_sem, seval, run.eq_1, hq]))
   | (simp (disch := omega) only [wrap_ok])
   | ((first
    | (refine (l02VarX_fn _).calls rfl ?_)
    | (refine (l02VarX_fn _).callQ rfl ?_)
    | (refine (l14Shift_fn _ (by assumption) _ (by assumption)).calls rfl ?_)
    | (refine (l14Shift_fn _ (by assumption) _ (by assumption)).callQ rfl ?_)
    | (refine ⟨sd, ?_⟩)
    | (refine ⟨by assumption, ?_⟩)) <;> (try simp only [go_sem, seval, run.eq_1]))
   | assumption)
  refine AW.drawA mixed #[true, true, true, true, true, true, true, true, false, false] [(0, .box (r.enc.map .d)), (2, .box [.d (.int .i64 7), .d (.str []), .nil0, .own 3 p.length])] [] [0, 1, 2, 3, 4, 5, 6, 7] [8, 9] none (by kernel_rfl) trivial (by simp [holdsB]) ?_
  simp only [go_sem, seval]
  repeat' (first
   | ((first | (refine br_n (fun hq => ?_) (fun hq => ?_)) | (refine idx_intro (fun x hx => have hq := hx; ?_))) <;> (try simp only [go_sem, seval, hxl, List.length_map, hq]))
   | (simp (disch := omega) only [wrap_ok])
   | ((first
    | (refine hsh.calls rfl ?_)
    | (refine (l02VarX_fn _).calls rfl ?_)
    | (refine (l02VarX_fn _).callQ rfl ?_)
    | (refine (l14Shift_fn _ (by assumption) _ (by assumption)).calls rfl ?_)
    | (refine (l14Shift_fn _ (by assumption) _ (by assumption)).callQ rfl ?_)
    | (refine ⟨sd, ?_⟩)
    | (refine ⟨by assumption, ?_⟩)) <;> (try simp only [go_sem, seval, hxl, List.length_map]))
   | assumption)
  refine run_sound Tryz.func23 mixed 200 _ _ (by kernel_rfl) ?_
  simp only [go_sem, seval]
theorem xcEqs_wt (next : Int) : ∀ (l : List Tm) (i : Nat), wtR ((xcEqs next i l).map Gl.enc) ≤ wtR (l.map Tm.enc) + 3 * l.length
 | [], i => by simp [xcEqs, wtR]
 | t :: r, i => by
  have h := xcEqs_wt next r (i + 1)
  have h2 : wtL (xcEq next i t).enc = 2 + wtL t.enc := by
   unfold xcEq
   rw [Gl.enc_eq]
   have hv : wtL (Tm.enc (V.var (next + i)).tm) = 0 := by simp [V.tm, Tm.enc_eq, wtL, D.wt, wtR, Tm.args, Tm.name]
   simp only [Gl.kind, Gl.name, Gl.terms, Gl.goals, List.map_cons, List.map_nil, wtL, D.wt, wtR, List.length_nil, hv]
   omega
  simp only [xcEqs, List.map_cons, wtR, List.length_cons, h2]
  omega
theorem sExpandCall_fn (p : Pg) (s : List UInt8) (args : List Tm) (next : Int) (hwa : wtL p.enc + wtR (args.map Tm.enc) ≤ 1048576) : Gives Tryz.prog 6 [.agg p.enc, .str s, .sl (args.map Tm.enc), .int .i64 next] (.tup [.d (.agg (Gl.mk (xcK (xcR p s args next)) [] [] (xcS args next (xcR p s args next))).enc), .d (.int .i64 (xcN next (xcR p s args next))), .d (.bool (xcR p s args next).isSome)]) := by
 have hmx : maxLen = 9223372036854775807 := rfl
 have hw : wtL p.enc ≤ 1048576 := by omega
 have hfr := sFindRel_fn p s hw
 have hto := l02AllOk_fn args (fun t ht => by
  have := wtL_lt (args.map Tm.enc) t.enc (List.mem_map.2 ⟨t, ht, rfl⟩)
  omega)
 have hin := l01In_fn next 0 100000
 have hZ : (Gl.mk 0 [] [] []).enc = [.int .i64 0, .str [], .sl [], .sl []] := by rw [Gl.enc_eq]; rfl
 by_cases hp : pgOk p = true
 ·rw [if_pos hp] at hfr
  by_cases hf : 0 ≤ p.find s
  ·obtain ⟨n, hn⟩ : ∃ n : Nat, p.find s = n := ⟨(p.find s).toNat, by omega⟩
   have hrg := p.find_range s
   rw [hn] at hfr hrg
   obtain ⟨r, hr⟩ : ∃ r, p.rels[n]? = some r := ⟨_, List.getElem?_eq_getElem (by omega)⟩
   have hrm := List.mem_of_getElem? hr
   obtain ⟨b1, b2, b3⟩ := pgOk_rel hp r hrm
   have n2 : ¬ (n : Int) < 0 := by omega
   have hre : (p.rels.map Rl.enc)[n]? = some r.enc := by rw [List.getElem?_map, hr]; rfl
   by_cases hta : args.all tmOk = true
   ·rw [hta] at hto
    have hR : xcR p s args next = if (0 ≤ next ∧ next ≤ 100000) ∧ r.arity = args.length ∧ next + r.arity + r.locals ≤ 100000 then some r else none := by
     unfold xcR
     rw [hp, hta, hn, Int.toNat_natCast, hr]
     by_cases h01 : 0 ≤ next ∧ next ≤ 100000
     ·simp [h01]
     ·simp [h01]
    by_cases har : (args.length : Int) = r.arity
    ·have hab : ((args.length : Int) != r.arity) = false := by simp [har]
     by_cases h01 : 0 ≤ next ∧ next ≤ 100000
     ·have hib : (decide (0 ≤ next) && decide (next ≤ 100000)) = true := by simp [h01]
      rw [hib] at hin
      have w1 : IntKind.i64.wrap (next + (args.length : Int)) = next + (args.length : Int) := by simp (disch := omega) only [wrap_ok]
      have w2 : IntKind.i64.wrap (next + (args.length : Int) + r.locals) = next + (args.length : Int) + r.locals := by simp (disch := omega) only [wrap_ok]
      by_cases hx : next + r.arity + r.locals ≤ 100000
      ·have n3 : ¬ 100000 < next + (args.length : Int) + r.locals := by omega
       rw [hR, if_pos ⟨h01, har.symm, hx⟩]
       simp only [xcK, xcN, xcS, Option.isSome_none, Option.isSome_some, List.map_nil, hZ]
       have hex := l14Expand_fn r args next (by omega) h01 b3
       have hbw := Pg.wt_rels hrm
       have hbw2 := Rl.wt_body r
       have hcw : wtL (Gl.mk 7 [] [] (xcEqs next 0 args ++ [r.body.sh next])).enc ≤ 2000000 := by
        have h1 := xcEqs_wt next args 0
        have h2 := Gl.sh_wt next r.body b3
        have h3 : ∀ a b : List (List D), wtR (a ++ b) = wtR a + wtR b := fun a b => by
         induction a with
         | nil => simp [wtR]
         | cons x a ih => simp only [List.cons_append, wtR, ih]; omega
        rw [Gl.enc_eq]
        simp only [Gl.kind, Gl.name, Gl.terms, Gl.goals, List.map_nil, List.map_append, List.map_cons, wtL, D.wt, wtR, List.length_nil, h3, h2]
        omega
       have hcp := l13Copy_fn _ hcw
       have e1 : next + r.arity + r.locals = next + (args.length : Int) + r.locals := by omega
       rw [e1]
       refine ACalls.enter (fn := Tryz.f6) Tryz.func6 rfl (by show 4 ≤ _; decide) ?_
       refine run_sound Tryz.func6 mixed 10 _ _ (by kernel_rfl) ?_
       simp only [go_sem, seval, run.eq_1, n2, hab, w1, w2, n3]
       repeat' (first
        | ((first | (refine br_n (fun hq => ?_) (fun hq => ?_)) | (refine idx_intro (fun x hx => have hq := hx; ?_))) <;> (try simp only [go_sem, seval, n2, hab, w1, w2, n3, idx_of hre, run.eq_1, hq]))
        | (simp (disch := omega) only [wrap_ok])
        | ((first
         | (refine hfr.calls rfl ?_)
         | (refine hto.calls rfl ?_)
         | (refine hin.calls rfl ?_)
         | (refine (sFindRel_fn _ _ sd).calls rfl ?_)
         | (refine (sFindRel_fn _ _ sd).callQ rfl ?_)
         | (refine (l02AllOk_fn _ sd).calls rfl ?_)
         | (refine (l02AllOk_fn _ sd).callQ rfl ?_)
         | (refine (l01In_fn _ _ _).calls rfl ?_)
         | (refine (l01In_fn _ _ _).callQ rfl ?_)
         | (refine (l13Copy_fn _ sd).calls rfl ?_)
         | (refine (l13Copy_fn _ sd).callQ rfl ?_)
         | (refine ⟨sd, ?_⟩)
         | (refine ⟨by assumption, ?_⟩)) <;> (try simp only [go_sem, seval, n2, hab, w1, w2, n3, idx_of hre, run.eq_1]))
        | assumption)
       all_goals first | omega | skip
       refine AW.drawA mixed #[true, true, true, true, true, true, true, true, true, true, true, true, true, true, true, true, true, true, true, true, true, true, true] [(0, .box (p.enc.map .d))] [] [0, 1, 2, 3, 4, 5, 6, 9, 10, 11, 12, 13, 14, 15, 16, 17, 18, 19, 7, 8, 20, 21, 22] [] none (by kernel_rfl) trivial (by simp [holdsB]) ?_
       simp only [go_sem, seval, w1, w2, idx_of hre]
       repeat' (first
        | ((first | (refine br_n (fun hq => ?_) (fun hq => ?_)) | (refine idx_intro (fun x hx => have hq := hx; ?_))) <;> (try simp only [go_sem, seval, w1, w2, idx_of hre, hq]))
        | (simp (disch := omega) only [wrap_ok])
        | ((first
         | (refine hex.calls rfl ?_)
         | (refine hcp.calls rfl ?_)
         | (refine (sFindRel_fn _ _ sd).calls rfl ?_)
         | (refine (sFindRel_fn _ _ sd).callQ rfl ?_)
         | (refine (l02AllOk_fn _ sd).calls rfl ?_)
         | (refine (l02AllOk_fn _ sd).callQ rfl ?_)
         | (refine (l01In_fn _ _ _).calls rfl ?_)
         | (refine (l01In_fn _ _ _).callQ rfl ?_)
         | (refine (l13Copy_fn _ sd).calls rfl ?_)
         | (refine (l13Copy_fn _ sd).callQ rfl ?_)
         | (refine ⟨sd, ?_⟩)
         | (refine ⟨by assumption, ?_⟩)) <;> (try simp only [go_sem, seval, w1, w2, idx_of hre]))
        | assumption)
       refine run_sound Tryz.func6 mixed 200 _ _ (by kernel_rfl) ?_
       simp only [go_sem, seval]
       repeat' (first
        | ((first | (refine br_n (fun hq => ?_) (fun hq => ?_)) | (refine idx_intro (fun x hx => have hq := hx; ?_))) <;> (try simp only [go_sem, seval, hq]))
        | (simp (disch := omega) only [wrap_ok])
        | ((first
         | (refine (sFindRel_fn _ _ sd).calls rfl ?_)
         | (refine (sFindRel_fn _ _ sd).callQ rfl ?_)
         | (refine (l02AllOk_fn _ sd).calls rfl ?_)
         | (refine (l02AllOk_fn _ sd).callQ rfl ?_)
         | (refine (l01In_fn _ _ _).calls rfl ?_)
         | (refine (l01In_fn _ _ _).callQ rfl ?_)
         | (refine (l13Copy_fn _ sd).calls rfl ?_)
         | (refine (l13Copy_fn _ sd).callQ rfl ?_)
         | (refine ⟨sd, ?_⟩)
         | (refine ⟨by assumption, ?_⟩)) <;> (try simp only [go_sem, seval]))
        | assumption)
       trace_state
      ·have n3 : 100000 < next + (args.length : Int) + r.locals := by omega
       rw [hR, if_neg (fun h => hx h.2.2)]
       simp only [xcK, xcN, xcS, Option.isSome_none, Option.isSome_some, List.map_nil, hZ]
       refine ACalls.enter (fn := Tryz.f6) Tryz.func6 rfl (by show 4 ≤ _; decide) ?_
       refine run_sound Tryz.func6 mixed 200 _ _ (by kernel_rfl) ?_
       simp only [go_sem, seval, n2, hab, w1, w2, n3]
       repeat' (first
        | ((first | (refine br_n (fun hq => ?_) (fun hq => ?_)) | (refine idx_intro (fun x hx => have hq := hx; ?_))) <;> (try simp only [go_sem, seval, n2, hab, w1, w2, n3, idx_of hre, hq]))
        | (simp (disch := omega) only [wrap_ok])
        | ((first
         | (refine hfr.calls rfl ?_)
         | (refine hto.calls rfl ?_)
         | (refine hin.calls rfl ?_)
         | (refine (sFindRel_fn _ _ sd).calls rfl ?_)
         | (refine (sFindRel_fn _ _ sd).callQ rfl ?_)
         | (refine (l02AllOk_fn _ sd).calls rfl ?_)
         | (refine (l02AllOk_fn _ sd).callQ rfl ?_)
         | (refine (l01In_fn _ _ _).calls rfl ?_)
         | (refine (l01In_fn _ _ _).callQ rfl ?_)
         | (refine (l13Copy_fn _ sd).calls rfl ?_)
         | (refine (l13Copy_fn _ sd).callQ rfl ?_)
         | (refine ⟨sd, ?_⟩)
         | (refine ⟨by assumption, ?_⟩)) <;> (try simp only [go_sem, seval, n2, hab, w1, w2, n3, idx_of hre]))
        | assumption)
       all_goals first | omega | skip
     ·have hib : (decide (0 ≤ next) && decide (next ≤ 100000)) = false := by
       rw [Bool.and_eq_false_iff]
       simp only [decide_eq_false_iff_not]
       omega
      rw [hib] at hin
      rw [hR, if_neg (fun h => h01 h.1)]
      simp only [xcK, xcN, xcS, Option.isSome_none, Option.isSome_some, List.map_nil, hZ]
      refine ACalls.enter (fn := Tryz.f6) Tryz.func6 rfl (by show 4 ≤ _; decide) ?_
      refine run_sound Tryz.func6 mixed 200 _ _ (by kernel_rfl) ?_
      simp only [go_sem, seval, n2, hab]
      repeat' (first
       | ((first | (refine br_n (fun hq => ?_) (fun hq => ?_)) | (refine idx_intro (fun x hx => have hq := hx; ?_))) <;> (try simp only [go_sem, seval, n2, hab, idx_of hre, hq]))
       | (simp (disch := omega) only [wrap_ok])
       | ((first
        | (refine hfr.calls rfl ?_)
        | (refine hto.calls rfl ?_)
        | (refine hin.calls rfl ?_)
        | (refine (sFindRel_fn _ _ sd).calls rfl ?_)
        | (refine (sFindRel_fn _ _ sd).callQ rfl ?_)
        | (refine (l02AllOk_fn _ sd).calls rfl ?_)
        | (refine (l02AllOk_fn _ sd).callQ rfl ?_)
        | (refine (l01In_fn _ _ _).calls rfl ?_)
        | (refine (l01In_fn _ _ _).callQ rfl ?_)
        | (refine (l13Copy_fn _ sd).calls rfl ?_)
        | (refine (l13Copy_fn _ sd).callQ rfl ?_)
        | (refine ⟨sd, ?_⟩)
        | (refine ⟨by assumption, ?_⟩)) <;> (try simp only [go_sem, seval, n2, hab, idx_of hre]))
       | assumption)
      all_goals first | omega | skip
    ·have hab : ((args.length : Int) != r.arity) = true := by simp [har]
     rw [hR, if_neg (fun h => har h.2.1.symm)]
     simp only [xcK, xcN, xcS, Option.isSome_none, Option.isSome_some, List.map_nil, hZ]
     refine ACalls.enter (fn := Tryz.f6) Tryz.func6 rfl (by show 4 ≤ _; decide) ?_
     refine run_sound Tryz.func6 mixed 200 _ _ (by kernel_rfl) ?_
     simp only [go_sem, seval, n2, hab]
     repeat' (first
      | ((first | (refine br_n (fun hq => ?_) (fun hq => ?_)) | (refine idx_intro (fun x hx => have hq := hx; ?_))) <;> (try simp only [go_sem, seval, n2, hab, idx_of hre, hq]))
      | (simp (disch := omega) only [wrap_ok])
      | ((first
       | (refine hfr.calls rfl ?_)
       | (refine hto.calls rfl ?_)
       | (refine (sFindRel_fn _ _ sd).calls rfl ?_)
       | (refine (sFindRel_fn _ _ sd).callQ rfl ?_)
       | (refine (l02AllOk_fn _ sd).calls rfl ?_)
       | (refine (l02AllOk_fn _ sd).callQ rfl ?_)
       | (refine (l01In_fn _ _ _).calls rfl ?_)
       | (refine (l01In_fn _ _ _).callQ rfl ?_)
       | (refine (l13Copy_fn _ sd).calls rfl ?_)
       | (refine (l13Copy_fn _ sd).callQ rfl ?_)
       | (refine ⟨sd, ?_⟩)
       | (refine ⟨by assumption, ?_⟩)) <;> (try simp only [go_sem, seval, n2, hab, idx_of hre]))
      | assumption)
     all_goals first | omega | skip
   ·have hR : xcR p s args next = none := by unfold xcR; simp only [hta, Bool.and_false, Bool.false_and, Bool.false_eq_true, if_false]
    simp only [Bool.not_eq_true] at hta
    rw [hta] at hto
    rw [hR]
    simp only [xcK, xcN, xcS, Option.isSome_none, Option.isSome_some, List.map_nil, hZ]
    refine ACalls.enter (fn := Tryz.f6) Tryz.func6 rfl (by show 4 ≤ _; decide) ?_
    refine run_sound Tryz.func6 mixed 200 _ _ (by kernel_rfl) ?_
    simp only [go_sem, seval, n2]
    repeat' (first
     | ((first | (refine br_n (fun hq => ?_) (fun hq => ?_)) | (refine idx_intro (fun x hx => have hq := hx; ?_))) <;> (try simp only [go_sem, seval, n2, hq]))
     | (simp (disch := omega) only [wrap_ok])
     | ((first
      | (refine hfr.calls rfl ?_)
      | (refine hto.calls rfl ?_)
      | (refine (sFindRel_fn _ _ sd).calls rfl ?_)
      | (refine (sFindRel_fn _ _ sd).callQ rfl ?_)
      | (refine (l02AllOk_fn _ sd).calls rfl ?_)
      | (refine (l02AllOk_fn _ sd).callQ rfl ?_)
      | (refine (l01In_fn _ _ _).calls rfl ?_)
      | (refine (l01In_fn _ _ _).callQ rfl ?_)
      | (refine (l13Copy_fn _ sd).calls rfl ?_)
      | (refine (l13Copy_fn _ sd).callQ rfl ?_)
      | (refine ⟨sd, ?_⟩)
      | (refine ⟨by assumption, ?_⟩)) <;> (try simp only [go_sem, seval, n2]))
     | assumption)
  ·have hR : xcR p s args next = none := by unfold xcR; simp [hf]
   have n2 : p.find s < 0 := by omega
   rw [hR]
   simp only [xcK, xcN, xcS, Option.isSome_none, Option.isSome_some, List.map_nil, hZ]
   refine ACalls.enter (fn := Tryz.f6) Tryz.func6 rfl (by show 4 ≤ _; decide) ?_
   refine run_sound Tryz.func6 mixed 200 _ _ (by kernel_rfl) ?_
   simp only [go_sem, seval, n2]
   repeat' (first
    | ((first | (refine br_n (fun hq => ?_) (fun hq => ?_)) | (refine idx_intro (fun x hx => have hq := hx; ?_))) <;> (try simp only [go_sem, seval, n2, hq]))
    | (simp (disch := omega) only [wrap_ok])
    | ((first
     | (refine hfr.calls rfl ?_)
     | (refine (sFindRel_fn _ _ sd).calls rfl ?_)
     | (refine (sFindRel_fn _ _ sd).callQ rfl ?_)
     | (refine (l02AllOk_fn _ sd).calls rfl ?_)
     | (refine (l02AllOk_fn _ sd).callQ rfl ?_)
     | (refine (l01In_fn _ _ _).calls rfl ?_)
     | (refine (l01In_fn _ _ _).callQ rfl ?_)
     | (refine (l13Copy_fn _ sd).calls rfl ?_)
     | (refine (l13Copy_fn _ sd).callQ rfl ?_)
     | (refine ⟨sd, ?_⟩)
     | (refine ⟨by assumption, ?_⟩)) <;> (try simp only [go_sem, seval, n2]))
    | assumption)
 ·have hR : xcR p s args next = none := by unfold xcR; simp [hp]
  simp only [Bool.not_eq_true] at hp
  rw [hp] at hfr
  rw [hR]
  simp only [xcK, xcN, xcS, Option.isSome_none, Option.isSome_some, List.map_nil, hZ]
  refine ACalls.enter (fn := Tryz.f6) Tryz.func6 rfl (by show 4 ≤ _; decide) ?_
  refine run_sound Tryz.func6 mixed 200 _ _ (by kernel_rfl) ?_
  simp only [go_sem, seval]
  repeat' (first
   | ((first | (refine br_n (fun hq => ?_) (fun hq => ?_)) | (refine idx_intro (fun x hx => have hq := hx; ?_))) <;> (try simp only [go_sem, seval, hq]))
   | (simp (disch := omega) only [wrap_ok])
   | ((first
    | (refine hfr.calls rfl ?_)
    | (refine (sFindRel_fn _ _ sd).calls rfl ?_)
    | (refine (sFindRel_fn _ _ sd).callQ rfl ?_)
    | (refine (l02AllOk_fn _ sd).calls rfl ?_)
    | (refine (l02AllOk_fn _ sd).callQ rfl ?_)
    | (refine (l01In_fn _ _ _).calls rfl ?_)
    | (refine (l01In_fn _ _ _).callQ rfl ?_)
    | (refine (l13Copy_fn _ sd).calls rfl ?_)
    | (refine (l13Copy_fn _ sd).callQ rfl ?_)
    | (refine ⟨sd, ?_⟩)
    | (refine ⟨by assumption, ?_⟩)) <;> (try simp only [go_sem, seval]))
   | assumption)
end Go.Proofs.YtgkahnlbgkoplaaGreat
