import Derived.Test.YtfniakcjekooiaaGreatW30
import Derived.Test.YtfniakcjekooiaaGreatW24
import Derived.Test.YtfniakcjekooiaaGreatFam
namespace Go.Proofs.YtfniakcjekooiaaGreat
open Go.Abs
set_option maxRecDepth 100000
set_option maxHeartbeats 4000000
set_option linter.unusedSimpArgs false
set_option linter.unusedVariables false
theorem eqTm_fn : ∀ t : Tm, wtL t.enc ≤ 9000000 → Gives Tryz.prog 83 [.agg t.enc, .agg t.enc] (.d (.bool true)) := by
 intro t
 induction t using Tm.ind' with
 | h t ih =>
  intro hw
  have hmx : maxLen = 9223372036854775807 := rfl
  have hl : t.args.length ≤ 9000000 := by
   have h1 : wtR (t.args.map Tm.enc) ≤ 9000000 := by simp only [Tm.enc_eq t, wtL, D.wt] at hw; omega
   have := sumW_le (t.args.map Tm.enc) 0; simp [sumW] at this; omega
  rw [Tm.enc_eq t]
  refine eq83 _ _ _ _ (eq72 _ (by rw [List.length_map]; omega) (fun x hx => ?_))
  obtain ⟨y, hy, rfl⟩ := List.mem_map.1 hx
  exact ⟨Tm.enc_len y, ih y hy (by have := wt_args hy; omega)⟩
theorem eqGl_fn : ∀ t : Gl, wtL t.enc ≤ 9000000 → Gives Tryz.prog 56 [.agg t.enc, .agg t.enc] (.d (.bool true)) := by
 intro t
 induction t using Gl.ind' with
 | h t ih =>
  intro hw
  have hmx : maxLen = 9223372036854775807 := rfl
  have hl1 : t.terms.length ≤ 9000000 := by
   have h1 : wtR (t.terms.map Tm.enc) ≤ 9000000 := by simp only [Gl.enc_eq t, wtL, D.wt] at hw; omega
   have := sumW_le (t.terms.map Tm.enc) 0; simp [sumW] at this; omega
  have hl2 : t.goals.length ≤ 9000000 := by
   have h1 : wtR (t.goals.map Gl.enc) ≤ 9000000 := by simp only [Gl.enc_eq t, wtL, D.wt] at hw; omega
   have := sumW_le (t.goals.map Gl.enc) 0; simp [sumW] at this; omega
  rw [Gl.enc_eq t]
  refine eq56 _ _ _ _ (eq72 _ (by rw [List.length_map]; omega) (fun x hx => ?_)) (eq73 _ (by rw [List.length_map]; omega) (fun x hx => ?_))
  ·obtain ⟨y, hy, rfl⟩ := List.mem_map.1 hx
   exact ⟨Tm.enc_len y, eqTm_fn y (by have := Gl.wt_terms hy; omega)⟩
  ·obtain ⟨y, hy, rfl⟩ := List.mem_map.1 hx
   exact ⟨Gl.enc_len y, ih y hy (by have := Gl.wt_goals hy; omega)⟩
theorem eqPg_fn (p : Pg) (hw : wtL p.enc ≤ 9000000) : Gives Tryz.prog 8 [.agg p.enc, .agg p.enc] (.d (.bool true)) := by
 have hmx : maxLen = 9223372036854775807 := rfl
 have hl : p.rels.length ≤ 9000000 := by
  have h1 : wtR (p.rels.map Rl.enc) ≤ 9000000 := by simpa only [Pg.enc_eq, wtL, D.wt, Nat.add_zero] using hw
  have := sumW_le (p.rels.map Rl.enc) 0; simp [sumW] at this; omega
 rw [Pg.enc_eq]
 refine eq8 _ (eq20 _ (by rw [List.length_map]; omega) (fun x hx => ?_))
 obtain ⟨y, hy, rfl⟩ := List.mem_map.1 hx
 have h1 := eqGl_fn y.body (by have := Pg.wt_rels hy; have := Rl.wt_body y; omega)
 rw [Gl.enc_eq] at h1
 rw [Rl.enc_eq]
 exact ⟨rfl, eq34 _ _ _ _ _ _ _ h1⟩
theorem Rl.mrks_at : ∀ (l : List Rl) (k : Int) (i : Nat) (x : Rl), l[i]? = some x → (Rl.mrks k l)[i]? = some (x.mrk (k + Rl.mcnts (l.take i)))
 | [], k, i, x, h => by simp at h
 | t :: r, k, 0, x, h => by simp at h; subst h; simp [Rl.mrks, Rl.mcnts]
 | t :: r, k, i + 1, x, h => by
  simp only [List.getElem?_cons_succ] at h
  simp only [Rl.mrks, List.getElem?_cons_succ, List.take_succ_cons, Rl.mcnts]
  rw [Rl.mrks_at r _ i x h]
  rw [show k + (t.mcnt : Int) + (Rl.mcnts (r.take i) : Int) = k + ((t.mcnt + Rl.mcnts (r.take i) : Nat) : Int) by omega]
theorem heldRelS_T (l : List Rl) (k : Int) (h0 : 0 ≤ k) (h1 : k + Rl.mcnts l ≤ 1000000000) : Gives Tryz.prog 22 [.sl ((Rl.mrks k l).map Rl.enc), .int .i64 k] (.d (.int .i64 (k + Rl.mcnts l))) := by
 have hml := Rl.mrks_len l k
 have hlm := Rl.len_mcnts l
 refine ACalls.enter (fn := Tryz.f22) Tryz.func22 rfl (by show 2 ≤ _; decide) ?_
 refine run_sound Tryz.func22 mixed 200 _ _ (by kernel_rfl) ?_
 simp only [go_sem, seval]
 refine AW.lp [0] (fun i : Nat => [(5, .d (.int .i64 i)), (1, .d (.int .i64 (k + Rl.mcnts (l.take i))))]) (fun H _ => H) (fun i => i ≤ l.length) (fun i => l.length - i) 0 (Nat.zero_le _) (by refine ⟨by simp [mkS], by simp [mkS], by simp [mkS, O.refsLt], ?_⟩; simp [mkS, Abs.get, C.refsLtT, C.refsLt, C.refsLt1, Rl.mcnts]) ?_
 intro i hi hnext
 by_cases h : i < l.length
 ·have hlt : (i : Int) < (l.length : Int) := by omega
  have hxi : l[i]? = some l[i] := List.getElem?_eq_getElem h
  have hat := Rl.mrks_at l k i _ hxi
  have hnxt : l.take (i + 1) = l.take i ++ [l[i]] := by rw [List.take_add_one, List.getElem?_eq_getElem h]; rfl
  have hcn : Rl.mcnts (l.take (i + 1)) = Rl.mcnts (l.take i) + l[i].mcnt := by rw [hnxt, Rl.mcnts_app]; simp [Rl.mcnts]
  have hcl : Rl.mcnts l = Rl.mcnts (l.take i) + (l[i].mcnt + Rl.mcnts (l.drop (i + 1))) := by
   conv => lhs; rw [← List.take_append_drop i l, List.drop_eq_getElem_cons h, Rl.mcnts_app]
   simp [Rl.mcnts]
  have hmc : l[i].mcnt = 5 + Tm.mcnts l[i].body.terms + Gl.mcnts l[i].body.goals := rfl
  have hnx := fun s' => hnext (i + 1) s' h (by omega)
  clear hnext
  simp only [hcn] at hnx
  generalize hx : l[i] = x at *
  generalize hk : k + (Rl.mcnts (l.take i) : Int) = kk at *
  generalize hy : x.mrk kk = y at *
  have e2 : kk + 1 + 1 = kk + 2 := by omega
  have e3 : kk + 1 + 1 + 1 = kk + 3 := by omega
  have e4 : kk + 1 + 1 + 1 + 1 = kk + 4 := by omega
  have e5 : kk + 1 + 1 + 1 + 1 + 1 = kk + 5 := by omega
  have ye : y.name = mText kk ∧ y.arity = kk + 1 ∧ y.locals = kk + 1 + 1 ∧ y.body.kind = kk + 1 + 1 + 1 ∧ y.body.name = mText (kk + 1 + 1 + 1 + 1) ∧ y.body.terms = Tm.mrks (kk + 1 + 1 + 1 + 1 + 1) x.body.terms ∧ y.body.goals = Gl.mrks (kk + 1 + 1 + 1 + 1 + 1 + Tm.mcnts x.body.terms) x.body.goals := by
   rw [← hy, e5, e4, e3, e2]; exact ⟨rfl, rfl, rfl, rfl, rfl, rfl, rfl⟩
  have hre1 := hTT_all x.body.terms (kk + 1 + 1 + 1 + 1 + 1) (by omega) (by omega)
  have hre2 := hGT_all x.body.goals (kk + 1 + 1 + 1 + 1 + 1 + Tm.mcnts x.body.terms) (by omega) (by omega)
  have w1 : IntKind.i64.wrap (kk + 1) = kk + 1 := wrap_ok (by omega) (by omega)
  have w2 : IntKind.i64.wrap (kk + 1 + 1) = kk + 1 + 1 := wrap_ok (by omega) (by omega)
  have w3 : IntKind.i64.wrap (kk + 1 + 1 + 1) = kk + 1 + 1 + 1 := wrap_ok (by omega) (by omega)
  have w4 : IntKind.i64.wrap (kk + 1 + 1 + 1 + 1) = kk + 1 + 1 + 1 + 1 := wrap_ok (by omega) (by omega)
  have w5 : IntKind.i64.wrap (kk + 1 + 1 + 1 + 1 + 1) = kk + 1 + 1 + 1 + 1 + 1 := wrap_ok (by omega) (by omega)
  refine run_sound Tryz.func22 mixed 200 _ _ (by kernel_rfl) ?_
  simp only [go_sem, seval, hlt, hml, idx_of hat, ye.1, ye.2.1, ye.2.2.1, ye.2.2.2.1, ye.2.2.2.2.1, ye.2.2.2.2.2.1, ye.2.2.2.2.2.2, w1, w2, w3, w4, w5]
  repeat' (first
   | ((first | (refine br_n (fun hq => ?_) (fun hq => ?_)) | (refine idx_intro (fun x hx => have hq := hx; ?_))) <;> (try simp only [go_sem, seval, hlt, hml, idx_of hat, ye.1, ye.2.1, ye.2.2.1, ye.2.2.2.1, ye.2.2.2.2.1, ye.2.2.2.2.2.1, ye.2.2.2.2.2.2, w1, w2, w3, w4, w5, hq]))
   | (simp (disch := omega) only [wrap_ok])
   | ((first
    | (refine hre1.calls rfl ?_)
    | (refine hre2.calls rfl ?_)
    | (refine (markText_fn _ sd sd).calls rfl ?_)
    | (refine (markText_fn _ sd sd).callQ rfl ?_)
    | (refine ⟨sd, ?_⟩)
    | (refine ⟨by assumption, ?_⟩)) <;> (try simp only [go_sem, seval, hlt, hml, idx_of hat, ye.1, ye.2.1, ye.2.2.1, ye.2.2.2.1, ye.2.2.2.2.1, ye.2.2.2.2.2.1, ye.2.2.2.2.2.2, w1, w2, w3, w4, w5]))
   | assumption)
  all_goals first | (exfalso; omega) | skip
  refine hnx _ ?_
  refine ⟨by simp [mkS], by simp [mkS], by simp [mkS, O.refsLt], ?_⟩; simp [mkS, Abs.get, C.refsLtT, C.refsLt, C.refsLt1]; omega
 ·obtain rfl : i = l.length := by omega
  refine run_sound Tryz.func22 mixed 200 _ _ (by kernel_rfl) ?_
  simp only [go_sem, seval, hml, List.take_length]
  repeat' (first
   | ((first | (refine br_n (fun hq => ?_) (fun hq => ?_)) | (refine idx_intro (fun x hx => have hq := hx; ?_))) <;> (try simp only [go_sem, seval, hml, List.take_length, hq]))
   | (simp (disch := omega) only [wrap_ok])
   | ((first
    | (refine (markText_fn _ sd sd).calls rfl ?_)
    | (refine (markText_fn _ sd sd).callQ rfl ?_)
    | (refine ⟨sd, ?_⟩)
    | (refine ⟨by assumption, ?_⟩)) <;> (try simp only [go_sem, seval, hml, List.take_length]))
   | assumption)
theorem heldProgram_fn (l : List Rl) (k : Int) (h0 : 0 ≤ k) (h1 : k + Rl.mcnts l ≤ 1000000000) : Gives Tryz.prog 10 [.agg [.sl ((Rl.mrks k l).map Rl.enc)], .int .i64 k] (.d (.int .i64 (k + Rl.mcnts l))) := by
 have e1 := heldRelS_T l k h0 h1
 refine ACalls.enter (fn := Tryz.f10) Tryz.func10 rfl (by show 2 ≤ _; decide) ?_
 refine run_sound Tryz.func10 mixed 200 _ _ (by kernel_rfl) ?_
 simp only [go_sem, seval]
 repeat' (first
  | ((first | (refine br_n (fun hq => ?_) (fun hq => ?_)) | (refine idx_intro (fun x hx => have hq := hx; ?_))) <;> (try simp only [go_sem, seval, hq]))
  | (simp (disch := omega) only [wrap_ok])
  | ((first
   | (refine e1.calls rfl ?_)
   | (refine ⟨sd, ?_⟩)
   | (refine ⟨by assumption, ?_⟩)) <;> (try simp only [go_sem, seval]))
  | assumption)
 all_goals first | (exfalso; omega) | rfl
theorem markProgram_T1 (l : List Rl) (k : Int) (q0 z0 e0 : Nat) (xs0 : List (List D)) (B0 : Nat → Prop) (q e : Nat) (B : Nat → Prop) (h0 : 0 ≤ k) (h1 : k + Rl.mcnts l ≤ 1000000000) :
  ACalls Tryz.prog 9 [.agg [.own 1 q], .d (.int .i64 k)] [.tree q0 z0 e0 xs0 B0 none, .tree q 7 e (l.map Rl.enc) B none] (fun c H' => c = .d (.int .i64 (k + Rl.mcnts l)) ∧ ∃ B', H' = [.tree q0 z0 e0 xs0 B0 none, .tree q 7 e ((Rl.mrks k l).map Rl.enc) B' none]) := by
 refine ACalls.enter (fn := Tryz.f9) Tryz.func9 rfl (by show 2 ≤ _; decide) ?_
 refine run_sound Tryz.func9 mixed 200 _ _ (by kernel_rfl) ?_
 simp only [go_sem, seval]
 repeat' (first
  | (exact ⟨_, rfl⟩)
  | ((first | (refine br_n (fun hq => ?_) (fun hq => ?_)) | (refine idx_intro (fun x hx => have hq := hx; ?_))) <;> (try simp only [go_sem, seval, C.at1, hq]))
  | (simp (disch := omega) only [wrap_ok])
  | ((first
   | (refine (markRelS_T l k q e B (by omega) (by omega)).at1 rfl 1 rfl rfl ?_ <;> (rintro c o' ⟨rfl, B4, ho⟩; cases ho; refine ⟨rfl, rfl, ?_⟩))
   | (refine ⟨sd, ?_⟩)
   | (refine ⟨by assumption, ?_⟩)) <;> (try simp only [go_sem, seval, C.at1]))
  | assumption)
end Go.Proofs.YtfniakcjekooiaaGreat
