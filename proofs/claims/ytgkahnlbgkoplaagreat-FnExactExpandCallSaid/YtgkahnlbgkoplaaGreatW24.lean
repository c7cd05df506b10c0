import Derived.Test.YtgkahnlbgkoplaaGreatW11
import Derived.Test.YtgkahnlbgkoplaaGreatA7
import Derived.Test.YtgkahnlbgkoplaaGreatP3
namespace Go.Proofs.YtgkahnlbgkoplaaGreat
open Go.Abs
set_option maxRecDepth 100000
set_option maxHeartbeats 4000000
set_option linter.unusedSimpArgs false
set_option linter.unusedVariables false
def hTT (l : List Tm) : Prop := ∀ k : Int, 0 ≤ k → k + Tm.mcnts l ≤ 1000000000 → Gives Tryz.prog 36 [.sl ((Tm.mrks k l).map Tm.enc), .int .i64 k] (.d (.int .i64 (k + Tm.mcnts l)))
theorem heldTermS_T (l : List Tm) (ih : ∀ x, x ∈ l → hTT x.args) : hTT l := by
 intro k h0 h1
 have hml := Tm.mrks_len l k
 have hlm := Tm.len_mcnts l
 refine ACalls.enter (fn := Tryz.f36) Tryz.func36 rfl (by show 2 ≤ _; decide) ?_
 refine run_sound Tryz.func36 mixed 200 _ _ (by kernel_rfl) ?_
 simp only [go_sem, seval]
 refine AW.lp [0] (fun i : Nat => [(5, .d (.int .i64 i)), (1, .d (.int .i64 (k + Tm.mcnts (l.take i))))]) (fun H _ => H) (fun i => i ≤ l.length) (fun i => l.length - i) 0 (Nat.zero_le _) (by refine ⟨by simp [mkS], by simp [mkS], by simp [mkS, O.refsLt], ?_⟩; simp [mkS, Abs.get, C.refsLtT, C.refsLt, C.refsLt1, Tm.mcnts]) ?_
 intro i hi hnext
 by_cases h : i < l.length
 ·have hlt : (i : Int) < (l.length : Int) := by omega
  have hxi : l[i]? = some l[i] := List.getElem?_eq_getElem h
  have hix := ih l[i] (List.getElem_mem _)
  have hat := Tm.mrks_at l k i _ hxi
  have hnxt : l.take (i + 1) = l.take i ++ [l[i]] := by rw [List.take_add_one, List.getElem?_eq_getElem h]; rfl
  have hcn : Tm.mcnts (l.take (i + 1)) = Tm.mcnts (l.take i) + l[i].mcnt := by rw [hnxt, Tm.mcnts_app]; simp [Tm.mcnts]
  have hcl : Tm.mcnts l = Tm.mcnts (l.take i) + (l[i].mcnt + Tm.mcnts (l.drop (i + 1))) := by
   conv => lhs; rw [← List.take_append_drop i l, List.drop_eq_getElem_cons h, Tm.mcnts_app]
   simp [Tm.mcnts]
  have hmc := Tm.mcnt_eq l[i]
  have hnx := fun s' => hnext (i + 1) s' h (by omega)
  clear hnext
  simp only [hcn] at hnx
  generalize hx : l[i] = x at *
  generalize hk : k + (Tm.mcnts (l.take i) : Int) = kk at *
  generalize hy : x.mrk kk = y at *
  have e2 : kk + 1 + 1 = kk + 2 := by omega
  have e3 : kk + 1 + 1 + 1 = kk + 3 := by omega
  have ye : y.kind = kk ∧ y.int = kk + 1 ∧ y.name = mText (kk + 1 + 1) ∧ y.args = Tm.mrks (kk + 1 + 1 + 1) x.args := by
   rw [← hy, Tm.mrk_eq, e3, e2]; exact ⟨rfl, rfl, rfl, rfl⟩
  have hrec := hix (kk + 1 + 1 + 1) (by omega) (by omega)
  have w1 : IntKind.i64.wrap (kk + 1) = kk + 1 := wrap_ok (by omega) (by omega)
  have w2 : IntKind.i64.wrap (kk + 1 + 1) = kk + 1 + 1 := wrap_ok (by omega) (by omega)
  have w3 : IntKind.i64.wrap (kk + 1 + 1 + 1) = kk + 1 + 1 + 1 := wrap_ok (by omega) (by omega)
  refine run_sound Tryz.func36 mixed 200 _ _ (by kernel_rfl) ?_
  simp only [go_sem, seval, hlt, hml, idx_of hat, ye.1, ye.2.1, ye.2.2.1, ye.2.2.2, w1, w2, w3]
  repeat' (first
   | ((first | (refine br_n (fun hq => ?_) (fun hq => ?_)) | (refine idx_intro (fun x hx => have hq := hx; ?_))) <;> (try simp only [go_sem, seval, hlt, hml, idx_of hat, ye.1, ye.2.1, ye.2.2.1, ye.2.2.2, w1, w2, w3, hq]))
   | (simp (disch := omega) only [wrap_ok])
   | ((first
    | (refine hrec.calls rfl ?_)
    | (refine (markText_fn _ sd sd).calls rfl ?_)
    | (refine (markText_fn _ sd sd).callQ rfl ?_)
    | (refine ⟨sd, ?_⟩)
    | (refine ⟨by assumption, ?_⟩)) <;> (try simp only [go_sem, seval, hlt, hml, idx_of hat, ye.1, ye.2.1, ye.2.2.1, ye.2.2.2, w1, w2, w3]))
   | assumption)
  all_goals first | (exfalso; omega) | skip
  refine hnx _ ?_
  refine ⟨by simp [mkS], by simp [mkS], by simp [mkS, O.refsLt], ?_⟩; simp [mkS, Abs.get, C.refsLtT, C.refsLt, C.refsLt1]; omega
 ·obtain rfl : i = l.length := by omega
  refine run_sound Tryz.func36 mixed 200 _ _ (by kernel_rfl) ?_
  simp only [go_sem, seval, hml, List.take_length]
  repeat' (first
   | ((first | (refine br_n (fun hq => ?_) (fun hq => ?_)) | (refine idx_intro (fun x hx => have hq := hx; ?_))) <;> (try simp only [go_sem, seval, hml, List.take_length, hq]))
   | (simp (disch := omega) only [wrap_ok])
   | ((first
    | (refine (markText_fn _ sd sd).calls rfl ?_)
    | (refine (markText_fn _ sd sd).callQ rfl ?_)
    | (refine ⟨sd, ?_⟩)
    | (refine ⟨by assumption, ?_⟩)) <;> (try simp only [go_sem, seval, hml, List.take_length]))
   | assumption)
theorem hTT_args : ∀ t : Tm, hTT t.args := by
 intro t
 induction t using Tm.ind' with
 | h t ih => exact heldTermS_T t.args ih
theorem hTT_all (l : List Tm) : hTT l := heldTermS_T l (fun x _ => hTT_args x)
def hGT (l : List Gl) : Prop := ∀ k : Int, 0 ≤ k → k + Gl.mcnts l ≤ 1000000000 → Gives Tryz.prog 37 [.sl ((Gl.mrks k l).map Gl.enc), .int .i64 k] (.d (.int .i64 (k + Gl.mcnts l)))
theorem heldGoalS_T (l : List Gl) (ih : ∀ x, x ∈ l → hGT x.goals) : hGT l := by
 intro k h0 h1
 have hml := Gl.mrks_len l k
 have hlm := Gl.len_mcnts l
 refine ACalls.enter (fn := Tryz.f37) Tryz.func37 rfl (by show 2 ≤ _; decide) ?_
 refine run_sound Tryz.func37 mixed 200 _ _ (by kernel_rfl) ?_
 simp only [go_sem, seval]
 refine AW.lp [0] (fun i : Nat => [(5, .d (.int .i64 i)), (1, .d (.int .i64 (k + Gl.mcnts (l.take i))))]) (fun H _ => H) (fun i => i ≤ l.length) (fun i => l.length - i) 0 (Nat.zero_le _) (by refine ⟨by simp [mkS], by simp [mkS], by simp [mkS, O.refsLt], ?_⟩; simp [mkS, Abs.get, C.refsLtT, C.refsLt, C.refsLt1, Gl.mcnts]) ?_
 intro i hi hnext
 by_cases h : i < l.length
 ·have hlt : (i : Int) < (l.length : Int) := by omega
  have hxi : l[i]? = some l[i] := List.getElem?_eq_getElem h
  have hix := ih l[i] (List.getElem_mem _)
  have hat := Gl.mrks_at l k i _ hxi
  have hnxt : l.take (i + 1) = l.take i ++ [l[i]] := by rw [List.take_add_one, List.getElem?_eq_getElem h]; rfl
  have hcn : Gl.mcnts (l.take (i + 1)) = Gl.mcnts (l.take i) + l[i].mcnt := by rw [hnxt, Gl.mcnts_app]; simp [Gl.mcnts]
  have hcl : Gl.mcnts l = Gl.mcnts (l.take i) + (l[i].mcnt + Gl.mcnts (l.drop (i + 1))) := by
   conv => lhs; rw [← List.take_append_drop i l, List.drop_eq_getElem_cons h, Gl.mcnts_app]
   simp [Gl.mcnts]
  have hmc := Gl.mcnt_eq l[i]
  have hnx := fun s' => hnext (i + 1) s' h (by omega)
  clear hnext
  simp only [hcn] at hnx
  generalize hx : l[i] = x at *
  generalize hk : k + (Gl.mcnts (l.take i) : Int) = kk at *
  generalize hy : x.mrk kk = y at *
  have e2 : kk + 1 + 1 = kk + 2 := by omega
  have ye : y.kind = kk ∧ y.name = mText (kk + 1) ∧ y.terms = Tm.mrks (kk + 1 + 1) x.terms ∧ y.goals = Gl.mrks (kk + 1 + 1 + Tm.mcnts x.terms) x.goals := by
   rw [← hy, Gl.mrk_eq, e2]; exact ⟨rfl, rfl, rfl, rfl⟩
  have hre1 := hTT_all x.terms (kk + 1 + 1) (by omega) (by omega)
  have hre2 := hix (kk + 1 + 1 + Tm.mcnts x.terms) (by omega) (by omega)
  have w1 : IntKind.i64.wrap (kk + 1) = kk + 1 := wrap_ok (by omega) (by omega)
  have w2 : IntKind.i64.wrap (kk + 1 + 1) = kk + 1 + 1 := wrap_ok (by omega) (by omega)
  refine run_sound Tryz.func37 mixed 200 _ _ (by kernel_rfl) ?_
  simp only [go_sem, seval, hlt, hml, idx_of hat, ye.1, ye.2.1, ye.2.2.1, ye.2.2.2, w1, w2]
  repeat' (first
   | ((first | (refine br_n (fun hq => ?_) (fun hq => ?_)) | (refine idx_intro (fun x hx => have hq := hx; ?_))) <;> (try simp only [go_sem, seval, hlt, hml, idx_of hat, ye.1, ye.2.1, ye.2.2.1, ye.2.2.2, w1, w2, hq]))
   | (simp (disch := omega) only [wrap_ok])
   | ((first
    | (refine hre1.calls rfl ?_)
    | (refine hre2.calls rfl ?_)
    | (refine (markText_fn _ sd sd).calls rfl ?_)
    | (refine (markText_fn _ sd sd).callQ rfl ?_)
    | (refine ⟨sd, ?_⟩)
    | (refine ⟨by assumption, ?_⟩)) <;> (try simp only [go_sem, seval, hlt, hml, idx_of hat, ye.1, ye.2.1, ye.2.2.1, ye.2.2.2, w1, w2]))
   | assumption)
  all_goals first | (exfalso; omega) | skip
  refine hnx _ ?_
  refine ⟨by simp [mkS], by simp [mkS], by simp [mkS, O.refsLt], ?_⟩; simp [mkS, Abs.get, C.refsLtT, C.refsLt, C.refsLt1]; omega
 ·obtain rfl : i = l.length := by omega
  refine run_sound Tryz.func37 mixed 200 _ _ (by kernel_rfl) ?_
  simp only [go_sem, seval, hml, List.take_length]
  repeat' (first
   | ((first | (refine br_n (fun hq => ?_) (fun hq => ?_)) | (refine idx_intro (fun x hx => have hq := hx; ?_))) <;> (try simp only [go_sem, seval, hml, List.take_length, hq]))
   | (simp (disch := omega) only [wrap_ok])
   | ((first
    | (refine (markText_fn _ sd sd).calls rfl ?_)
    | (refine (markText_fn _ sd sd).callQ rfl ?_)
    | (refine ⟨sd, ?_⟩)
    | (refine ⟨by assumption, ?_⟩)) <;> (try simp only [go_sem, seval, hml, List.take_length]))
   | assumption)
theorem hGT_goals : ∀ t : Gl, hGT t.goals := by
 intro t
 induction t using Gl.ind' with
 | h t ih => exact heldGoalS_T t.goals ih
theorem hGT_all (l : List Gl) : hGT l := heldGoalS_T l (fun x _ => hGT_goals x)
end Go.Proofs.YtgkahnlbgkoplaaGreat
