import Derived.Test.YtccphilpfmfagaaDoorFx
import Derived.Test.YtccphilpfmfagaaDoorA9
import Derived.Test.YtccphilpfmfagaaDoorP11
namespace Go.Proofs.YtccphilpfmfagaaDoor
open Go.Abs
set_option maxRecDepth 100000
set_option maxHeartbeats 4000000
set_option linter.unusedSimpArgs false
set_option linter.unusedVariables false
theorem same_fn : ∀ a b : V, Gives Tryd.prog 11 [.agg a.enc, .agg b.enc] (.d (.bool (decide (a = b)))) := by
 intro a
 induction a with
 | pair x y ihx ihy =>
  intro b
  cases b with
  | pair u v =>
   have hx := ihx u
   have hy := ihy v
   rw [show decide (V.pair x y = V.pair u v) = (decide (x = u) && decide (y = v)) from by simp]
   generalize decide (x = u) = p at hx ⊢
   generalize decide (y = v) = q at hy ⊢
   cases p <;> cases q
   all_goals
    refine ACalls.enter (fn := Tryd.f11) Tryd.func11 rfl (by show 2 ≤ _; decide) ?_
    refine run_sound Tryd.func11 mixed 200 _ _ (by kernel_rfl) ?_
    simp only [go_sem, seval, V.enc_pair]
    repeat' (first
     | ((first | (refine br_n (fun hq => ?_) (fun hq => ?_)) | (refine idx_intro (fun x hx => have hq := hx; ?_))) <;> (try simp only [go_sem, seval, V.enc_pair, hq]))
     | (simp (disch := omega) only [wrap_ok])
     | ((first
      | (refine hx.callQ rfl ?_)
      | (refine hy.callQ rfl ?_)
      | (refine AW.loop ?_ <;> (refine run_sound Tryd.func11 mixed 200 _ _ (by kernel_rfl) ?_))
      | (refine AW.round ?_ <;> (refine run_sound Tryd.func11 mixed 200 _ _ (by kernel_rfl) ?_))
      | (refine ⟨sd, ?_⟩)
      | (refine ⟨by assumption, ?_⟩)) <;> (try simp only [go_sem, seval, V.enc_pair]))
     | assumption)
  | _ =>
   rw [show decide _ = false from by simp]
   refine ACalls.enter (fn := Tryd.f11) Tryd.func11 rfl (by show 2 ≤ _; decide) ?_
   refine run_sound Tryd.func11 mixed 200 _ _ (by kernel_rfl) ?_
   simp only [go_sem, seval, V.enc_pair, V.enc_nil, V.enc_var, V.enc_sym, V.enc_num]
   repeat' (first
    | ((first | (refine br_n (fun hq => ?_) (fun hq => ?_)) | (refine idx_intro (fun x hx => have hq := hx; ?_))) <;> (try simp only [go_sem, seval, V.enc_pair, V.enc_nil, V.enc_var, V.enc_sym, V.enc_num, hq]))
    | (simp (disch := omega) only [wrap_ok])
    | ((first
     | (refine ⟨sd, ?_⟩)
     | (refine ⟨by assumption, ?_⟩)) <;> (try simp only [go_sem, seval, V.enc_pair, V.enc_nil, V.enc_var, V.enc_sym, V.enc_num]))
    | assumption)
 | nil =>
  intro b
  cases b with
  | nil =>
   rw [show decide _ = true from by simp]
   refine ACalls.enter (fn := Tryd.f11) Tryd.func11 rfl (by show 2 ≤ _; decide) ?_
   refine run_sound Tryd.func11 mixed 200 _ _ (by kernel_rfl) ?_
   simp only [go_sem, seval, V.enc_nil]
   repeat' (first
    | ((first | (refine br_n (fun hq => ?_) (fun hq => ?_)) | (refine idx_intro (fun x hx => have hq := hx; ?_))) <;> (try simp only [go_sem, seval, V.enc_nil, hq]))
    | (simp (disch := omega) only [wrap_ok])
    | ((first
     | (refine AW.loop ?_ <;> (refine run_sound Tryd.func11 mixed 200 _ _ (by kernel_rfl) ?_))
     | (refine ⟨sd, ?_⟩)
     | (refine ⟨by assumption, ?_⟩)) <;> (try simp only [go_sem, seval, V.enc_nil]))
    | assumption)
  | _ =>
   rw [show decide _ = false from by simp]
   refine ACalls.enter (fn := Tryd.f11) Tryd.func11 rfl (by show 2 ≤ _; decide) ?_
   refine run_sound Tryd.func11 mixed 200 _ _ (by kernel_rfl) ?_
   simp only [go_sem, seval, V.enc_pair, V.enc_nil, V.enc_var, V.enc_sym, V.enc_num]
   repeat' (first
    | ((first | (refine br_n (fun hq => ?_) (fun hq => ?_)) | (refine idx_intro (fun x hx => have hq := hx; ?_))) <;> (try simp only [go_sem, seval, V.enc_pair, V.enc_nil, V.enc_var, V.enc_sym, V.enc_num, hq]))
    | (simp (disch := omega) only [wrap_ok])
    | ((first
     | (refine ⟨sd, ?_⟩)
     | (refine ⟨by assumption, ?_⟩)) <;> (try simp only [go_sem, seval, V.enc_pair, V.enc_nil, V.enc_var, V.enc_sym, V.enc_num]))
    | assumption)
 | var n =>
  intro b
  cases b with
  | var m =>
   by_cases e : n = m
   ·subst e
    rw [show decide _ = true from by simp]
    refine ACalls.enter (fn := Tryd.f11) Tryd.func11 rfl (by show 2 ≤ _; decide) ?_
    refine run_sound Tryd.func11 mixed 200 _ _ (by kernel_rfl) ?_
    simp only [go_sem, seval, V.enc_var]
    repeat' (first
     | ((first | (refine br_n (fun hq => ?_) (fun hq => ?_)) | (refine idx_intro (fun x hx => have hq := hx; ?_))) <;> (try simp only [go_sem, seval, V.enc_var, hq]))
     | (simp (disch := omega) only [wrap_ok])
     | ((first
      | (refine AW.loop ?_ <;> (refine run_sound Tryd.func11 mixed 200 _ _ (by kernel_rfl) ?_))
      | (refine ⟨sd, ?_⟩)
      | (refine ⟨by assumption, ?_⟩)) <;> (try simp only [go_sem, seval, V.enc_var]))
     | assumption)
   ·rw [show decide _ = false from by simp [e]]
    refine ACalls.enter (fn := Tryd.f11) Tryd.func11 rfl (by show 2 ≤ _; decide) ?_
    refine run_sound Tryd.func11 mixed 200 _ _ (by kernel_rfl) ?_
    simp only [go_sem, seval, V.enc_var, e]
    repeat' (first
     | ((first | (refine br_n (fun hq => ?_) (fun hq => ?_)) | (refine idx_intro (fun x hx => have hq := hx; ?_))) <;> (try simp only [go_sem, seval, V.enc_var, e, hq]))
     | (simp (disch := omega) only [wrap_ok])
     | ((first
      | (refine ⟨sd, ?_⟩)
      | (refine ⟨by assumption, ?_⟩)) <;> (try simp only [go_sem, seval, V.enc_var, e]))
     | assumption)
    all_goals (exfalso; exact e (by assumption))
  | _ =>
   rw [show decide _ = false from by simp]
   refine ACalls.enter (fn := Tryd.f11) Tryd.func11 rfl (by show 2 ≤ _; decide) ?_
   refine run_sound Tryd.func11 mixed 200 _ _ (by kernel_rfl) ?_
   simp only [go_sem, seval, V.enc_pair, V.enc_nil, V.enc_var, V.enc_sym, V.enc_num]
   repeat' (first
    | ((first | (refine br_n (fun hq => ?_) (fun hq => ?_)) | (refine idx_intro (fun x hx => have hq := hx; ?_))) <;> (try simp only [go_sem, seval, V.enc_pair, V.enc_nil, V.enc_var, V.enc_sym, V.enc_num, hq]))
    | (simp (disch := omega) only [wrap_ok])
    | ((first
     | (refine ⟨sd, ?_⟩)
     | (refine ⟨by assumption, ?_⟩)) <;> (try simp only [go_sem, seval, V.enc_pair, V.enc_nil, V.enc_var, V.enc_sym, V.enc_num]))
    | assumption)
 | num n =>
  intro b
  cases b with
  | num m =>
   by_cases e : n = m
   ·subst e
    rw [show decide _ = true from by simp]
    refine ACalls.enter (fn := Tryd.f11) Tryd.func11 rfl (by show 2 ≤ _; decide) ?_
    refine run_sound Tryd.func11 mixed 200 _ _ (by kernel_rfl) ?_
    simp only [go_sem, seval, V.enc_num]
    repeat' (first
     | ((first | (refine br_n (fun hq => ?_) (fun hq => ?_)) | (refine idx_intro (fun x hx => have hq := hx; ?_))) <;> (try simp only [go_sem, seval, V.enc_num, hq]))
     | (simp (disch := omega) only [wrap_ok])
     | ((first
      | (refine AW.loop ?_ <;> (refine run_sound Tryd.func11 mixed 200 _ _ (by kernel_rfl) ?_))
      | (refine ⟨sd, ?_⟩)
      | (refine ⟨by assumption, ?_⟩)) <;> (try simp only [go_sem, seval, V.enc_num]))
     | assumption)
   ·rw [show decide _ = false from by simp [e]]
    refine ACalls.enter (fn := Tryd.f11) Tryd.func11 rfl (by show 2 ≤ _; decide) ?_
    refine run_sound Tryd.func11 mixed 200 _ _ (by kernel_rfl) ?_
    simp only [go_sem, seval, V.enc_num, e]
    repeat' (first
     | ((first | (refine br_n (fun hq => ?_) (fun hq => ?_)) | (refine idx_intro (fun x hx => have hq := hx; ?_))) <;> (try simp only [go_sem, seval, V.enc_num, e, hq]))
     | (simp (disch := omega) only [wrap_ok])
     | ((first
      | (refine ⟨sd, ?_⟩)
      | (refine ⟨by assumption, ?_⟩)) <;> (try simp only [go_sem, seval, V.enc_num, e]))
     | assumption)
    all_goals (exfalso; exact e (by assumption))
  | _ =>
   rw [show decide _ = false from by simp]
   refine ACalls.enter (fn := Tryd.f11) Tryd.func11 rfl (by show 2 ≤ _; decide) ?_
   refine run_sound Tryd.func11 mixed 200 _ _ (by kernel_rfl) ?_
   simp only [go_sem, seval, V.enc_pair, V.enc_nil, V.enc_var, V.enc_sym, V.enc_num]
   repeat' (first
    | ((first | (refine br_n (fun hq => ?_) (fun hq => ?_)) | (refine idx_intro (fun x hx => have hq := hx; ?_))) <;> (try simp only [go_sem, seval, V.enc_pair, V.enc_nil, V.enc_var, V.enc_sym, V.enc_num, hq]))
    | (simp (disch := omega) only [wrap_ok])
    | ((first
     | (refine ⟨sd, ?_⟩)
     | (refine ⟨by assumption, ?_⟩)) <;> (try simp only [go_sem, seval, V.enc_pair, V.enc_nil, V.enc_var, V.enc_sym, V.enc_num]))
    | assumption)
 | sym n =>
  intro b
  cases b with
  | sym m =>
   by_cases e : n = m
   ·subst e
    rw [show decide _ = true from by simp]
    refine ACalls.enter (fn := Tryd.f11) Tryd.func11 rfl (by show 2 ≤ _; decide) ?_
    refine run_sound Tryd.func11 mixed 200 _ _ (by kernel_rfl) ?_
    simp only [go_sem, seval, V.enc_sym]
    repeat' (first
     | ((first | (refine br_n (fun hq => ?_) (fun hq => ?_)) | (refine idx_intro (fun x hx => have hq := hx; ?_))) <;> (try simp only [go_sem, seval, V.enc_sym, hq]))
     | (simp (disch := omega) only [wrap_ok])
     | ((first
      | (refine AW.loop ?_ <;> (refine run_sound Tryd.func11 mixed 200 _ _ (by kernel_rfl) ?_))
      | (refine ⟨sd, ?_⟩)
      | (refine ⟨by assumption, ?_⟩)) <;> (try simp only [go_sem, seval, V.enc_sym]))
     | assumption)
   ·have e2 : (n == m) = false := by simpa using e
    rw [show decide _ = false from by simp [e]]
    refine ACalls.enter (fn := Tryd.f11) Tryd.func11 rfl (by show 2 ≤ _; decide) ?_
    refine run_sound Tryd.func11 mixed 200 _ _ (by kernel_rfl) ?_
    simp only [go_sem, seval, V.enc_sym, e2]
    repeat' (first
     | ((first | (refine br_n (fun hq => ?_) (fun hq => ?_)) | (refine idx_intro (fun x hx => have hq := hx; ?_))) <;> (try simp only [go_sem, seval, V.enc_sym, e2, hq]))
     | (simp (disch := omega) only [wrap_ok])
     | ((first
      | (refine ⟨sd, ?_⟩)
      | (refine ⟨by assumption, ?_⟩)) <;> (try simp only [go_sem, seval, V.enc_sym, e2]))
     | assumption)
  | _ =>
   rw [show decide _ = false from by simp]
   refine ACalls.enter (fn := Tryd.f11) Tryd.func11 rfl (by show 2 ≤ _; decide) ?_
   refine run_sound Tryd.func11 mixed 200 _ _ (by kernel_rfl) ?_
   simp only [go_sem, seval, V.enc_pair, V.enc_nil, V.enc_var, V.enc_sym, V.enc_num]
   repeat' (first
    | ((first | (refine br_n (fun hq => ?_) (fun hq => ?_)) | (refine idx_intro (fun x hx => have hq := hx; ?_))) <;> (try simp only [go_sem, seval, V.enc_pair, V.enc_nil, V.enc_var, V.enc_sym, V.enc_num, hq]))
    | (simp (disch := omega) only [wrap_ok])
    | ((first
     | (refine ⟨sd, ?_⟩)
     | (refine ⟨by assumption, ?_⟩)) <;> (try simp only [go_sem, seval, V.enc_pair, V.enc_nil, V.enc_var, V.enc_sym, V.enc_num]))
    | assumption)
theorem list_fn (a b : List V) : Gives Tryd.prog 12 [.sl (a.map V.enc), .sl (b.map V.enc)] (.d (.bool (decide (a = b)))) := by
 have hmap : ∀ x : List V, (x.map V.enc).length = x.length := fun x => List.length_map _
 by_cases hl : a.length = b.length
 ·have n1 : (a.length : Int) = (b.length : Int) := by omega
  refine ACalls.enter (fn := Tryd.f12) Tryd.func12 rfl (by show 2 ≤ _; decide) ?_
  refine run_sound Tryd.func12 mixed 200 _ _ (by kernel_rfl) ?_
  simp only [go_sem, seval, hmap, n1]
  repeat' (first
   | ((first | (refine br_n (fun hq => ?_) (fun hq => ?_)) | (refine idx_intro (fun x hx => have hq := hx; ?_))) <;> (try simp only [go_sem, seval, hmap, n1, hq]))
   | (simp (disch := omega) only [wrap_ok])
   | ((first
    | (refine (same_fn _ _).calls rfl ?_)
    | (refine (same_fn _ _).callQ rfl ?_)
    | (refine ⟨sd, ?_⟩)
    | (refine ⟨by assumption, ?_⟩)) <;> (try simp only [go_sem, seval, hmap, n1]))
   | assumption)
  refine AW.rng a [1, 12, 13] 14 12 (fun _ : List V => []) (fun H _ => H) (fun r s => b.drop (a.length - r.length) = s ∧ s.length = r.length ∧ r.length ≤ a.length ∧ decide (a = b) = decide (r = s)) b rfl (by simp) ⟨by simp, hl.symm, Nat.le_refl _, rfl⟩ (by refine ⟨by simp [mkS], by simp [mkS], by simp [mkS, O.refsLt, C.refsLt, C.refsLt1], ?_⟩; simp [mkS, Abs.get, C.refsLtT, C.refsLt, C.refsLt1]) (fun i x r s hxi hdr hlt hm hinv hnext => ?_) (fun s hinv => ?_)
  ·obtain ⟨i1, i2, i3, i4⟩ := hinv
   obtain ⟨y, t, rfl⟩ : ∃ y t, s = y :: t := by
    cases s with
    | nil => simp at i2
    | cons y t => exact ⟨y, t, rfl⟩
   simp only [List.length_cons] at i1 i2 i3
   have hil : i = a.length - (r.length + 1) := by
    have := congrArg List.length hdr
    simp only [List.length_drop, List.length_cons] at this
    omega
   have hyi : b[i]? = some y ∧ b.drop (i + 1) = t := by
    rw [← hil] at i1
    have hib : i < b.length := by omega
    rw [List.drop_eq_getElem_cons hib] at i1
    exact ⟨by rw [List.getElem?_eq_getElem hib, (List.cons.inj i1).1], (List.cons.inj i1).2⟩
   have hyb : (b.map V.enc)[i]? = some y.enc := by rw [List.getElem?_map, hyi.1]; rfl
   have hlt2 : (i : Int) < (b.length : Int) := by omega
   have hs := same_fn x y
   by_cases e : x = y
   ·subst e
    rw [show decide (x = x) = true from by simp] at hs
    refine run_sound Tryd.func12 mixed 200 _ _ (by kernel_rfl) ?_
    simp only [go_sem, seval, hmap, hlt, hlt2, idx_of hxi, idx_of hyi.1]
    repeat' (first
     | ((first | (refine br_n (fun hq => ?_) (fun hq => ?_)) | (refine idx_intro (fun x hx => have hq := hx; ?_))) <;> (try simp only [go_sem, seval, hmap, hlt, hlt2, idx_of hxi, idx_of hyi.1, hq]))
     | (simp (disch := omega) only [wrap_ok])
     | (refine hnext t _ ⟨by rw [show a.length - r.length = i + 1 by omega]; exact hyi.2, by omega, by omega, by rw [i4]; simp⟩ (by refine ⟨by simp [mkS], by simp [mkS], by simp [mkS, O.refsLt, C.refsLt, C.refsLt1], ?_⟩; simp [mkS, Abs.get, C.refsLtT, C.refsLt, C.refsLt1]))
     | ((first
      | (refine hs.callQ rfl ?_)
      | (refine (same_fn _ _).calls rfl ?_)
      | (refine (same_fn _ _).callQ rfl ?_)
      | (refine ⟨sd, ?_⟩)
      | (refine ⟨by assumption, ?_⟩)) <;> (try simp only [go_sem, seval, hmap, hlt, hlt2, idx_of hxi, idx_of hyi.1]))
     | assumption)
   ·rw [show decide (x = y) = false from by simp [e]] at hs
    rw [i4, show decide (x :: r = y :: t) = false from by simp [e]]
    refine run_sound Tryd.func12 mixed 200 _ _ (by kernel_rfl) ?_
    simp only [go_sem, seval, hmap, hlt, hlt2, idx_of hxi, idx_of hyi.1]
    repeat' (first
     | ((first | (refine br_n (fun hq => ?_) (fun hq => ?_)) | (refine idx_intro (fun x hx => have hq := hx; ?_))) <;> (try simp only [go_sem, seval, hmap, hlt, hlt2, idx_of hxi, idx_of hyi.1, hq]))
     | (simp (disch := omega) only [wrap_ok])
     | ((first
      | (refine hs.callQ rfl ?_)
      | (refine (same_fn _ _).calls rfl ?_)
      | (refine (same_fn _ _).callQ rfl ?_)
      | (refine ⟨sd, ?_⟩)
      | (refine ⟨by assumption, ?_⟩)) <;> (try simp only [go_sem, seval, hmap, hlt, hlt2, idx_of hxi, idx_of hyi.1]))
     | assumption)
  ·obtain ⟨i1, i2, i3, i4⟩ := hinv
   obtain rfl : s = [] := by cases s with
    | nil => rfl
    | cons y t => simp at i2
   rw [i4]
   refine run_sound Tryd.func12 mixed 200 _ _ (by kernel_rfl) ?_
   simp only [go_sem, seval, hmap, n1]
   repeat' (first
    | ((first | (refine br_n (fun hq => ?_) (fun hq => ?_)) | (refine idx_intro (fun x hx => have hq := hx; ?_))) <;> (try simp only [go_sem, seval, hmap, n1, hq]))
    | (simp (disch := omega) only [wrap_ok])
    | ((first
     | (refine (same_fn _ _).calls rfl ?_)
     | (refine (same_fn _ _).callQ rfl ?_)
     | (refine ⟨sd, ?_⟩)
     | (refine ⟨by assumption, ?_⟩)) <;> (try simp only [go_sem, seval, hmap, n1]))
    | assumption)
 ·have n1 : ¬ (a.length : Int) = (b.length : Int) := by omega
  rw [show decide (a = b) = false from by simp; exact fun e => hl (by rw [e])]
  refine ACalls.enter (fn := Tryd.f12) Tryd.func12 rfl (by show 2 ≤ _; decide) ?_
  refine run_sound Tryd.func12 mixed 200 _ _ (by kernel_rfl) ?_
  simp only [go_sem, seval, hmap, n1]
  repeat' (first
   | ((first | (refine br_n (fun hq => ?_) (fun hq => ?_)) | (refine idx_intro (fun x hx => have hq := hx; ?_))) <;> (try simp only [go_sem, seval, hmap, n1, hq]))
   | (simp (disch := omega) only [wrap_ok])
   | ((first
    | (refine (same_fn _ _).calls rfl ?_)
    | (refine (same_fn _ _).callQ rfl ?_)
    | (refine ⟨sd, ?_⟩)
    | (refine ⟨by assumption, ?_⟩)) <;> (try simp only [go_sem, seval, hmap, n1]))
   | assumption)
  all_goals (exfalso; omega)
end Go.Proofs.YtccphilpfmfagaaDoor
