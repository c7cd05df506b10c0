import Derived.Test.YtgmfoklmkpdjdaaFx
import Derived.Test.YtgmfoklmkpdjdaaP1
import Derived.Test.YtgmfoklmkpdjdaaShelf
namespace Go.Proofs.Ytgmfoklmkpdjdaa
open Go.Abs
set_option maxRecDepth 100000
set_option maxHeartbeats 4000000
set_option linter.unusedSimpArgs false
set_option linter.unusedVariables false
theorem l02Insert_fn (l : List Int) (n : Int) (ha : Asc l) (hl : l.length ≤ 9000000) : Gives Try.prog 71 [.sl (intsD l), .int .i64 n] (.d (.sl (intsD (insA l n)))) := by
 have hat := fun k => insA_at (n := n) (k := k) ha
 have hmx : maxLen = 9223372036854775807 := rfl
 generalize insA l n = N at hat ⊢
 refine ACalls.enter (fn := Try.f71) Try.func71 rfl (by show 2 ≤ _; decide) ?_
 refine run_sound Try.func71 mixed 200 _ _ (by kernel_rfl) ?_
 simp only [go_sem, seval]
 repeat' (first
  | ((first | (refine br_n (fun hq => ?_) (fun hq => ?_)) | (refine idx_intro (fun x hx => have hq := hx; ?_))) <;> (try simp only [go_sem, seval, hq]))
  | (simp (disch := omega) only [wrap_ok])
  | ((first
   | (refine ⟨sd, ?_⟩)
   | (refine ⟨by assumption, ?_⟩)) <;> (try simp only [go_sem, seval]))
  | assumption)
 refine AW.lp [0, 1] (fun k : Nat => [(5, .d (.int .i64 k))]) (fun H _ => H) (fun k => k ≤ l.length ∧ ∀ j x, k ≤ j → l[j]? = some x → n ≤ x) (fun k => k) l.length ⟨Nat.le_refl _, fun j x hj hx => by have := (List.getElem?_eq_some_iff.1 hx).1; omega⟩ (by simp only [intsD_len]; exact by refine ⟨by simp [mkS], by simp [mkS], by simp [mkS, O.refsLt, C.refsLt, C.refsLt1], ?_⟩; simp [mkS, Abs.get, C.refsLtT, C.refsLt, C.refsLt1]) ?_
 rintro k ⟨hk, hge⟩ hnext
 have z0 : ((0 : Nat) : Int) = 0 := rfl
 have fin : ∀ k, k ≤ l.length → (N = if l[k]? = some n then l else l.take k ++ ([n] ++ l.drop k)) → ∀ y, l[k]? = some y → (y = n → N = l) ∧ (y ≠ n → N = l.take k ++ ([n] ++ l.drop k)) := fun k _ h y hy => by
  rw [hy] at h
  exact ⟨fun e => by rw [h, e, if_pos rfl], fun e => by rw [h, if_neg (by simpa using e)]⟩
 have fin0 : ∀ k, (N = if l[k]? = some n then l else l.take k ++ ([n] ++ l.drop k)) → (l.length : Int) ≤ k → N = l.take k ++ ([n] ++ l.drop k) := fun k h hk => by
  rw [h, if_neg (by rw [List.getElem?_eq_none (by omega)]; simp)]
 by_cases h0 : k = 0
 ·subst h0
  have hN := hat 0 hge (.inl rfl)
  have fa := fin 0 (by omega) hN
  have fb := fin0 0 hN
  clear hnext hat fin fin0 hN
  refine run_sound Try.func71 mixed 200 _ _ (by kernel_rfl) ?_
  simp only [go_sem, seval, z0]
  repeat' (first
   | ((first | (refine br_n (fun hq => ?_) (fun hq => ?_)) | (refine idx_intro (fun x hx => have hq := hx; ?_))) <;> (try simp only [go_sem, seval, z0, hq]))
   | (simp (disch := omega) only [wrap_ok])
   | ((first
    | (refine ⟨sd, ?_⟩)
    | (refine ⟨by assumption, ?_⟩)) <;> (try simp only [go_sem, seval, z0]))
   | assumption)
  all_goals first
   | (rw [(fa _ (by assumption)).1 (by assumption)]; done)
   | (rw [(fa _ (by assumption)).2 (by assumption)]; simp [intsD]; done)
   | (rw [fb (by omega)]; simp [intsD]; done)
 ·obtain ⟨k, rfl⟩ : ∃ k', k = k' + 1 := ⟨k - 1, by omega⟩
  obtain ⟨x, hx⟩ : ∃ x, l[k]? = some x := ⟨_, List.getElem?_eq_getElem (by omega)⟩
  have e1 : (k : Int) + ((1 : Nat) : Int) - 1 = (k : Int) := by omega
  have e2 : ((k : Int) + ((1 : Nat) : Int)).toNat = k + 1 := by omega
  have e3 : (k : Int) + 1 - 1 = (k : Int) := by omega
  have e4 : ((k : Int) + 1).toNat = k + 1 := by omega
  by_cases hxn : n ≤ x
  ·have hge' : ∀ j y, k ≤ j → l[j]? = some y → n ≤ y := fun j y hj hy => by
    by_cases e : j = k
    ·subst e; rw [hx] at hy; cases hy; exact hxn
    ·exact hge j y (by omega) hy
   clear hat fin fin0
   refine run_sound Try.func71 mixed 200 _ _ (by kernel_rfl) ?_
   simp only [go_sem, seval, e1, e2, e3, e4, idx_of hx]
   repeat' (first
    | ((first | (refine br_n (fun hq => ?_) (fun hq => ?_)) | (refine idx_intro (fun x hx => have hq := hx; ?_))) <;> (try simp only [go_sem, seval, e1, e2, e3, e4, idx_of hx, hq]))
    | (simp (disch := omega) only [wrap_ok])
    | ((first
     | (refine ⟨sd, ?_⟩)
     | (refine ⟨by assumption, ?_⟩)) <;> (try simp only [go_sem, seval, e1, e2, e3, e4, idx_of hx]))
    | assumption)
   all_goals first
    | exact hnext k _ ⟨by omega, hge'⟩ (by omega) (by refine ⟨by simp [mkS], by simp [mkS], by simp [mkS, O.refsLt, C.refsLt, C.refsLt1], ?_⟩; simp [mkS, Abs.get, C.refsLtT, C.refsLt, C.refsLt1])
    | (exfalso; omega)
  ·have hN := hat (k + 1) hge (.inr ⟨x, by simpa using hx, by omega⟩)
   have fa := fin (k + 1) (by omega) hN
   have fb := fin0 (k + 1) hN
   clear hnext hat fin fin0 hN
   refine run_sound Try.func71 mixed 200 _ _ (by kernel_rfl) ?_
   simp only [go_sem, seval, e1, e2, e3, e4, idx_of hx]
   repeat' (first
    | ((first | (refine br_n (fun hq => ?_) (fun hq => ?_)) | (refine idx_intro (fun x hx => have hq := hx; ?_))) <;> (try simp only [go_sem, seval, e1, e2, e3, e4, idx_of hx, hq]))
    | (simp (disch := omega) only [wrap_ok])
    | ((first
     | (refine ⟨sd, ?_⟩)
     | (refine ⟨by assumption, ?_⟩)) <;> (try simp only [go_sem, seval, e1, e2, e3, e4, idx_of hx]))
    | assumption)
   all_goals first
    | (rw [(fa _ (by assumption)).1 (by assumption)]; done)
    | (rw [(fa _ (by assumption)).2 (by assumption)]; simp [intsD]; done)
    | (rw [fb (by omega)]; simp [intsD]; done)
    | (exfalso; omega)
theorem l02Vars_fn : ∀ (t : Tm) (l : List Int), Asc l → l.length + t.vars.length ≤ 9000000 → Gives Try.prog 66 [.agg t.enc, .sl (intsD l)] (.d (.sl (intsD (t.vars.foldl insA l)))) := by
 intro t
 induction t using Tm.ind' with
 | h t ih =>
  intro l ha hl
  have hv := Tm.vars_eq t
  by_cases hk : t.kind = 1
  ·rw [if_pos hk] at hv
   rw [hv] at hl ⊢
   simp only [List.length_cons, List.length_nil] at hl
   refine ACalls.enter (fn := Try.f66) Try.func66 rfl (by show 2 ≤ _; decide) ?_
   refine run_sound Try.func66 mixed 200 _ _ (by kernel_rfl) ?_
   simp only [go_sem, seval]
   repeat' (first
    | ((first | (refine br_n (fun hq => ?_) (fun hq => ?_)) | (refine idx_intro (fun x hx => have hq := hx; ?_))) <;> (try simp only [go_sem, seval, hk, hq]))
    | (simp (disch := omega) only [wrap_ok])
    | ((first
     | (refine (l02Insert_fn _ _ (by assumption) sd).calls rfl ?_)
     | (refine ⟨sd, ?_⟩)
     | (refine ⟨by assumption, ?_⟩)) <;> (try simp only [go_sem, seval, hk]))
    | assumption)
   all_goals try (exact absurd hk (by assumption))
   all_goals rfl
  ·rw [if_neg hk] at hv
   rw [hv] at hl ⊢
   refine ACalls.enter (fn := Try.f66) Try.func66 rfl (by show 2 ≤ _; decide) ?_
   refine run_sound Try.func66 mixed 200 _ _ (by kernel_rfl) ?_
   simp only [go_sem, seval]
   repeat' (first
    | ((first | (refine br_n (fun hq => ?_) (fun hq => ?_)) | (refine idx_intro (fun x hx => have hq := hx; ?_))) <;> (try simp only [go_sem, seval, hq]))
    | (simp (disch := omega) only [wrap_ok])
    | ((first
     | (refine (l02Insert_fn _ _ (by assumption) sd).calls rfl ?_)
     | (refine ⟨sd, ?_⟩)
     | (refine ⟨by assumption, ?_⟩)) <;> (try simp only [go_sem, seval]))
    | assumption)
   all_goals try (exact absurd (by assumption) hk)
   refine AW.rng t.args [15, 16] 17 15 (fun acc : List Int => [(1, .d (.sl (intsD acc)))]) (fun H _ => H) (fun r acc => Asc acc ∧ acc.length + (Tm.varss r).length ≤ 9000000 ∧ (Tm.varss r).foldl insA acc = (Tm.varss t.args).foldl insA l) l rfl (by simp) ⟨ha, hl, rfl⟩ (by refine ⟨by simp [mkS], by simp [mkS], by simp [mkS, O.refsLt, C.refsLt, C.refsLt1], ?_⟩; simp [mkS, Abs.get, C.refsLtT, C.refsLt, C.refsLt1]) (fun i x r acc hxi hdr hlt hm hinv hnext => ?_) (fun acc hinv => ?_)
   ·have hx := List.mem_of_getElem? hxi
    obtain ⟨v1, v2, v3⟩ := hinv
    simp only [Tm.varss, List.length_append, List.foldl_append] at v2 v3
    have ihx := ih x hx acc v1 (by omega)
    have hfl := foldA_len (vs := x.vars) (l := acc)
    refine run_sound Try.func66 mixed 200 _ _ (by kernel_rfl) ?_
    simp only [go_sem, seval, hlt, idx_of hxi]
    repeat' (first
     | ((first | (refine br_n (fun hq => ?_) (fun hq => ?_)) | (refine idx_intro (fun x hx => have hq := hx; ?_))) <;> (try simp only [go_sem, seval, hq]))
     | (simp (disch := omega) only [wrap_ok])
     | (refine hnext (x.vars.foldl insA acc) _ ⟨foldA_asc v1, by omega, v3⟩ (by refine ⟨by simp [mkS], by simp [mkS], by simp [mkS, O.refsLt, C.refsLt, C.refsLt1], ?_⟩; simp [mkS, Abs.get, C.refsLtT, C.refsLt, C.refsLt1]))
     | ((first
      | (refine ihx.calls rfl ?_)
      | (refine (l02Insert_fn _ _ (by assumption) sd).calls rfl ?_)
      | (refine ⟨sd, ?_⟩)
      | (refine ⟨by assumption, ?_⟩)) <;> (try simp only [go_sem, seval]))
     | assumption)
   ·obtain ⟨v1, v2, v3⟩ := hinv
    simp only [Tm.varss, List.foldl_nil] at v3
    refine run_sound Try.func66 mixed 200 _ _ (by kernel_rfl) ?_
    simp only [go_sem, seval]
    rw [v3]
theorem l13Vars_fn : ∀ (t : Gl) (l : List Int), Asc l → l.length + t.vars.length ≤ 9000000 → Gives Try.prog 54 [.agg t.enc, .sl (intsD l)] (.d (.sl (intsD (t.vars.foldl insA l)))) := by
 intro t
 induction t using Gl.ind' with
 | h t ih =>
  intro l ha hl
  have hv := Gl.vars_eq t
  rw [hv] at hl ⊢
  rw [List.length_append] at hl
  rw [List.foldl_append]
  refine ACalls.enter (fn := Try.f54) Try.func54 rfl (by show 2 ≤ _; decide) ?_
  refine run_sound Try.func54 mixed 200 _ _ (by kernel_rfl) ?_
  simp only [go_sem, seval]
  refine AW.rng t.terms [2, 10, 11] 12 10 (fun acc : List Int => [(1, .d (.sl (intsD acc)))]) (fun H _ => H) (fun r acc => Asc acc ∧ acc.length + (Tm.varss r).length + (Gl.varss t.goals).length ≤ 9000000 ∧ (Tm.varss r).foldl insA acc = (Tm.varss t.terms).foldl insA l) l rfl (by simp) ⟨ha, by omega, rfl⟩ (by refine ⟨by simp [mkS], by simp [mkS], by simp [mkS, O.refsLt, C.refsLt, C.refsLt1], ?_⟩; simp [mkS, Abs.get, C.refsLtT, C.refsLt, C.refsLt1]) (fun i x r acc hxi hdr hlt hm hinv hnext => ?_) (fun acc hinv => ?_)
  ·obtain ⟨v1, v2, v3⟩ := hinv
   simp only [Tm.varss, List.length_append, List.foldl_append] at v2 v3
   have hfl := foldA_len (vs := x.vars) (l := acc)
   refine run_sound Try.func54 mixed 200 _ _ (by kernel_rfl) ?_
   simp only [go_sem, seval, hlt, idx_of hxi]
   repeat' (first
    | ((first | (refine br_n (fun hq => ?_) (fun hq => ?_)) | (refine idx_intro (fun x hx => have hq := hx; ?_))) <;> (try simp only [go_sem, seval, hq]))
    | (simp (disch := omega) only [wrap_ok])
    | (refine hnext (x.vars.foldl insA acc) _ ⟨foldA_asc v1, by omega, v3⟩ (by refine ⟨by simp [mkS], by simp [mkS], by simp [mkS, O.refsLt, C.refsLt, C.refsLt1], ?_⟩; simp [mkS, Abs.get, C.refsLtT, C.refsLt, C.refsLt1]))
    | ((first
     | (refine (l02Vars_fn _ _ (by assumption) sd).calls rfl ?_)
     | (refine ⟨sd, ?_⟩)
     | (refine ⟨by assumption, ?_⟩)) <;> (try simp only [go_sem, seval]))
    | assumption)
  ·obtain ⟨v1, v2, v3⟩ := hinv
   simp only [Tm.varss, List.foldl_nil, List.length_nil] at v2 v3
   subst v3
   refine run_sound Try.func54 mixed 200 _ _ (by kernel_rfl) ?_
   simp only [go_sem, seval]
   refine AW.rng t.goals [21, 22] 23 21 (fun acc : List Int => [(1, .d (.sl (intsD acc)))]) (fun H _ => H) (fun r acc' => Asc acc' ∧ acc'.length + (Gl.varss r).length ≤ 9000000 ∧ (Gl.varss r).foldl insA acc' = (Gl.varss t.goals).foldl insA ((Tm.varss t.terms).foldl insA l)) _ rfl (by simp) ⟨v1, by omega, rfl⟩ (by refine ⟨by simp [mkS], by simp [mkS], by simp [mkS, O.refsLt, C.refsLt, C.refsLt1], ?_⟩; simp [mkS, Abs.get, C.refsLtT, C.refsLt, C.refsLt1]) (fun i x r acc hxi hdr hlt hm hinv hnext => ?_) (fun acc hinv => ?_)
   ·have hx := List.mem_of_getElem? hxi
    obtain ⟨w1, w2, w3⟩ := hinv
    simp only [Gl.varss, List.length_append, List.foldl_append] at w2 w3
    have ihx := ih x hx acc w1 (by omega)
    have hfl := foldA_len (vs := x.vars) (l := acc)
    refine run_sound Try.func54 mixed 200 _ _ (by kernel_rfl) ?_
    simp only [go_sem, seval, hlt, idx_of hxi]
    repeat' (first
     | ((first | (refine br_n (fun hq => ?_) (fun hq => ?_)) | (refine idx_intro (fun x hx => have hq := hx; ?_))) <;> (try simp only [go_sem, seval, hq]))
     | (simp (disch := omega) only [wrap_ok])
     | (refine hnext (x.vars.foldl insA acc) _ ⟨foldA_asc w1, by omega, w3⟩ (by refine ⟨by simp [mkS], by simp [mkS], by simp [mkS, O.refsLt, C.refsLt, C.refsLt1], ?_⟩; simp [mkS, Abs.get, C.refsLtT, C.refsLt, C.refsLt1]))
     | ((first
      | (refine ihx.calls rfl ?_)
      | (refine (l02Vars_fn _ _ (by assumption) sd).calls rfl ?_)
      | (refine ⟨sd, ?_⟩)
      | (refine ⟨by assumption, ?_⟩)) <;> (try simp only [go_sem, seval]))
     | assumption)
   ·obtain ⟨w1, w2, w3⟩ := hinv
    simp only [Gl.varss, List.foldl_nil] at w3
    refine run_sound Try.func54 mixed 200 _ _ (by kernel_rfl) ?_
    simp only [go_sem, seval]
    rw [w3]
end Go.Proofs.Ytgmfoklmkpdjdaa
