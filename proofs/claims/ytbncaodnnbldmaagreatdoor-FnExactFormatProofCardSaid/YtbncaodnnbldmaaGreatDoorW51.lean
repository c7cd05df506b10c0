import Derived.Test.YtbncaodnnbldmaaGreatDoorW50
import Derived.Test.YtbncaodnnbldmaaGreatDoorP8
namespace Go.Proofs.YtbncaodnnbldmaaGreatDoor
open Go.Abs
set_option maxRecDepth 100000
set_option maxHeartbeats 4000000
set_option linter.unusedSimpArgs false
set_option linter.unusedVariables false
def tabO : O := .tab 0 (Lib.pow10Tab.map fun z => Value.int .u64 z)
@[go_sem ↓ 10000] theorem tabO_refs (m : Nat) : tabO.refsLt m = true := rfl
theorem itoa_fn (n : Int) (h0 : -1000000000 ≤ n) (h1 : n ≤ 1000000000) : ACalls Tryz.prog 94 [.d (.int .i64 n)] [tabO] (fun c H' => c = .d (.str (dec n)) ∧ H' = [tabO]) :=
 itoa_calls (P := Tryz.prog) (tx := dec) (fun n a b w h => Tryz.strconv_Itoa n a b w h) (by kernel_rfl) (by decide) n (by omega) (by omega)
theorem impl_FormatInt_fn (n : Int) (h0 : -1000000000 ≤ n) (h1 : n ≤ 1000000000) : ACalls Tryz.prog 62 [.d (.int .i64 n)] [tabO] (fun c H' => c = .d (.str (dec n)) ∧ H' = [tabO]) := by
 refine ACalls.enter (fn := Tryz.f62) Tryz.func62 rfl (by show 1 ≤ _; decide) ?_
 refine run_sound Tryz.func62 mixed 200 _ _ (by kernel_rfl) ?_
 simp only [go_sem, seval]
 repeat' (first
  | ((first | (refine br_n (fun hq => ?_) (fun hq => ?_)) | (refine idx_intro (fun x hx => have hq := hx; ?_))) <;> (try simp only [go_sem, seval, hq]))
  | (simp (disch := omega) only [wrap_ok])
  | ((first
   | (refine (itoa_fn n h0 h1).mono ?_ <;> (rintro c H' ⟨rfl, rfl⟩))
   | (refine ⟨sd, ?_⟩)
   | (refine ⟨by assumption, ?_⟩)) <;> (try simp only [go_sem, seval]))
  | assumption)
theorem spec_FormatInt_pos (n : Int) (h0 : 0 ≤ n) (h1 : n ≤ 1000000000) : Gives Tryz.prog 17 [.int .i64 n] (.d (.str (dec n))) := by
 have hmx : maxLen = 9223372036854775807 := rfl
 refine ACalls.enter (fn := Tryz.f17) Tryz.func17 rfl (by show 1 ≤ _; decide) ?_
 refine run_sound Tryz.func17 mixed 200 _ _ (by kernel_rfl) ?_
 simp only [go_sem, seval]
 repeat' (first
  | ((first | (refine br_n (fun hq => ?_) (fun hq => ?_)) | (refine idx_intro (fun x hx => have hq := hx; ?_))) <;> (try simp only [go_sem, seval, hq]))
  | (simp (disch := omega) only [wrap_ok])
  | ((first
   | (refine ⟨sd, ?_⟩)
   | (refine ⟨by assumption, ?_⟩)) <;> (try simp only [go_sem, seval]))
  | assumption)
 ·exfalso; omega
 ·exfalso; omega
 refine AW.lp [] (fun p : Int × List UInt8 => [(0, .d (.int .i64 p.1)), (3, .d (.str p.2))]) (fun H _ => H) (fun p => 0 ≤ p.1 ∧ p.1 ≤ n ∧ (p.2.length : Int) ≤ n - p.1 ∧ Lib.decDigits p.1.toNat ++ p.2 = dec n) (fun p => p.1.toNat) (n, []) ⟨by omega, by omega, by simp, by simp [dec_pos h0]⟩ (by refine ⟨by simp [mkS], by simp [mkS], by simp [mkS, O.refsLt, C.refsLt, C.refsLt1], ?_⟩; simp [mkS, Abs.get, C.refsLtT, C.refsLt, C.refsLt1]) ?_
 rintro ⟨m, acc⟩ ⟨i1, i2, i4, i3⟩ hnext
 dsimp only at i1 i2 i3 i4 hnext
 by_cases hm : 9 < m
 ·have hd0 : 0 ≤ m.tmod 10 ∧ m.tmod 10 < 10 ∧ (m.tmod 10).toNat = m.toNat % 10 := by
   rw [Int.tmod_eq_emod_of_nonneg (by omega)]; omega
  have hq0 : 0 ≤ m.tdiv 10 ∧ m.tdiv 10 < m ∧ (m.tdiv 10).toNat = m.toNat / 10 := by
   rw [Int.tdiv_eq_ediv_of_nonneg (by omega)]; omega
  have hw8 : IntKind.u8.wrap (48 + m.tmod 10) = 48 + m.tmod 10 := by
   unfold IntKind.wrap; simp [IntKind.bits, IntKind.signed]; omega
  refine run_sound Tryz.func17 mixed 200 _ _ (by kernel_rfl) ?_
  simp only [go_sem, seval, hm, hw8, bytesOf]
  repeat' (first
   | ((first | (refine br_n (fun hq => ?_) (fun hq => ?_)) | (refine idx_intro (fun x hx => have hq := hx; ?_))) <;> (try simp only [go_sem, seval, hm, hw8, bytesOf, hq]))
   | (simp (disch := omega) only [wrap_ok])
   | ((first
    | (refine ⟨sd, ?_⟩)
    | (refine ⟨by assumption, ?_⟩)) <;> (try simp only [go_sem, seval, hm, hw8, bytesOf]))
   | assumption)
  refine hnext (m.tdiv 10, UInt8.ofNat (48 + m.tmod 10).toNat :: acc) _ ⟨by omega, by omega, by simp only [List.length_cons]; omega, ?_⟩ (by dsimp only; omega) (by refine ⟨by simp [mkS], by simp [mkS], by simp [mkS, O.refsLt], ?_⟩; simp [mkS, Abs.get, C.refsLtT, C.refsLt, C.refsLt1])
  dsimp only
  rw [← i3, hq0.2.2, Lib.decDigits.eq_def m.toNat, dif_neg (by omega), show (48 + m.tmod 10).toNat = 48 + m.toNat % 10 by omega]
  simp
 ·have hw8 : IntKind.u8.wrap (48 + m) = 48 + m := by
   unfold IntKind.wrap; simp [IntKind.bits, IntKind.signed]; omega
  rw [Lib.decDigits.eq_def, dif_pos (by omega)] at i3
  refine run_sound Tryz.func17 mixed 200 _ _ (by kernel_rfl) ?_
  simp only [go_sem, seval, hm, hw8, bytesOf]
  repeat' (first
   | ((first | (refine br_n (fun hq => ?_) (fun hq => ?_)) | (refine idx_intro (fun x hx => have hq := hx; ?_))) <;> (try simp only [go_sem, seval, hm, hw8, bytesOf, hq]))
   | (simp (disch := omega) only [wrap_ok])
   | ((first
    | (refine ⟨sd, ?_⟩)
    | (refine ⟨by assumption, ?_⟩)) <;> (try simp only [go_sem, seval, hm, hw8, bytesOf]))
   | assumption)
  all_goals (rw [← i3, show (48 + m).toNat = 48 + m.toNat by omega]; rfl)
theorem spec_FormatInt_neg : ∀ (k : Nat) (n : Int), n < 0 → -1000000000 ≤ n → n.natAbs ≤ k → Gives Tryz.prog 17 [.int .i64 n] (.d (.str (dec n))) := by
 intro k
 induction k with
 | zero => intro n h0 h1 hk; omega
 | succ k ih =>
  intro n h0 h1 hk
  have hmx : maxLen = 9223372036854775807 := rfl
  obtain ⟨m, hm⟩ : ∃ m : Nat, n = -(m : Int) := ⟨n.natAbs, by omega⟩
  have e1 : n.tdiv 10 = -((m / 10 : Nat) : Int) := by rw [hm, Int.neg_tdiv, Int.tdiv_eq_ediv_of_nonneg (by omega)]; omega
  have e2 : n.tmod 10 = -((m % 10 : Nat) : Int) := by rw [hm, Int.neg_tmod, Int.tmod_eq_emod_of_nonneg (by omega)]; omega
  have hl := dec_len (n := n.tdiv 10) (by omega) (by omega)
  have hw : IntKind.i64.wrap (n.tdiv 10) = n.tdiv 10 := by
   unfold IntKind.wrap; simp [IntKind.bits, IntKind.signed]; omega
  by_cases h9 : -10 < n
  ·have hw8 : IntKind.u8.wrap (48 - n) = 48 - n := by
    unfold IntKind.wrap; simp [IntKind.bits, IntKind.signed]; omega
   have hz : n.tdiv 10 = 0 := by omega
   rw [dec_low h0 h9]
   refine ACalls.enter (fn := Tryz.f17) Tryz.func17 rfl (by show 1 ≤ _; decide) ?_
   refine run_sound Tryz.func17 mixed 200 _ _ (by kernel_rfl) ?_
   simp only [go_sem, seval, h0, hw, hw8, bytesOf]
   repeat' (first
    | ((first | (refine br_n (fun hq => ?_) (fun hq => ?_)) | (refine idx_intro (fun x hx => have hq := hx; ?_))) <;> (try simp only [go_sem, seval, h0, hw, hw8, bytesOf, hq]))
    | (simp (disch := omega) only [wrap_ok])
    | ((first
     | (refine ⟨sd, ?_⟩)
     | (refine ⟨by assumption, ?_⟩)) <;> (try simp only [go_sem, seval, h0, hw, hw8, bytesOf]))
    | assumption)
   all_goals first | (exfalso; omega) | rfl
  ·have hw8 : IntKind.u8.wrap (48 - n.tmod 10) = 48 - n.tmod 10 := by
    unfold IntKind.wrap; simp [IntKind.bits, IntKind.signed]; omega
   have hz : ¬ n.tdiv 10 = 0 := by omega
   rw [dec_step h0 (by omega)]
   have hrec := ih (n.tdiv 10) (by omega) (by omega) (by omega)
   generalize dec (n.tdiv 10) = N at hrec hl ⊢
   refine ACalls.enter (fn := Tryz.f17) Tryz.func17 rfl (by show 1 ≤ _; decide) ?_
   refine run_sound Tryz.func17 mixed 200 _ _ (by kernel_rfl) ?_
   simp only [go_sem, seval, h0, hw, hw8, bytesOf]
   repeat' (first
    | ((first | (refine br_n (fun hq => ?_) (fun hq => ?_)) | (refine idx_intro (fun x hx => have hq := hx; ?_))) <;> (try simp only [go_sem, seval, h0, hw, hw8, bytesOf, hq]))
    | (simp (disch := omega) only [wrap_ok])
    | ((first
     | (refine hrec.calls rfl ?_)
     | (refine hrec.callQ rfl ?_)
     | (refine ⟨sd, ?_⟩)
     | (refine ⟨by assumption, ?_⟩)) <;> (try simp only [go_sem, seval, h0, hw, hw8, bytesOf]))
    | assumption)
   all_goals first | (exfalso; omega) | rfl
end Go.Proofs.YtbncaodnnbldmaaGreatDoor
