import Derived.Test.YtccphilpfmfagaaDoorW5
import Derived.Test.YtccphilpfmfagaaDoorW2
import Derived.Test.YtccphilpfmfagaaDoorA9
import Derived.Test.YtccphilpfmfagaaDoorP11
namespace Go.Proofs.YtccphilpfmfagaaDoor
open Go.Abs
set_option maxRecDepth 100000
set_option maxHeartbeats 4000000
set_option linter.unusedSimpArgs false
set_option linter.unusedVariables false
theorem half_u (x y : Nat) (h : x + y ≤ 1000000000) : IntKind.i64.wrap (shrI .u64 (IntKind.u64.wrap ((x : Int) + (y : Int))) 1) = (((x + y) / 2 : Nat) : Int) := by
 have h1 : IntKind.u64.wrap ((x : Int) + (y : Int)) = (x : Int) + (y : Int) := by
  unfold IntKind.wrap; simp [IntKind.bits, IntKind.signed]; omega
 rw [h1]
 unfold shrI
 have h2 : ((x : Int) + (y : Int)).fdiv (2 ^ (min (1 : Int).toNat IntKind.u64.bits)) = (((x + y) / 2 : Nat) : Int) := by
  show ((x : Int) + (y : Int)).fdiv 2 = _
  rw [Int.fdiv_eq_ediv_of_nonneg _ (by omega)]
  omega
 rw [h2, wrap_ok (by omega) (by omega)]
theorem search_fn {g : FuncId} {caps : List C} {m : Nat} {H : List O} {p : Nat → Bool} (n : Nat) (hn : n ≤ 100000000) (h : CloR Tryd.prog g caps m (fun i : Nat => D.int .i64 (i : Int)) H (fun i => i < n) (fun i => .d (.bool (p i)))) (hm : ∀ i j, i ≤ j → j < n → p i = true → p j = true) :
  ACalls Tryd.prog 81 [.d (.int .i64 n), .fn g caps] H (fun c H' => c = .d (.int .i64 (srch p n : Int)) ∧ H' = H) := by
 obtain ⟨K, hK⟩ : ∃ K, srch p n = K := ⟨_, rfl⟩
 rw [hK]
 refine ACalls.enter (fn := Tryd.f81) Tryd.func81 rfl (by show 2 ≤ _; decide) ?_
 refine run_sound Tryd.func81 mixed 200 _ _ (by kernel_rfl) ?_
 simp only [go_sem, seval, h.len, h.go, h.at0, h.atj, h.set0, h.setj, h.tk, h.tk0, h.tkj, h.refs, h.refsj, h.hcaps, h.capsj, List.append_assoc]
 repeat' (first
  | ((first | (refine br_n (fun hq => ?_) (fun hq => ?_)) | (refine idx_intro (fun x hx => have hq := hx; ?_))) <;> (try simp only [go_sem, seval, h.len, h.go, h.at0, h.atj, h.set0, h.setj, h.tk, h.tk0, h.tkj, h.refs, h.refsj, h.hcaps, h.capsj, List.append_assoc, hq]))
  | (simp (disch := omega) only [wrap_ok])
  | ((first
   | (refine ⟨sd, ?_⟩)
   | (refine ⟨by assumption, ?_⟩)) <;> (try simp only [go_sem, seval, h.len, h.go, h.at0, h.atj, h.set0, h.setj, h.tk, h.tk0, h.tkj, h.refs, h.refsj, h.hcaps, h.capsj, List.append_assoc]))
  | assumption)
 refine AW.lp [1] (fun u : Nat × Nat => [(5, .d (.int .i64 (u.1 : Int))), (6, .d (.int .i64 (u.2 : Int)))]) (fun H _ => H) (fun u => u.1 ≤ u.2 ∧ u.2 ≤ n ∧ (∀ i, i < u.1 → p i = false) ∧ (∀ i, u.2 ≤ i → i < n → p i = true)) (fun u => u.2 - u.1) (0, n) ⟨Nat.zero_le _, Nat.le_refl _, fun i hi => absurd hi (Nat.not_lt_zero _), fun i a b => by omega⟩ (by refine ⟨by simp [mkS, h.len], by simp only [mkS, List.length_append, List.length_cons, List.length_nil, h.len, h.tkj, h.tk0, h.tk]; first | done | rfl | (simp; done), by simp [mkS, O.refsLt, C.refsLt, C.refsLt1, h.len, h.refs, h.refsj, all_dmap, all_dcomp, -List.all_eq_true], ?_⟩; simp [mkS, Abs.get, C.refsLtT, C.refsLt, C.refsLt1, h.len, h.hcaps, h.capsj, -List.all_eq_true]) ?_
 rintro ⟨i, j⟩ ⟨h1, h2, h3, h4⟩ hnext
 dsimp only at h1 h2 h3 h4 hnext ⊢
 by_cases hij : i < j
 ·have n1 : (i : Int) < (j : Int) := by omega
  have hh := half_u i j (by omega)
  have w0 : IntKind.i64.wrap ((i : Int) + (j : Int)) = (i : Int) + (j : Int) := wrap_ok (by omega) (by omega)
  have hnx := fun i' j' s' => hnext (i', j') s'
  clear hnext
  have hq : (i + j) / 2 < n := by omega
  have hc := h.call ((i + j) / 2) hq
  cases hp : p ((i + j) / 2) with
  | false =>
   rw [hp] at hc
   refine run_sound Tryd.func81 mixed 200 _ _ (by kernel_rfl) ?_
   simp only [go_sem, seval, n1, w0, hh, h.len, h.go, h.at0, h.atj, h.set0, h.setj, h.tk, h.tk0, h.tkj, h.refs, h.refsj, h.hcaps, h.capsj, List.append_assoc]
   repeat' (first
    | ((first | (refine br_n (fun hq => ?_) (fun hq => ?_)) | (refine idx_intro (fun x hx => have hq := hx; ?_))) <;> (try simp only [go_sem, seval, n1, w0, hh, h.len, h.go, h.at0, h.atj, h.set0, h.setj, h.tk, h.tk0, h.tkj, h.refs, h.refsj, h.hcaps, h.capsj, List.append_assoc, hq]))
    | (simp (disch := omega) only [wrap_ok])
    | ((first
     | (refine hc.mono ?_ <;> (rintro c H' ⟨rfl, rfl⟩))
     | (refine ⟨sd, ?_⟩)
     | (refine ⟨by assumption, ?_⟩)) <;> (try simp only [go_sem, seval, n1, w0, hh, h.len, h.go, h.at0, h.atj, h.set0, h.setj, h.tk, h.tk0, h.tkj, h.refs, h.refsj, h.hcaps, h.capsj, List.append_assoc]))
    | assumption)
   refine hnx ((i + j) / 2 + 1) j _ ⟨by omega, h2, fun x hx => ?_, h4⟩ (by dsimp only; omega) (by refine ⟨by simp [mkS, h.len], by simp only [mkS, List.length_append, List.length_cons, List.length_nil, h.len, h.tkj, h.tk0, h.tk]; first | done | rfl | (simp; done), by simp [mkS, O.refsLt, C.refsLt, C.refsLt1, h.len, h.refs, h.refsj, all_dmap, all_dcomp, -List.all_eq_true], ?_⟩; simp [mkS, Abs.get, C.refsLtT, C.refsLt, C.refsLt1, h.len, h.hcaps, h.capsj, -List.all_eq_true])
   cases hpx : p x with
   | false => rfl
   | true => rw [← hp]; exact (hm x _ (by omega) hq hpx).symm
  | true =>
   rw [hp] at hc
   refine run_sound Tryd.func81 mixed 200 _ _ (by kernel_rfl) ?_
   simp only [go_sem, seval, n1, w0, hh, h.len, h.go, h.at0, h.atj, h.set0, h.setj, h.tk, h.tk0, h.tkj, h.refs, h.refsj, h.hcaps, h.capsj, List.append_assoc]
   repeat' (first
    | ((first | (refine br_n (fun hq => ?_) (fun hq => ?_)) | (refine idx_intro (fun x hx => have hq := hx; ?_))) <;> (try simp only [go_sem, seval, n1, w0, hh, h.len, h.go, h.at0, h.atj, h.set0, h.setj, h.tk, h.tk0, h.tkj, h.refs, h.refsj, h.hcaps, h.capsj, List.append_assoc, hq]))
    | (simp (disch := omega) only [wrap_ok])
    | ((first
     | (refine hc.mono ?_ <;> (rintro c H' ⟨rfl, rfl⟩))
     | (refine ⟨sd, ?_⟩)
     | (refine ⟨by assumption, ?_⟩)) <;> (try simp only [go_sem, seval, n1, w0, hh, h.len, h.go, h.at0, h.atj, h.set0, h.setj, h.tk, h.tk0, h.tkj, h.refs, h.refsj, h.hcaps, h.capsj, List.append_assoc]))
    | assumption)
   refine hnx i ((i + j) / 2) _ ⟨by omega, by omega, h3, fun x hx hxn => hm _ x hx hxn hp⟩ (by dsimp only; omega) (by refine ⟨by simp [mkS, h.len], by simp only [mkS, List.length_append, List.length_cons, List.length_nil, h.len, h.tkj, h.tk0, h.tk]; first | done | rfl | (simp; done), by simp [mkS, O.refsLt, C.refsLt, C.refsLt1, h.len, h.refs, h.refsj, all_dmap, all_dcomp, -List.all_eq_true], ?_⟩; simp [mkS, Abs.get, C.refsLtT, C.refsLt, C.refsLt1, h.len, h.hcaps, h.capsj, -List.all_eq_true])
 ·have n1 : ¬ (i : Int) < (j : Int) := by omega
  obtain rfl : i = j := by omega
  have hki : K = i := by rw [← hK]; exact srch_eq h2 h3 (fun hlt => h4 i (Nat.le_refl _) hlt)
  rw [hki]
  refine run_sound Tryd.func81 mixed 200 _ _ (by kernel_rfl) ?_
  simp only [go_sem, seval, n1, h.len, h.go, h.at0, h.atj, h.set0, h.setj, h.tk, h.tk0, h.tkj, h.refs, h.refsj, h.hcaps, h.capsj, List.append_assoc]
  repeat' (first
   | ((first | (refine br_n (fun hq => ?_) (fun hq => ?_)) | (refine idx_intro (fun x hx => have hq := hx; ?_))) <;> (try simp only [go_sem, seval, n1, h.len, h.go, h.at0, h.atj, h.set0, h.setj, h.tk, h.tk0, h.tkj, h.refs, h.refsj, h.hcaps, h.capsj, List.append_assoc, hq]))
   | (simp (disch := omega) only [wrap_ok])
   | ((first
    | (refine ⟨sd, ?_⟩)
    | (refine ⟨by assumption, ?_⟩)) <;> (try simp only [go_sem, seval, n1, h.len, h.go, h.at0, h.atj, h.set0, h.setj, h.tk, h.tk0, h.tkj, h.refs, h.refsj, h.hcaps, h.capsj, List.append_assoc]))
   | assumption)
theorem find1_clo (s : List Bd) (v : Int) : CloR Tryd.prog 82 [.ptr 0 0, .ptr 1 0] 2 (fun i : Nat => D.int .i64 (i : Int)) [.box [.d (.sl (s.map Bd.enc))], .box [.d (.int .i64 v)]] (fun i => i < s.length) (fun i => .d (.bool (geB s v i))) := by
 have hmap : (s.map Bd.enc).length = s.length := List.length_map _
 refine ⟨by kernel_rfl, rfl, rfl, rfl, fun i hi => ?_⟩
 have hb : s[i]? = some s[i] := List.getElem?_eq_getElem hi
 have hg : geB s v i = decide (v ≤ s[i].var) := by unfold geB; rw [hb]
 rw [hg]
 generalize s[i] = b at hb
 have n1 : (i : Int) < (s.length : Int) := by omega
 refine ACalls.enter (fn := Tryd.f82) Tryd.func82 rfl (by show 3 ≤ _; decide) ?_
 refine run_sound Tryd.func82 mixed 200 _ _ (by kernel_rfl) ?_
 simp only [go_sem, seval, hmap, n1, idx_of hb]
 repeat' (first
  | ((first | (refine br_n (fun hq => ?_) (fun hq => ?_)) | (refine idx_intro (fun x hx => have hq := hx; ?_))) <;> (try simp only [go_sem, seval, hmap, n1, idx_of hb, hq]))
  | (simp (disch := omega) only [wrap_ok])
  | ((first
   | (refine ⟨sd, ?_⟩)
   | (refine ⟨by assumption, ?_⟩)) <;> (try simp only [go_sem, seval, hmap, n1, idx_of hb]))
  | assumption)
theorem find_fn (s : List Bd) (v : Int) (hl : s.length ≤ 9000000) (ha : ascB none s = true) : Gives Tryd.prog 62 [.sl (s.map Bd.enc), .int .i64 v] (.d (.int .i64 (bfind s v))) := by
 have hmap : (s.map Bd.enc).length = s.length := List.length_map _
 have hs := search_fn s.length (by omega) (find1_clo s v) (geB_mono ha v)
 rw [bfind_eq]
 generalize srch (geB s v) s.length = k at hs
 cases hb : s[k]? with
 | none =>
  have hk := List.getElem?_eq_none_iff.1 hb
  have n1 : ¬ (k : Int) < (s.length : Int) := by omega
  dsimp only
  refine ACalls.enter (fn := Tryd.f62) Tryd.func62 rfl (by show 2 ≤ _; decide) ?_
  refine run_sound Tryd.func62 mixed 200 _ _ (by kernel_rfl) ?_
  simp only [go_sem, seval, hmap, n1]
  repeat' (first
   | ((first | (refine br_n (fun hq => ?_) (fun hq => ?_)) | (refine idx_intro (fun x hx => have hq := hx; ?_))) <;> (try simp only [go_sem, seval, hmap, n1, hq]))
   | (simp (disch := omega) only [wrap_ok])
   | ((first
    | (refine hs.mono ?_ <;> (rintro c H' ⟨rfl, rfl⟩))
    | (refine ⟨sd, ?_⟩)
    | (refine ⟨by assumption, ?_⟩)) <;> (try simp only [go_sem, seval, hmap, n1]))
   | assumption)
 | some b =>
  have hk := (List.getElem?_eq_some_iff.1 hb).1
  have n1 : (k : Int) < (s.length : Int) := by omega
  dsimp only
  by_cases e : b.var = v
  ·rw [if_pos e]
   refine ACalls.enter (fn := Tryd.f62) Tryd.func62 rfl (by show 2 ≤ _; decide) ?_
   refine run_sound Tryd.func62 mixed 200 _ _ (by kernel_rfl) ?_
   simp only [go_sem, seval, hmap, n1, idx_of hb, e]
   repeat' (first
    | ((first | (refine br_n (fun hq => ?_) (fun hq => ?_)) | (refine idx_intro (fun x hx => have hq := hx; ?_))) <;> (try simp only [go_sem, seval, hmap, n1, idx_of hb, e, hq]))
    | (simp (disch := omega) only [wrap_ok])
    | ((first
     | (refine hs.mono ?_ <;> (rintro c H' ⟨rfl, rfl⟩))
     | (refine ⟨sd, ?_⟩)
     | (refine ⟨by assumption, ?_⟩)) <;> (try simp only [go_sem, seval, hmap, n1, idx_of hb, e]))
    | assumption)
  ·rw [if_neg e]
   refine ACalls.enter (fn := Tryd.f62) Tryd.func62 rfl (by show 2 ≤ _; decide) ?_
   refine run_sound Tryd.func62 mixed 200 _ _ (by kernel_rfl) ?_
   simp only [go_sem, seval, hmap, n1, idx_of hb, e]
   repeat' (first
    | ((first | (refine br_n (fun hq => ?_) (fun hq => ?_)) | (refine idx_intro (fun x hx => have hq := hx; ?_))) <;> (try simp only [go_sem, seval, hmap, n1, idx_of hb, e, hq]))
    | (simp (disch := omega) only [wrap_ok])
    | ((first
     | (refine hs.mono ?_ <;> (rintro c H' ⟨rfl, rfl⟩))
     | (refine ⟨sd, ?_⟩)
     | (refine ⟨by assumption, ?_⟩)) <;> (try simp only [go_sem, seval, hmap, n1, idx_of hb, e]))
    | assumption)
   all_goals first | (exfalso; exact e (by assumption)) | skip
theorem valL_inv {s r : List Bd} {x : Bd} {i : Nat} (hdr : s.drop i = x :: r) : i = s.length - (r.length + 1) ∧ r.length + 1 ≤ s.length ∧ i < s.length := by
 have := congrArg List.length hdr
 simp only [List.length_drop, List.length_cons] at this
 omega
theorem ValuesOk_fn (s : List Bd) (hw : ∀ b, b ∈ s → wtL b.to.enc ≤ 9000000) (hl : s.length ≤ 9000000) : Gives Tryd.prog 59 [.sl (s.map Bd.enc)] (.d (.bool (decide (s.length ≤ 400) && valL none s))) := by
 have hmap : (s.map Bd.enc).length = s.length := List.length_map _
 by_cases h4 : s.length ≤ 400
 ·have n4 : ¬ (400 : Int) < (s.length : Int) := by omega
  refine ACalls.enter (fn := Tryd.f59) Tryd.func59 rfl (by show 1 ≤ _; decide) ?_
  refine run_sound Tryd.func59 mixed 200 _ _ (by kernel_rfl) ?_
  simp only [go_sem, seval, hmap, n4]
  repeat' (first
   | ((first | (refine br_n (fun hq => ?_) (fun hq => ?_)) | (refine idx_intro (fun x hx => have hq := hx; ?_))) <;> (try simp only [go_sem, seval, hmap, n4, hq]))
   | (simp (disch := omega) only [wrap_ok])
   | ((first
    | (refine (iTermOk_fn _ sd).calls rfl ?_)
    | (refine (iTermOk_fn _ sd).callQ rfl ?_)
    | (refine ⟨sd, ?_⟩)
    | (refine ⟨by assumption, ?_⟩)) <;> (try simp only [go_sem, seval, hmap, n4]))
   | assumption)
  refine AW.rng s [0, 8, 9] 10 8 (fun _ : Option Int => []) (fun H _ => H) (fun r p => valL p r = valL none s ∧ (r.length = s.length → p = none) ∧ (r.length < s.length → ∃ y, s[s.length - r.length - 1]? = some y ∧ p = some y.var)) none rfl (by simp) ⟨rfl, fun _ => rfl, fun h => absurd h (Nat.lt_irrefl _)⟩ (by refine ⟨by simp [mkS], by simp [mkS], by simp [mkS, O.refsLt, C.refsLt, C.refsLt1], ?_⟩; simp [mkS, Abs.get, C.refsLtT, C.refsLt, C.refsLt1]) (fun i x r p hxi hdr hlt hm hinv hnext => ?_) (fun p hinv => ?_)
  ·obtain ⟨i1, i2, i3⟩ := hinv
   obtain ⟨hi1, hi2, hi3⟩ := valL_inv hdr
   have hto : Gives Tryd.prog 27 [.agg x.to.enc] (.d (.bool (tmOk x.to))) := iTermOk_fn x.to (hw x (List.mem_of_getElem? hxi))
   simp only [List.length_cons, valL] at i1 i2 i3
   by_cases hi0 : i = 0
   ·obtain rfl := i2 (by omega)
    have n0 : ¬ (0 : Int) < (i : Int) := by omega
    by_cases c1 : 0 ≤ x.var
    ·by_cases c2 : x.var ≤ 100000
     ·cases c4 : tmOk x.to with
      | false =>
       rw [c4] at hto
       have hf : (decide (s.length ≤ 400) && valL none s) = false := by rw [← i1]; simp [c4]
       rw [hf]
       refine run_sound Tryd.func59 mixed 200 _ _ (by kernel_rfl) ?_
       simp only [go_sem, seval, hlt, idx_of hxi, n0, c1, c2]
       repeat' (first
        | ((first | (refine br_n (fun hq => ?_) (fun hq => ?_)) | (refine idx_intro (fun x hx => have hq := hx; ?_))) <;> (try simp only [go_sem, seval, hlt, idx_of hxi, n0, c1, c2, hq]))
        | (simp (disch := omega) only [wrap_ok])
        | ((first
         | (refine hto.calls rfl ?_)
         | (refine hto.callQ rfl ?_)
         | (refine (iTermOk_fn _ sd).calls rfl ?_)
         | (refine (iTermOk_fn _ sd).callQ rfl ?_)
         | (refine ⟨sd, ?_⟩)
         | (refine ⟨by assumption, ?_⟩)) <;> (try simp only [go_sem, seval, hlt, idx_of hxi, n0, c1, c2]))
        | assumption)
       all_goals (exfalso; omega)
      | true =>
       rw [c4] at hto
       refine run_sound Tryd.func59 mixed 200 _ _ (by kernel_rfl) ?_
       simp only [go_sem, seval, hlt, idx_of hxi, n0, c1, c2]
       repeat' (first
        | ((first | (refine br_n (fun hq => ?_) (fun hq => ?_)) | (refine idx_intro (fun x hx => have hq := hx; ?_))) <;> (try simp only [go_sem, seval, hlt, idx_of hxi, n0, c1, c2, hq]))
        | (simp (disch := omega) only [wrap_ok])
        | (refine hnext (some x.var) _ ⟨by rw [← i1]; simp [hi0, c1, c2, c4], fun h => by omega, fun _ => ⟨x, by rw [show s.length - r.length - 1 = i by omega]; exact hxi, rfl⟩⟩ (by refine ⟨by simp [mkS], by simp [mkS], by simp [mkS, O.refsLt, C.refsLt, C.refsLt1], ?_⟩; simp [mkS, Abs.get, C.refsLtT, C.refsLt, C.refsLt1]))
        | ((first
         | (refine hto.calls rfl ?_)
         | (refine hto.callQ rfl ?_)
         | (refine (iTermOk_fn _ sd).calls rfl ?_)
         | (refine (iTermOk_fn _ sd).callQ rfl ?_)
         | (refine ⟨sd, ?_⟩)
         | (refine ⟨by assumption, ?_⟩)) <;> (try simp only [go_sem, seval, hlt, idx_of hxi, n0, c1, c2]))
        | assumption)
       all_goals (exfalso; omega)
     ·have hf : (decide (s.length ≤ 400) && valL none s) = false := by rw [← i1]; simp [c2]
      rw [hf]
      refine run_sound Tryd.func59 mixed 200 _ _ (by kernel_rfl) ?_
      simp only [go_sem, seval, hlt, idx_of hxi, n0, c1, c2]
      repeat' (first
       | ((first | (refine br_n (fun hq => ?_) (fun hq => ?_)) | (refine idx_intro (fun x hx => have hq := hx; ?_))) <;> (try simp only [go_sem, seval, hlt, idx_of hxi, n0, c1, c2, hq]))
       | (simp (disch := omega) only [wrap_ok])
       | ((first
        | (refine hto.calls rfl ?_)
        | (refine hto.callQ rfl ?_)
        | (refine (iTermOk_fn _ sd).calls rfl ?_)
        | (refine (iTermOk_fn _ sd).callQ rfl ?_)
        | (refine ⟨sd, ?_⟩)
        | (refine ⟨by assumption, ?_⟩)) <;> (try simp only [go_sem, seval, hlt, idx_of hxi, n0, c1, c2]))
       | assumption)
      all_goals (exfalso; omega)
    ·have hf : (decide (s.length ≤ 400) && valL none s) = false := by rw [← i1]; simp [c1]
     rw [hf]
     refine run_sound Tryd.func59 mixed 200 _ _ (by kernel_rfl) ?_
     simp only [go_sem, seval, hlt, idx_of hxi, n0, c1]
     repeat' (first
      | ((first | (refine br_n (fun hq => ?_) (fun hq => ?_)) | (refine idx_intro (fun x hx => have hq := hx; ?_))) <;> (try simp only [go_sem, seval, hlt, idx_of hxi, n0, c1, hq]))
      | (simp (disch := omega) only [wrap_ok])
      | ((first
       | (refine hto.calls rfl ?_)
       | (refine hto.callQ rfl ?_)
       | (refine (iTermOk_fn _ sd).calls rfl ?_)
       | (refine (iTermOk_fn _ sd).callQ rfl ?_)
       | (refine ⟨sd, ?_⟩)
       | (refine ⟨by assumption, ?_⟩)) <;> (try simp only [go_sem, seval, hlt, idx_of hxi, n0, c1]))
      | assumption)
     all_goals (exfalso; omega)
   ·obtain ⟨y, hy, rfl⟩ := i3 (by omega)
    have n0 : (0 : Int) < (i : Int) := by omega
    have hw1 : IntKind.i64.wrap ((i : Int) - 1) = ((i - 1 : Nat) : Int) := by rw [wrap_ok (by omega) (by omega)]; omega
    have n2 : ((i - 1 : Nat) : Int) < (s.length : Int) := by omega
    have hyi : s[i - 1]? = some y := by rw [← hy]; congr 1; omega
    by_cases c3 : y.var < x.var
    ·by_cases c1 : 0 ≤ x.var
     ·by_cases c2 : x.var ≤ 100000
      ·cases c4 : tmOk x.to with
       | false =>
        rw [c4] at hto
        have hf : (decide (s.length ≤ 400) && valL none s) = false := by rw [← i1]; simp [c4]
        rw [hf]
        refine run_sound Tryd.func59 mixed 200 _ _ (by kernel_rfl) ?_
        simp only [go_sem, seval, hlt, idx_of hxi, n0, hw1, n2, idx_of hyi, hmap, c3, c1, c2]
        repeat' (first
         | ((first | (refine br_n (fun hq => ?_) (fun hq => ?_)) | (refine idx_intro (fun x hx => have hq := hx; ?_))) <;> (try simp only [go_sem, seval, hlt, idx_of hxi, n0, hw1, n2, idx_of hyi, hmap, c3, c1, c2, hq]))
         | (simp (disch := omega) only [wrap_ok])
         | ((first
          | (refine hto.calls rfl ?_)
          | (refine hto.callQ rfl ?_)
          | (refine (iTermOk_fn _ sd).calls rfl ?_)
          | (refine (iTermOk_fn _ sd).callQ rfl ?_)
          | (refine ⟨sd, ?_⟩)
          | (refine ⟨by assumption, ?_⟩)) <;> (try simp only [go_sem, seval, hlt, idx_of hxi, n0, hw1, n2, idx_of hyi, hmap, c3, c1, c2]))
         | assumption)
        all_goals (exfalso; omega)
       | true =>
        rw [c4] at hto
        refine run_sound Tryd.func59 mixed 200 _ _ (by kernel_rfl) ?_
        simp only [go_sem, seval, hlt, idx_of hxi, n0, hw1, n2, idx_of hyi, hmap, c3, c1, c2]
        repeat' (first
         | ((first | (refine br_n (fun hq => ?_) (fun hq => ?_)) | (refine idx_intro (fun x hx => have hq := hx; ?_))) <;> (try simp only [go_sem, seval, hlt, idx_of hxi, n0, hw1, n2, idx_of hyi, hmap, c3, c1, c2, hq]))
         | (simp (disch := omega) only [wrap_ok])
         | (refine hnext (some x.var) _ ⟨by rw [← i1]; simp [c3, c1, c2, c4], fun h => by omega, fun _ => ⟨x, by rw [show s.length - r.length - 1 = i by omega]; exact hxi, rfl⟩⟩ (by refine ⟨by simp [mkS], by simp [mkS], by simp [mkS, O.refsLt, C.refsLt, C.refsLt1], ?_⟩; simp [mkS, Abs.get, C.refsLtT, C.refsLt, C.refsLt1]))
         | ((first
          | (refine hto.calls rfl ?_)
          | (refine hto.callQ rfl ?_)
          | (refine (iTermOk_fn _ sd).calls rfl ?_)
          | (refine (iTermOk_fn _ sd).callQ rfl ?_)
          | (refine ⟨sd, ?_⟩)
          | (refine ⟨by assumption, ?_⟩)) <;> (try simp only [go_sem, seval, hlt, idx_of hxi, n0, hw1, n2, idx_of hyi, hmap, c3, c1, c2]))
         | assumption)
        all_goals (exfalso; omega)
      ·have hf : (decide (s.length ≤ 400) && valL none s) = false := by rw [← i1]; simp [c2]
       rw [hf]
       refine run_sound Tryd.func59 mixed 200 _ _ (by kernel_rfl) ?_
       simp only [go_sem, seval, hlt, idx_of hxi, n0, hw1, n2, idx_of hyi, hmap, c3, c1, c2]
       repeat' (first
        | ((first | (refine br_n (fun hq => ?_) (fun hq => ?_)) | (refine idx_intro (fun x hx => have hq := hx; ?_))) <;> (try simp only [go_sem, seval, hlt, idx_of hxi, n0, hw1, n2, idx_of hyi, hmap, c3, c1, c2, hq]))
        | (simp (disch := omega) only [wrap_ok])
        | ((first
         | (refine hto.calls rfl ?_)
         | (refine hto.callQ rfl ?_)
         | (refine (iTermOk_fn _ sd).calls rfl ?_)
         | (refine (iTermOk_fn _ sd).callQ rfl ?_)
         | (refine ⟨sd, ?_⟩)
         | (refine ⟨by assumption, ?_⟩)) <;> (try simp only [go_sem, seval, hlt, idx_of hxi, n0, hw1, n2, idx_of hyi, hmap, c3, c1, c2]))
        | assumption)
       all_goals (exfalso; omega)
     ·have hf : (decide (s.length ≤ 400) && valL none s) = false := by rw [← i1]; simp [c1]
      rw [hf]
      refine run_sound Tryd.func59 mixed 200 _ _ (by kernel_rfl) ?_
      simp only [go_sem, seval, hlt, idx_of hxi, n0, hw1, n2, idx_of hyi, hmap, c3, c1]
      repeat' (first
       | ((first | (refine br_n (fun hq => ?_) (fun hq => ?_)) | (refine idx_intro (fun x hx => have hq := hx; ?_))) <;> (try simp only [go_sem, seval, hlt, idx_of hxi, n0, hw1, n2, idx_of hyi, hmap, c3, c1, hq]))
       | (simp (disch := omega) only [wrap_ok])
       | ((first
        | (refine hto.calls rfl ?_)
        | (refine hto.callQ rfl ?_)
        | (refine (iTermOk_fn _ sd).calls rfl ?_)
        | (refine (iTermOk_fn _ sd).callQ rfl ?_)
        | (refine ⟨sd, ?_⟩)
        | (refine ⟨by assumption, ?_⟩)) <;> (try simp only [go_sem, seval, hlt, idx_of hxi, n0, hw1, n2, idx_of hyi, hmap, c3, c1]))
       | assumption)
      all_goals (exfalso; omega)
    ·have hf : (decide (s.length ≤ 400) && valL none s) = false := by rw [← i1]; simp [c3]
     rw [hf]
     refine run_sound Tryd.func59 mixed 200 _ _ (by kernel_rfl) ?_
     simp only [go_sem, seval, hlt, idx_of hxi, n0, hw1, n2, idx_of hyi, hmap, c3]
     repeat' (first
      | ((first | (refine br_n (fun hq => ?_) (fun hq => ?_)) | (refine idx_intro (fun x hx => have hq := hx; ?_))) <;> (try simp only [go_sem, seval, hlt, idx_of hxi, n0, hw1, n2, idx_of hyi, hmap, c3, hq]))
      | (simp (disch := omega) only [wrap_ok])
      | ((first
       | (refine hto.calls rfl ?_)
       | (refine hto.callQ rfl ?_)
       | (refine (iTermOk_fn _ sd).calls rfl ?_)
       | (refine (iTermOk_fn _ sd).callQ rfl ?_)
       | (refine ⟨sd, ?_⟩)
       | (refine ⟨by assumption, ?_⟩)) <;> (try simp only [go_sem, seval, hlt, idx_of hxi, n0, hw1, n2, idx_of hyi, hmap, c3]))
      | assumption)
     all_goals (exfalso; omega)
  rw [show (decide (s.length ≤ 400) && valL none s) = true from by rw [← hinv.1]; simp [h4, valL]]
  refine run_sound Tryd.func59 mixed 200 _ _ (by kernel_rfl) ?_
  simp only [go_sem, seval]
  repeat' (first
   | ((first | (refine br_n (fun hq => ?_) (fun hq => ?_)) | (refine idx_intro (fun x hx => have hq := hx; ?_))) <;> (try simp only [go_sem, seval, hq]))
   | (simp (disch := omega) only [wrap_ok])
   | ((first
    | (refine (iTermOk_fn _ sd).calls rfl ?_)
    | (refine (iTermOk_fn _ sd).callQ rfl ?_)
    | (refine ⟨sd, ?_⟩)
    | (refine ⟨by assumption, ?_⟩)) <;> (try simp only [go_sem, seval]))
   | assumption)
 ·have n4 : (400 : Int) < (s.length : Int) := by omega
  rw [show (decide (s.length ≤ 400) && valL none s) = false from by simp [h4]]
  refine ACalls.enter (fn := Tryd.f59) Tryd.func59 rfl (by show 1 ≤ _; decide) ?_
  refine run_sound Tryd.func59 mixed 200 _ _ (by kernel_rfl) ?_
  simp only [go_sem, seval, hmap, n4]
  repeat' (first
   | ((first | (refine br_n (fun hq => ?_) (fun hq => ?_)) | (refine idx_intro (fun x hx => have hq := hx; ?_))) <;> (try simp only [go_sem, seval, hmap, n4, hq]))
   | (simp (disch := omega) only [wrap_ok])
   | ((first
    | (refine (iTermOk_fn _ sd).calls rfl ?_)
    | (refine (iTermOk_fn _ sd).callQ rfl ?_)
    | (refine ⟨sd, ?_⟩)
    | (refine ⟨by assumption, ?_⟩)) <;> (try simp only [go_sem, seval, hmap, n4]))
   | assumption)
theorem l04Values_fn (s : List Bd) (hw : ∀ b, b ∈ s → wtL b.to.enc ≤ 9000000) (hl : s.length ≤ 9000000) : Gives Tryd.prog 56 [.sl (s.map Bd.enc)] (.d (.bool (decide (s.length ≤ 400) && valL none s))) := by
 have hmap : (s.map Bd.enc).length = s.length := List.length_map _
 refine ACalls.enter (fn := Tryd.f56) Tryd.func56 rfl (by show 1 ≤ _; decide) ?_
 refine run_sound Tryd.func56 mixed 200 _ _ (by kernel_rfl) ?_
 simp only [go_sem, seval, hmap]
 repeat' (first
  | ((first | (refine br_n (fun hq => ?_) (fun hq => ?_)) | (refine idx_intro (fun x hx => have hq := hx; ?_))) <;> (try simp only [go_sem, seval, hmap, hq]))
  | (simp (disch := omega) only [wrap_ok])
  | ((first
   | (refine (l01In_fn _ _ _).calls rfl ?_)
   | (refine (l01In_fn _ _ _).callQ rfl ?_)
   | (refine (sTermOk_fn _ sd).calls rfl ?_)
   | (refine (sTermOk_fn _ sd).callQ rfl ?_)
   | (refine ⟨sd, ?_⟩)
   | (refine ⟨by assumption, ?_⟩)) <;> (try simp only [go_sem, seval, hmap]))
  | assumption)
 refine AW.rng s [0, 5, 6] 7 5 (fun _ : Option Int => []) (fun H _ => H) (fun r p => valL p r = valL none s ∧ (r.length = s.length → p = none) ∧ (r.length < s.length → ∃ y, s[s.length - r.length - 1]? = some y ∧ p = some y.var)) none rfl (by simp) ⟨rfl, fun _ => rfl, fun h => absurd h (Nat.lt_irrefl _)⟩ (by refine ⟨by simp [mkS], by simp [mkS], by simp [mkS, O.refsLt, C.refsLt, C.refsLt1], ?_⟩; simp [mkS, Abs.get, C.refsLtT, C.refsLt, C.refsLt1]) (fun i x r p hxi hdr hlt hm hinv hnext => ?_) (fun p hinv => ?_)
 ·obtain ⟨i1, i2, i3⟩ := hinv
  obtain ⟨hi1, hi2, hi3⟩ := valL_inv hdr
  have hto : Gives Tryd.prog 55 [.agg x.to.enc] (.d (.bool (tmOk x.to))) := sTermOk_fn x.to (hw x (List.mem_of_getElem? hxi))
  simp only [List.length_cons, valL] at i1 i2 i3
  by_cases hi0 : i = 0
  ·obtain rfl := i2 (by omega)
   have n0 : ¬ (0 : Int) < (i : Int) := by omega
   by_cases c1 : 0 ≤ x.var
   ·by_cases c2 : x.var ≤ 100000
    ·cases c4 : tmOk x.to with
     | false =>
      rw [c4] at hto
      have hf : (decide (s.length ≤ 400) && valL none s) = false := by rw [← i1]; simp [c4]
      rw [hf]
      refine run_sound Tryd.func56 mixed 200 _ _ (by kernel_rfl) ?_
      simp only [go_sem, seval, hlt, idx_of hxi, n0, c1, c2]
      repeat' (first
       | ((first | (refine br_n (fun hq => ?_) (fun hq => ?_)) | (refine idx_intro (fun x hx => have hq := hx; ?_))) <;> (try simp only [go_sem, seval, hlt, idx_of hxi, n0, c1, c2, hq]))
       | (simp (disch := omega) only [wrap_ok])
       | ((first
        | (refine hto.calls rfl ?_)
        | (refine hto.callQ rfl ?_)
        | (refine (l01In_fn _ _ _).calls rfl ?_)
        | (refine (l01In_fn _ _ _).callQ rfl ?_)
        | (refine (sTermOk_fn _ sd).calls rfl ?_)
        | (refine (sTermOk_fn _ sd).callQ rfl ?_)
        | (refine ⟨sd, ?_⟩)
        | (refine ⟨by assumption, ?_⟩)) <;> (try simp only [go_sem, seval, hlt, idx_of hxi, n0, c1, c2]))
       | assumption)
      all_goals (exfalso; omega)
     | true =>
      rw [c4] at hto
      refine run_sound Tryd.func56 mixed 200 _ _ (by kernel_rfl) ?_
      simp only [go_sem, seval, hlt, idx_of hxi, n0, c1, c2]
      repeat' (first
       | ((first | (refine br_n (fun hq => ?_) (fun hq => ?_)) | (refine idx_intro (fun x hx => have hq := hx; ?_))) <;> (try simp only [go_sem, seval, hlt, idx_of hxi, n0, c1, c2, hq]))
       | (simp (disch := omega) only [wrap_ok])
       | (refine hnext (some x.var) _ ⟨by rw [← i1]; simp [hi0, c1, c2, c4], fun h => by omega, fun _ => ⟨x, by rw [show s.length - r.length - 1 = i by omega]; exact hxi, rfl⟩⟩ (by refine ⟨by simp [mkS], by simp [mkS], by simp [mkS, O.refsLt, C.refsLt, C.refsLt1], ?_⟩; simp [mkS, Abs.get, C.refsLtT, C.refsLt, C.refsLt1]))
       | ((first
        | (refine hto.calls rfl ?_)
        | (refine hto.callQ rfl ?_)
        | (refine (l01In_fn _ _ _).calls rfl ?_)
        | (refine (l01In_fn _ _ _).callQ rfl ?_)
        | (refine (sTermOk_fn _ sd).calls rfl ?_)
        | (refine (sTermOk_fn _ sd).callQ rfl ?_)
        | (refine ⟨sd, ?_⟩)
        | (refine ⟨by assumption, ?_⟩)) <;> (try simp only [go_sem, seval, hlt, idx_of hxi, n0, c1, c2]))
       | assumption)
      all_goals (exfalso; omega)
    ·have hf : (decide (s.length ≤ 400) && valL none s) = false := by rw [← i1]; simp [c2]
     rw [hf]
     refine run_sound Tryd.func56 mixed 200 _ _ (by kernel_rfl) ?_
     simp only [go_sem, seval, hlt, idx_of hxi, n0, c1, c2]
     repeat' (first
      | ((first | (refine br_n (fun hq => ?_) (fun hq => ?_)) | (refine idx_intro (fun x hx => have hq := hx; ?_))) <;> (try simp only [go_sem, seval, hlt, idx_of hxi, n0, c1, c2, hq]))
      | (simp (disch := omega) only [wrap_ok])
      | ((first
       | (refine hto.calls rfl ?_)
       | (refine hto.callQ rfl ?_)
       | (refine (l01In_fn _ _ _).calls rfl ?_)
       | (refine (l01In_fn _ _ _).callQ rfl ?_)
       | (refine (sTermOk_fn _ sd).calls rfl ?_)
       | (refine (sTermOk_fn _ sd).callQ rfl ?_)
       | (refine ⟨sd, ?_⟩)
       | (refine ⟨by assumption, ?_⟩)) <;> (try simp only [go_sem, seval, hlt, idx_of hxi, n0, c1, c2]))
      | assumption)
     all_goals (exfalso; omega)
   ·have hf : (decide (s.length ≤ 400) && valL none s) = false := by rw [← i1]; simp [c1]
    rw [hf]
    refine run_sound Tryd.func56 mixed 200 _ _ (by kernel_rfl) ?_
    simp only [go_sem, seval, hlt, idx_of hxi, n0, c1]
    repeat' (first
     | ((first | (refine br_n (fun hq => ?_) (fun hq => ?_)) | (refine idx_intro (fun x hx => have hq := hx; ?_))) <;> (try simp only [go_sem, seval, hlt, idx_of hxi, n0, c1, hq]))
     | (simp (disch := omega) only [wrap_ok])
     | ((first
      | (refine hto.calls rfl ?_)
      | (refine hto.callQ rfl ?_)
      | (refine (l01In_fn _ _ _).calls rfl ?_)
      | (refine (l01In_fn _ _ _).callQ rfl ?_)
      | (refine (sTermOk_fn _ sd).calls rfl ?_)
      | (refine (sTermOk_fn _ sd).callQ rfl ?_)
      | (refine ⟨sd, ?_⟩)
      | (refine ⟨by assumption, ?_⟩)) <;> (try simp only [go_sem, seval, hlt, idx_of hxi, n0, c1]))
     | assumption)
    all_goals (exfalso; omega)
  ·obtain ⟨y, hy, rfl⟩ := i3 (by omega)
   have n0 : (0 : Int) < (i : Int) := by omega
   have hw1 : IntKind.i64.wrap ((i : Int) - 1) = ((i - 1 : Nat) : Int) := by rw [wrap_ok (by omega) (by omega)]; omega
   have n2 : ((i - 1 : Nat) : Int) < (s.length : Int) := by omega
   have hyi : s[i - 1]? = some y := by rw [← hy]; congr 1; omega
   by_cases c3 : y.var < x.var
   ·by_cases c1 : 0 ≤ x.var
    ·by_cases c2 : x.var ≤ 100000
     ·cases c4 : tmOk x.to with
      | false =>
       rw [c4] at hto
       have hf : (decide (s.length ≤ 400) && valL none s) = false := by rw [← i1]; simp [c4]
       rw [hf]
       refine run_sound Tryd.func56 mixed 200 _ _ (by kernel_rfl) ?_
       simp only [go_sem, seval, hlt, idx_of hxi, n0, hw1, n2, idx_of hyi, hmap, c3, c1, c2]
       repeat' (first
        | ((first | (refine br_n (fun hq => ?_) (fun hq => ?_)) | (refine idx_intro (fun x hx => have hq := hx; ?_))) <;> (try simp only [go_sem, seval, hlt, idx_of hxi, n0, hw1, n2, idx_of hyi, hmap, c3, c1, c2, hq]))
        | (simp (disch := omega) only [wrap_ok])
        | ((first
         | (refine hto.calls rfl ?_)
         | (refine hto.callQ rfl ?_)
         | (refine (l01In_fn _ _ _).calls rfl ?_)
         | (refine (l01In_fn _ _ _).callQ rfl ?_)
         | (refine (sTermOk_fn _ sd).calls rfl ?_)
         | (refine (sTermOk_fn _ sd).callQ rfl ?_)
         | (refine ⟨sd, ?_⟩)
         | (refine ⟨by assumption, ?_⟩)) <;> (try simp only [go_sem, seval, hlt, idx_of hxi, n0, hw1, n2, idx_of hyi, hmap, c3, c1, c2]))
        | assumption)
       all_goals (exfalso; omega)
      | true =>
       rw [c4] at hto
       refine run_sound Tryd.func56 mixed 200 _ _ (by kernel_rfl) ?_
       simp only [go_sem, seval, hlt, idx_of hxi, n0, hw1, n2, idx_of hyi, hmap, c3, c1, c2]
       repeat' (first
        | ((first | (refine br_n (fun hq => ?_) (fun hq => ?_)) | (refine idx_intro (fun x hx => have hq := hx; ?_))) <;> (try simp only [go_sem, seval, hlt, idx_of hxi, n0, hw1, n2, idx_of hyi, hmap, c3, c1, c2, hq]))
        | (simp (disch := omega) only [wrap_ok])
        | (refine hnext (some x.var) _ ⟨by rw [← i1]; simp [c3, c1, c2, c4], fun h => by omega, fun _ => ⟨x, by rw [show s.length - r.length - 1 = i by omega]; exact hxi, rfl⟩⟩ (by refine ⟨by simp [mkS], by simp [mkS], by simp [mkS, O.refsLt, C.refsLt, C.refsLt1], ?_⟩; simp [mkS, Abs.get, C.refsLtT, C.refsLt, C.refsLt1]))
        | ((first
         | (refine hto.calls rfl ?_)
         | (refine hto.callQ rfl ?_)
         | (refine (l01In_fn _ _ _).calls rfl ?_)
         | (refine (l01In_fn _ _ _).callQ rfl ?_)
         | (refine (sTermOk_fn _ sd).calls rfl ?_)
         | (refine (sTermOk_fn _ sd).callQ rfl ?_)
         | (refine ⟨sd, ?_⟩)
         | (refine ⟨by assumption, ?_⟩)) <;> (try simp only [go_sem, seval, hlt, idx_of hxi, n0, hw1, n2, idx_of hyi, hmap, c3, c1, c2]))
        | assumption)
       all_goals (exfalso; omega)
     ·have hf : (decide (s.length ≤ 400) && valL none s) = false := by rw [← i1]; simp [c2]
      rw [hf]
      refine run_sound Tryd.func56 mixed 200 _ _ (by kernel_rfl) ?_
      simp only [go_sem, seval, hlt, idx_of hxi, n0, hw1, n2, idx_of hyi, hmap, c3, c1, c2]
      repeat' (first
       | ((first | (refine br_n (fun hq => ?_) (fun hq => ?_)) | (refine idx_intro (fun x hx => have hq := hx; ?_))) <;> (try simp only [go_sem, seval, hlt, idx_of hxi, n0, hw1, n2, idx_of hyi, hmap, c3, c1, c2, hq]))
       | (simp (disch := omega) only [wrap_ok])
       | ((first
        | (refine hto.calls rfl ?_)
        | (refine hto.callQ rfl ?_)
        | (refine (l01In_fn _ _ _).calls rfl ?_)
        | (refine (l01In_fn _ _ _).callQ rfl ?_)
        | (refine (sTermOk_fn _ sd).calls rfl ?_)
        | (refine (sTermOk_fn _ sd).callQ rfl ?_)
        | (refine ⟨sd, ?_⟩)
        | (refine ⟨by assumption, ?_⟩)) <;> (try simp only [go_sem, seval, hlt, idx_of hxi, n0, hw1, n2, idx_of hyi, hmap, c3, c1, c2]))
       | assumption)
      all_goals (exfalso; omega)
    ·have hf : (decide (s.length ≤ 400) && valL none s) = false := by rw [← i1]; simp [c1]
     rw [hf]
     refine run_sound Tryd.func56 mixed 200 _ _ (by kernel_rfl) ?_
     simp only [go_sem, seval, hlt, idx_of hxi, n0, hw1, n2, idx_of hyi, hmap, c3, c1]
     repeat' (first
      | ((first | (refine br_n (fun hq => ?_) (fun hq => ?_)) | (refine idx_intro (fun x hx => have hq := hx; ?_))) <;> (try simp only [go_sem, seval, hlt, idx_of hxi, n0, hw1, n2, idx_of hyi, hmap, c3, c1, hq]))
      | (simp (disch := omega) only [wrap_ok])
      | ((first
       | (refine hto.calls rfl ?_)
       | (refine hto.callQ rfl ?_)
       | (refine (l01In_fn _ _ _).calls rfl ?_)
       | (refine (l01In_fn _ _ _).callQ rfl ?_)
       | (refine (sTermOk_fn _ sd).calls rfl ?_)
       | (refine (sTermOk_fn _ sd).callQ rfl ?_)
       | (refine ⟨sd, ?_⟩)
       | (refine ⟨by assumption, ?_⟩)) <;> (try simp only [go_sem, seval, hlt, idx_of hxi, n0, hw1, n2, idx_of hyi, hmap, c3, c1]))
      | assumption)
     all_goals (exfalso; omega)
   ·have hf : (decide (s.length ≤ 400) && valL none s) = false := by rw [← i1]; simp [c3]
    rw [hf]
    refine run_sound Tryd.func56 mixed 200 _ _ (by kernel_rfl) ?_
    simp only [go_sem, seval, hlt, idx_of hxi, n0, hw1, n2, idx_of hyi, hmap, c3]
    repeat' (first
     | ((first | (refine br_n (fun hq => ?_) (fun hq => ?_)) | (refine idx_intro (fun x hx => have hq := hx; ?_))) <;> (try simp only [go_sem, seval, hlt, idx_of hxi, n0, hw1, n2, idx_of hyi, hmap, c3, hq]))
     | (simp (disch := omega) only [wrap_ok])
     | ((first
      | (refine hto.calls rfl ?_)
      | (refine hto.callQ rfl ?_)
      | (refine (l01In_fn _ _ _).calls rfl ?_)
      | (refine (l01In_fn _ _ _).callQ rfl ?_)
      | (refine (sTermOk_fn _ sd).calls rfl ?_)
      | (refine (sTermOk_fn _ sd).callQ rfl ?_)
      | (refine ⟨sd, ?_⟩)
      | (refine ⟨by assumption, ?_⟩)) <;> (try simp only [go_sem, seval, hlt, idx_of hxi, n0, hw1, n2, idx_of hyi, hmap, c3]))
     | assumption)
    all_goals (exfalso; omega)
 rw [show (decide (s.length ≤ 400) && valL none s) = decide (s.length ≤ 400) from by rw [← hinv.1]; simp [valL]]
 rw [show decide (s.length ≤ 400) = decide ((s.length : Int) ≤ 400) from by simp; omega]
 refine run_sound Tryd.func56 mixed 200 _ _ (by kernel_rfl) ?_
 simp only [go_sem, seval, hmap]
 repeat' (first
  | ((first | (refine br_n (fun hq => ?_) (fun hq => ?_)) | (refine idx_intro (fun x hx => have hq := hx; ?_))) <;> (try simp only [go_sem, seval, hmap, hq]))
  | (simp (disch := omega) only [wrap_ok])
  | ((first
   | (refine (l01In_fn _ _ _).calls rfl ?_)
   | (refine (l01In_fn _ _ _).callQ rfl ?_)
   | (refine (sTermOk_fn _ sd).calls rfl ?_)
   | (refine (sTermOk_fn _ sd).callQ rfl ?_)
   | (refine ⟨sd, ?_⟩)
   | (refine ⟨by assumption, ?_⟩)) <;> (try simp only [go_sem, seval, hmap]))
  | assumption)
end Go.Proofs.YtccphilpfmfagaaDoor
