import Derived.Test.YtgmfoklmkpdjdaaW140
namespace Go.Proofs.Ytgmfoklmkpdjdaa
open Go.Abs
set_option maxRecDepth 100000
set_option maxHeartbeats 8000000
set_option linter.unusedSimpArgs false
set_option linter.unusedVariables false
theorem formatN_fn (k : Nat) (hk : k ≤ 20000) : Gives Try.prog 35 [.int .i64 (k : Int)] (.d (.str (dec (k : Int)))) := spec_FormatInt_pos _ (by omega) (by omega)
theorem fidx_some {x : List UInt8} : ∀ (l : List (List UInt8)) (k : Nat), (∀ i y, i < k → l[i]? = some y → y ≠ x) → l[k]? = some x → l.findIdx (fun y => y == x) = k
 | [], k, _, h => by simp at h
 | y :: r, 0, _, h => by
  simp at h; subst h
  simp [List.findIdx_cons]
 | y :: r, k + 1, hn, h => by
  have h0 := hn 0 y (by omega) rfl
  have ih := fidx_some r k (fun i z hi hz => hn (i + 1) z (by omega) (by simpa using hz)) (by simpa using h)
  rw [List.findIdx_cons]
  have : (y == x) = false := by simpa using h0
  rw [this]
  simp [ih]
theorem fidx_none {x : List UInt8} : ∀ (l : List (List UInt8)), (∀ (i : Nat) y, l[i]? = some y → y ≠ x) → l.findIdx (fun y => y == x) = l.length
 | [], _ => rfl
 | y :: r, hn => by
  have h0 := hn 0 y rfl
  have ih := fidx_none r (fun i z hz => hn (i + 1) z (by simpa using hz))
  rw [List.findIdx_cons]
  have : (y == x) = false := by simpa using h0
  rw [this]
  simp [ih]
theorem l15Number_fn (T : List (List UInt8)) (hTl : T.length ≤ 20000) (hTm : ∀ t, t ∈ T → t ≠ [] ∧ t.length ≤ 100000) (R : List (List UInt8)) (c : Nat) (hR : nbT T [] [] = some (R, c)) : Gives Try.prog 34 [.sl (strD T)] (.tup [.d (.sl (strD R)), .d (.int .i64 c), .d (.bool true)]) := by
 have hmx : maxLen = 9223372036854775807 := rfl
 refine ACalls.enter (fn := Try.f34) Try.func34 rfl (by show 1 ≤ _; decide) ?_
 refine run_sound Try.func34 mixed 200 _ _ (by kernel_rfl) ?_
 simp only [go_sem, seval, strD_len]
 repeat' (first
  | ((first | (refine br_n (fun hq => ?_) (fun hq => ?_)) | (refine idx_intro (fun x hx => have hq := hx; ?_))) <;> (try simp only [go_sem, seval, strD_len, hq]))
  | (simp (disch := omega) only [wrap_ok])
  | ((first
   | (refine (l01In_fn _ _ _).calls rfl ?_)
   | (refine (sIsName_fn _ sd).calls rfl ?_)
   | (refine ⟨sd, ?_⟩)
   | (refine ⟨by assumption, ?_⟩)) <;> (try simp only [go_sem, seval, strD_len]))
  | assumption)
 refine AW.adopt 5 1 9 (by decide) rfl ?_
 refine AW.adopt 6 1 9 (by decide) rfl ?_
 refine AW.rng T [14, 15] 16 14 (fun u : List (List UInt8) × List (List UInt8) × Nat × Nat => [(5, .own 0 u.2.2.1), (6, .own 1 u.2.2.2)]) (fun _ u => [.grow u.2.2.1 1 9 (strD u.1), .grow u.2.2.2 1 9 (strD u.2.1)]) (fun r u => nbT r u.1 u.2.1 = some (R, c) ∧ u.1.length + r.length ≤ T.length ∧ u.2.1.length + r.length ≤ T.length) ([], [], 0, 0) rfl (by simp [strD_len]) ⟨hR, by simp, by simp⟩ (by refine ⟨by simp [mkS, strD], by simp [mkS, strD], by simp only [mkS, List.all_cons, List.all_nil, O.refsLt, C.refsLt, C.refsLt1, all_dmap]; first | done | rfl | (simp; done), ?_⟩; simp [mkS, Abs.get, C.refsLtT, C.refsLt, C.refsLt1]) (fun i x r u hxi hdr hlt hm hinv hnext => ?_) (fun u hinv => ?_)
 ·obtain ⟨ns, out, q1, q2⟩ := u
  obtain ⟨i1, i2, i3⟩ := hinv
  dsimp only [List.length_cons] at i1 i2 i3 hnext ⊢
  have hnx := fun a b q q' s' => hnext (a, b, q, q') s'
  clear hnext
  have hxm := hTm x (List.mem_of_getElem? hxi)
  have hxx := strD_at hxi
  obtain ⟨b, rs, hxc⟩ : ∃ b rs, x = b :: rs := by
   cases x with
   | nil => exact absurd rfl hxm.1
   | cons b rs => exact ⟨b, rs, rfl⟩
  have g1 : (0 : Int) < (x.length : Int) := by rw [hxc, List.length_cons]; omega
  have g3 : x.drop 1 = x.tail := by rw [hxc]; rfl
  have g4 : (((x[0]?).getD 0).toNat : Int) = b.toNat := by rw [hxc]; rfl
  have g5 : (1 : Int) ≤ (x.length : Int) := by omega
  have hhd : x.head? = some b := by rw [hxc]; rfl
  have htl : x.tail.length ≤ 100000 := by have := hxm.2; rw [List.length_tail]; omega
  simp only [nbT] at i1
  by_cases h63 : b = 63
  ·have g2 : (((x[0]?).getD 0).toNat : Int) = 63 := by rw [g4, h63]; rfl
   rw [if_neg (by rw [hhd, h63]; simp)] at i1
   by_cases hnb : nbB x.tail = true
   ·rw [if_pos hnb] at i1
    have hn := sIsName_fn x.tail (by omega)
    have hp := sParseInt_fn x.tail (by omega)
    have hdone : ∀ (k : Nat), k ≤ ns.length → k = ns.findIdx (fun y => y == x) → Gives Try.prog 35 [.int .i64 (k : Int)] (.d (.str (dec (k : Int)))) := fun k hk _ => formatN_fn k (by omega)
    have hpv : ∃ (nv : Int) (ok : Bool), Gives Try.prog 48 [.str x.tail] (.tup [.d (.int .i64 nv), .d (.bool ok)]) ∧ (ok && (decide (0 ≤ nv) && decide (nv ≤ 100000))) = inR (pInt x.tail) := by
     cases hpi : pInt x.tail with
     | none => exact ⟨0, false, by rw [pIC_none hpi] at hp; exact hp, rfl⟩
     | some n => exact ⟨n, true, by rw [pIC_some hpi] at hp; exact hp, by simp [inR]⟩
    obtain ⟨nv, ok, hpg, hpe⟩ := hpv
    have hin := l01In_fn nv 0 100000
    unfold nbB at hnb
    rw [← hpe] at hnb
    clear hp hpe
    generalize (decide (0 ≤ nv) && decide (nv ≤ 100000)) = inb at hin hnb
    obtain ⟨K, hK⟩ : ∃ K, ns.findIdx (fun y => y == x) = K := ⟨_, rfl⟩
    rw [hK] at i1
    cases hN : isName x.tail with
    | true =>
     rw [hN] at hn
     refine run_sound Try.func34 mixed 200 _ _ (by kernel_rfl) ?_
     simp only [go_sem, seval, hlt, strD_len, idx_of hxx, g1, g2, g3, g5]
     repeat' (first
      | ((first | (refine br_n (fun hq => ?_) (fun hq => ?_)) | (refine idx_intro (fun x hx => have hq := hx; ?_))) <;> (try simp only [go_sem, seval, hlt, strD_len, idx_of hxx, g1, g2, g3, g5, hq]))
      | (simp (disch := omega) only [wrap_ok])
      | ((first
       | (refine hpg.calls rfl ?_)
       | (refine hn.calls rfl ?_)
       | (refine hn.callQ rfl ?_)
       | (refine hin.calls rfl ?_)
       | (refine hin.callQ rfl ?_)
       | (refine (l01In_fn _ _ _).calls rfl ?_)
       | (refine (sIsName_fn _ sd).calls rfl ?_)
       | (refine ⟨sd, ?_⟩)
       | (refine ⟨by assumption, ?_⟩)) <;> (try simp only [go_sem, seval, hlt, strD_len, idx_of hxx, g1, g2, g3, g5]))
      | assumption)
     refine AW.lp [5, 6, 8, 14, 15, 16] (fun k : Nat => [(11, .d (.int .i64 (k : Int)))]) (fun H _ => H) (fun k => k ≤ ns.length ∧ ∀ i y, i < k → ns[i]? = some y → y ≠ x) (fun k => ns.length - k) 0 ⟨Nat.zero_le _, fun i y hi => by omega⟩ (by refine ⟨by simp [mkS], by simp [mkS], by simp only [mkS, List.all_cons, List.all_nil, O.refsLt, C.refsLt, C.refsLt1, all_dmap]; first | done | rfl | (simp; done), ?_⟩; simp [mkS, Abs.get, C.refsLtT, C.refsLt, C.refsLt1]) ?_
     rintro k ⟨hk1, hk2⟩ hnk
     by_cases hkl : k < ns.length
     ·obtain ⟨y, hy⟩ : ∃ y, ns[k]? = some y := ⟨_, List.getElem?_eq_getElem hkl⟩
      have hyx := strD_at hy
      have m1 : (k : Int) < (ns.length : Int) := by omega
      by_cases hxy : y = x
      ·subst hxy
       have hKk : K = k := by rw [← hK]; exact fidx_some ns k hk2 hy
       have hmem : y ∈ ns := List.mem_of_getElem? hy
       rw [if_pos hmem, hKk] at i1
       have m2 : ¬ (k : Int) = (ns.length : Int) := by omega
       have hf := formatN_fn k (by omega)
       have hdl := dec_len (n := (k : Int)) (by omega) (by omega)
       refine run_sound Try.func34 mixed 200 _ _ (by kernel_rfl) ?_
       simp only [go_sem, seval, m1, m2, strD_len, idx_of hyx]
       repeat' (first
        | ((first | (refine br_n (fun hq => ?_) (fun hq => ?_)) | (refine idx_intro (fun x hx => have hq := hx; ?_))) <;> (try simp only [go_sem, seval, m1, m2, strD_len, idx_of hyx, hq]))
        | (simp (disch := omega) only [wrap_ok])
        | ((first
         | (refine hf.calls rfl ?_)
         | (refine (l01In_fn _ _ _).calls rfl ?_)
         | (refine (sIsName_fn _ sd).calls rfl ?_)
         | (refine ⟨sd, ?_⟩)
         | (refine ⟨by assumption, ?_⟩)) <;> (try simp only [go_sem, seval, m1, m2, strD_len, idx_of hyx]))
        | assumption)
       all_goals refine hnx ns (out ++ [63 :: dec (k : Nat)]) q1 (q2 + 1) _ ⟨i1, by dsimp only; omega, by dsimp only; rw [List.length_append]; dsimp only [List.length_cons, List.length_nil]; omega⟩ (by refine ⟨by simp [mkS, strD_append, strD_one], by simp [mkS, strD_append, strD_one], by simp only [mkS, List.all_cons, List.all_nil, O.refsLt, C.refsLt, C.refsLt1, all_dmap]; first | done | rfl | (simp; done), ?_⟩; simp [mkS, Abs.get, C.refsLtT, C.refsLt, C.refsLt1])
      ·have wk : IntKind.i64.wrap ((k : Int) + 1) = ((k + 1 : Nat) : Int) := by simp (disch := omega) only [wrap_ok]; omega
       refine run_sound Try.func34 mixed 200 _ _ (by kernel_rfl) ?_
       simp only [go_sem, seval, m1, strD_len, idx_of hyx, hxy, wk]
       repeat' (first
        | ((first | (refine br_n (fun hq => ?_) (fun hq => ?_)) | (refine idx_intro (fun x hx => have hq := hx; ?_))) <;> (try simp only [go_sem, seval, m1, strD_len, idx_of hyx, hxy, wk, hq]))
        | (simp (disch := omega) only [wrap_ok])
        | ((first
         | (refine (l01In_fn _ _ _).calls rfl ?_)
         | (refine (sIsName_fn _ sd).calls rfl ?_)
         | (refine ⟨sd, ?_⟩)
         | (refine ⟨by assumption, ?_⟩)) <;> (try simp only [go_sem, seval, m1, strD_len, idx_of hyx, hxy, wk]))
        | assumption)
       all_goals refine hnk (k + 1) _ ⟨hkl, fun i z hi hz => ?_⟩ (by omega) (by refine ⟨by simp [mkS], by simp [mkS], by simp only [mkS, List.all_cons, List.all_nil, O.refsLt, C.refsLt, C.refsLt1, all_dmap]; first | done | rfl | (simp; done), ?_⟩; simp [mkS, Abs.get, C.refsLtT, C.refsLt, C.refsLt1])
       rcases Nat.lt_succ_iff_lt_or_eq.1 hi with h' | rfl
       ·exact hk2 i z h' hz
       ·rw [hy] at hz; cases hz; exact hxy
     ·obtain rfl : k = ns.length := by omega
      have hKk : K = ns.length := by rw [← hK]; exact fidx_none ns (fun i z hz => hk2 i z (List.getElem?_eq_some_iff.1 hz).1 hz)
      have hmem : ¬ x ∈ ns := fun h => by
       obtain ⟨i, hi⟩ := List.getElem?_of_mem h
       exact hk2 i x (List.getElem?_eq_some_iff.1 hi).1 hi rfl
      rw [if_neg hmem, hKk] at i1
      have m1 : ¬ (ns.length : Int) < (ns.length : Int) := by omega
      have hf := formatN_fn ns.length (by omega)
      have hdl := dec_len (n := (ns.length : Int)) (by omega) (by omega)
      refine run_sound Try.func34 mixed 200 _ _ (by kernel_rfl) ?_
      simp only [go_sem, seval, m1, strD_len]
      repeat' (first
       | ((first | (refine br_n (fun hq => ?_) (fun hq => ?_)) | (refine idx_intro (fun x hx => have hq := hx; ?_))) <;> (try simp only [go_sem, seval, m1, strD_len, hq]))
       | (simp (disch := omega) only [wrap_ok])
       | ((first
        | (refine hf.calls rfl ?_)
        | (refine (l01In_fn _ _ _).calls rfl ?_)
        | (refine (sIsName_fn _ sd).calls rfl ?_)
        | (refine ⟨sd, ?_⟩)
        | (refine ⟨by assumption, ?_⟩)) <;> (try simp only [go_sem, seval, m1, strD_len]))
       | assumption)
      all_goals refine hnx (ns ++ [x]) (out ++ [63 :: dec (ns.length : Nat)]) (q1 + 1) (q2 + 1) _ ⟨i1, by dsimp only; rw [List.length_append]; dsimp only [List.length_cons, List.length_nil]; omega, by dsimp only; rw [List.length_append]; dsimp only [List.length_cons, List.length_nil]; omega⟩ (by refine ⟨by simp [mkS, strD_append, strD_one], by simp [mkS, strD_append, strD_one], by simp only [mkS, List.all_cons, List.all_nil, O.refsLt, C.refsLt, C.refsLt1, all_dmap]; first | done | rfl | (simp; done), ?_⟩; simp [mkS, Abs.get, C.refsLtT, C.refsLt, C.refsLt1])
    | false =>
     rw [hN] at hn hnb
     simp only [Bool.false_or, Bool.and_eq_true] at hnb
     obtain ⟨rfl, rfl⟩ := hnb
     refine run_sound Try.func34 mixed 200 _ _ (by kernel_rfl) ?_
     simp only [go_sem, seval, hlt, strD_len, idx_of hxx, g1, g2, g3, g5]
     repeat' (first
      | ((first | (refine br_n (fun hq => ?_) (fun hq => ?_)) | (refine idx_intro (fun x hx => have hq := hx; ?_))) <;> (try simp only [go_sem, seval, hlt, strD_len, idx_of hxx, g1, g2, g3, g5, hq]))
      | (simp (disch := omega) only [wrap_ok])
      | ((first
       | (refine hpg.calls rfl ?_)
       | (refine hn.calls rfl ?_)
       | (refine hn.callQ rfl ?_)
       | (refine hin.calls rfl ?_)
       | (refine hin.callQ rfl ?_)
       | (refine (l01In_fn _ _ _).calls rfl ?_)
       | (refine (sIsName_fn _ sd).calls rfl ?_)
       | (refine ⟨sd, ?_⟩)
       | (refine ⟨by assumption, ?_⟩)) <;> (try simp only [go_sem, seval, hlt, strD_len, idx_of hxx, g1, g2, g3, g5]))
      | assumption)
     refine AW.lp [5, 6, 8, 14, 15, 16] (fun k : Nat => [(11, .d (.int .i64 (k : Int)))]) (fun H _ => H) (fun k => k ≤ ns.length ∧ ∀ i y, i < k → ns[i]? = some y → y ≠ x) (fun k => ns.length - k) 0 ⟨Nat.zero_le _, fun i y hi => by omega⟩ (by refine ⟨by simp [mkS], by simp [mkS], by simp only [mkS, List.all_cons, List.all_nil, O.refsLt, C.refsLt, C.refsLt1, all_dmap]; first | done | rfl | (simp; done), ?_⟩; simp [mkS, Abs.get, C.refsLtT, C.refsLt, C.refsLt1]) ?_
     rintro k ⟨hk1, hk2⟩ hnk
     by_cases hkl : k < ns.length
     ·obtain ⟨y, hy⟩ : ∃ y, ns[k]? = some y := ⟨_, List.getElem?_eq_getElem hkl⟩
      have hyx := strD_at hy
      have m1 : (k : Int) < (ns.length : Int) := by omega
      by_cases hxy : y = x
      ·subst hxy
       have hKk : K = k := by rw [← hK]; exact fidx_some ns k hk2 hy
       have hmem : y ∈ ns := List.mem_of_getElem? hy
       rw [if_pos hmem, hKk] at i1
       have m2 : ¬ (k : Int) = (ns.length : Int) := by omega
       have hf := formatN_fn k (by omega)
       have hdl := dec_len (n := (k : Int)) (by omega) (by omega)
       refine run_sound Try.func34 mixed 200 _ _ (by kernel_rfl) ?_
       simp only [go_sem, seval, m1, m2, strD_len, idx_of hyx]
       repeat' (first
        | ((first | (refine br_n (fun hq => ?_) (fun hq => ?_)) | (refine idx_intro (fun x hx => have hq := hx; ?_))) <;> (try simp only [go_sem, seval, m1, m2, strD_len, idx_of hyx, hq]))
        | (simp (disch := omega) only [wrap_ok])
        | ((first
         | (refine hf.calls rfl ?_)
         | (refine (l01In_fn _ _ _).calls rfl ?_)
         | (refine (sIsName_fn _ sd).calls rfl ?_)
         | (refine ⟨sd, ?_⟩)
         | (refine ⟨by assumption, ?_⟩)) <;> (try simp only [go_sem, seval, m1, m2, strD_len, idx_of hyx]))
        | assumption)
       all_goals refine hnx ns (out ++ [63 :: dec (k : Nat)]) q1 (q2 + 1) _ ⟨i1, by dsimp only; omega, by dsimp only; rw [List.length_append]; dsimp only [List.length_cons, List.length_nil]; omega⟩ (by refine ⟨by simp [mkS, strD_append, strD_one], by simp [mkS, strD_append, strD_one], by simp only [mkS, List.all_cons, List.all_nil, O.refsLt, C.refsLt, C.refsLt1, all_dmap]; first | done | rfl | (simp; done), ?_⟩; simp [mkS, Abs.get, C.refsLtT, C.refsLt, C.refsLt1])
      ·have wk : IntKind.i64.wrap ((k : Int) + 1) = ((k + 1 : Nat) : Int) := by simp (disch := omega) only [wrap_ok]; omega
       refine run_sound Try.func34 mixed 200 _ _ (by kernel_rfl) ?_
       simp only [go_sem, seval, m1, strD_len, idx_of hyx, hxy, wk]
       repeat' (first
        | ((first | (refine br_n (fun hq => ?_) (fun hq => ?_)) | (refine idx_intro (fun x hx => have hq := hx; ?_))) <;> (try simp only [go_sem, seval, m1, strD_len, idx_of hyx, hxy, wk, hq]))
        | (simp (disch := omega) only [wrap_ok])
        | ((first
         | (refine (l01In_fn _ _ _).calls rfl ?_)
         | (refine (sIsName_fn _ sd).calls rfl ?_)
         | (refine ⟨sd, ?_⟩)
         | (refine ⟨by assumption, ?_⟩)) <;> (try simp only [go_sem, seval, m1, strD_len, idx_of hyx, hxy, wk]))
        | assumption)
       all_goals refine hnk (k + 1) _ ⟨hkl, fun i z hi hz => ?_⟩ (by omega) (by refine ⟨by simp [mkS], by simp [mkS], by simp only [mkS, List.all_cons, List.all_nil, O.refsLt, C.refsLt, C.refsLt1, all_dmap]; first | done | rfl | (simp; done), ?_⟩; simp [mkS, Abs.get, C.refsLtT, C.refsLt, C.refsLt1])
       rcases Nat.lt_succ_iff_lt_or_eq.1 hi with h' | rfl
       ·exact hk2 i z h' hz
       ·rw [hy] at hz; cases hz; exact hxy
     ·obtain rfl : k = ns.length := by omega
      have hKk : K = ns.length := by rw [← hK]; exact fidx_none ns (fun i z hz => hk2 i z (List.getElem?_eq_some_iff.1 hz).1 hz)
      have hmem : ¬ x ∈ ns := fun h => by
       obtain ⟨i, hi⟩ := List.getElem?_of_mem h
       exact hk2 i x (List.getElem?_eq_some_iff.1 hi).1 hi rfl
      rw [if_neg hmem, hKk] at i1
      have m1 : ¬ (ns.length : Int) < (ns.length : Int) := by omega
      have hf := formatN_fn ns.length (by omega)
      have hdl := dec_len (n := (ns.length : Int)) (by omega) (by omega)
      refine run_sound Try.func34 mixed 200 _ _ (by kernel_rfl) ?_
      simp only [go_sem, seval, m1, strD_len]
      repeat' (first
       | ((first | (refine br_n (fun hq => ?_) (fun hq => ?_)) | (refine idx_intro (fun x hx => have hq := hx; ?_))) <;> (try simp only [go_sem, seval, m1, strD_len, hq]))
       | (simp (disch := omega) only [wrap_ok])
       | ((first
        | (refine hf.calls rfl ?_)
        | (refine (l01In_fn _ _ _).calls rfl ?_)
        | (refine (sIsName_fn _ sd).calls rfl ?_)
        | (refine ⟨sd, ?_⟩)
        | (refine ⟨by assumption, ?_⟩)) <;> (try simp only [go_sem, seval, m1, strD_len]))
       | assumption)
      all_goals refine hnx (ns ++ [x]) (out ++ [63 :: dec (ns.length : Nat)]) (q1 + 1) (q2 + 1) _ ⟨i1, by dsimp only; rw [List.length_append]; dsimp only [List.length_cons, List.length_nil]; omega, by dsimp only; rw [List.length_append]; dsimp only [List.length_cons, List.length_nil]; omega⟩ (by refine ⟨by simp [mkS, strD_append, strD_one], by simp [mkS, strD_append, strD_one], by simp only [mkS, List.all_cons, List.all_nil, O.refsLt, C.refsLt, C.refsLt1, all_dmap]; first | done | rfl | (simp; done), ?_⟩; simp [mkS, Abs.get, C.refsLtT, C.refsLt, C.refsLt1])
   ·rw [if_neg hnb] at i1; cases i1
  ·have g2 : ¬ (((x[0]?).getD 0).toNat : Int) = 63 := by
    rw [g4]; exact fun h => h63 ((u8_is (n := 63) (by omega)).2 h)
   have g6 : ((((x[0]?).getD 0).toNat : Int) != 63) = true := by simp [g2]
   rw [if_pos (by rw [hhd]; intro h; exact h63 (Option.some.inj h))] at i1
   refine run_sound Try.func34 mixed 200 _ _ (by kernel_rfl) ?_
   simp only [go_sem, seval, hlt, strD_len, idx_of hxx, g1, g6]
   repeat' (first
    | ((first | (refine br_n (fun hq => ?_) (fun hq => ?_)) | (refine idx_intro (fun x hx => have hq := hx; ?_))) <;> (try simp only [go_sem, seval, hlt, strD_len, idx_of hxx, g1, g6, hq]))
    | (simp (disch := omega) only [wrap_ok])
    | ((first
     | (refine (l01In_fn _ _ _).calls rfl ?_)
     | (refine (sIsName_fn _ sd).calls rfl ?_)
     | (refine ⟨sd, ?_⟩)
     | (refine ⟨by assumption, ?_⟩)) <;> (try simp only [go_sem, seval, hlt, strD_len, idx_of hxx, g1, g6]))
    | assumption)
   all_goals refine hnx ns (out ++ [x]) q1 (q2 + 1) _ ⟨i1, by dsimp only; omega, by dsimp only; rw [List.length_append]; dsimp only [List.length_cons, List.length_nil]; omega⟩ (by refine ⟨by simp [mkS, strD_append, strD_one], by simp [mkS, strD_append, strD_one], by simp only [mkS, List.all_cons, List.all_nil, O.refsLt, C.refsLt, C.refsLt1, all_dmap]; first | done | rfl | (simp; done), ?_⟩; simp [mkS, Abs.get, C.refsLtT, C.refsLt, C.refsLt1])
 ·obtain ⟨ns, out, q1, q2⟩ := u
  obtain ⟨i1, i2, i3⟩ := hinv
  dsimp only at i1 i2 i3 ⊢
  simp only [nbT] at i1
  cases i1
  refine run_sound Try.func34 mixed 200 _ _ (by kernel_rfl) ?_
  simp only [go_sem, seval, strD_len]
  repeat' (first
   | ((first | (refine br_n (fun hq => ?_) (fun hq => ?_)) | (refine idx_intro (fun x hx => have hq := hx; ?_))) <;> (try simp only [go_sem, seval, strD_len, hq]))
   | (simp (disch := omega) only [wrap_ok])
   | ((first
    | (refine (l01In_fn _ _ _).calls rfl ?_)
    | (refine (sIsName_fn _ sd).calls rfl ?_)
    | (refine ⟨sd, ?_⟩)
    | (refine ⟨by assumption, ?_⟩)) <;> (try simp only [go_sem, seval, strD_len]))
   | assumption)
end Go.Proofs.Ytgmfoklmkpdjdaa
