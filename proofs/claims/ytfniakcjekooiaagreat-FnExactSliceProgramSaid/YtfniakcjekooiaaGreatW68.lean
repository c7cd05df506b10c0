import Derived.Test.YtfniakcjekooiaaGreatW67
namespace Go.Proofs.YtfniakcjekooiaaGreat
open Go.Abs
set_option maxRecDepth 100000
set_option maxHeartbeats 4000000
set_option linter.unusedSimpArgs false
set_option linter.unusedVariables false
theorem row_i2 {R : List (List Int)} {j : Nat} (hj : j < R.length) : (R.map encI2)[j]? = some [.sl (intsD (relRow R j))] := by
 have : R[j]? = some (relRow R j) := by
  unfold relRow; rw [Int.toNat_natCast, List.getD_eq_getElem?_getD, List.getElem?_eq_getElem hj]; rfl
 rw [List.getElem?_map, this]; rfl
theorem asc_nodup {l : List Int} (h : Asc l) : l.Nodup := by
 rw [List.nodup_iff_pairwise_ne]
 exact List.Pairwise.imp (fun {a b} hab => by omega) h
theorem l17Reach_R (p : Pg) (hw : wtL p.enc ≤ 1048576) (hs : ∀ r, r ∈ p.rels → r.body.shape = true) (hC : RelRows (cRows p)) (ha : ∀ r, r ∈ cRows p → Asc r) (hl8 : p.rels.length ≤ 8) : ACalls Tryz.prog 13 [.d (.agg p.enc)] [] (fun c H' => ∃ R, c = .d (.sl (R.map encI2)) ∧ Rnd (cRows p) R p.rels.length) := by
 have hmx : maxLen = 9223372036854775807 := rfl
 have hcb := l17Calls_B p hw hs
 rw [← cb_same p hs] at hcb
 have hcl := cRows_len p
 have hM : (p.rels.map fun r => p.rowI r.body) = cRows p := rfl
 rw [hM] at hcb
 generalize cRows p = M at *
 refine ACalls.enter (fn := Tryz.f13) Tryz.func13 rfl (by show 1 ≤ _; decide) ?_
 refine AW.hole ?_
 refine run_sound Tryz.func13 mixed 8 _ _ (by kernel_rfl) ?_
 simp only [go_sem, seval, run.eq_1]
 repeat' (first
  | ((first | (refine br_n (fun hq => ?_) (fun hq => ?_)) | (refine idx_intro (fun x hx => have hq := hx; ?_))) <;> (try simp only [go_sem, seval, run.eq_1, hq]))
  | (simp (disch := omega) only [wrap_ok])
  | ((first
   | (refine hcb.frame (X := [_]) rfl rfl ?_ <;> (rintro c H' ⟨rfl, rfl⟩ _))
   | (refine (l02Insert_fn _ _ (by assumption) sd).calls rfl ?_)
   | (refine ⟨sd, ?_⟩)
   | (refine ⟨by assumption, ?_⟩)) <;> (try simp only [go_sem, seval, run.eq_1]))
  | assumption)
 refine AW.rng p.rels [3, 15] 16 14 (fun R : List (List Int) => [(3, .own 0 1)]) (fun _ R => [.buf 1 1 37 (R.map encI2), .box (p.enc.map .d)]) (fun r R => ∃ t, t + r.length = p.rels.length ∧ Rnd M R t) M rfl (by simp) ⟨0, by simp, Rnd.init ha⟩ (by refine ⟨by simp [mkS], by simp [mkS], by simp only [mkS, List.all_cons, List.all_nil, O.refsLt, C.refsLt, C.refsLt1, all_dmap]; first | done | rfl | (simp; done), ?_⟩; simp [mkS, Abs.get, C.refsLtT, C.refsLt, C.refsLt1]) (fun i x r R hxi hdr hlt hm hinv hnext => ?_) (fun R hinv => ?_)
 ·obtain ⟨t, ht, hR⟩ := hinv
  have hRl := hR.len
  refine run_sound Tryz.func13 mixed 8 _ _ (by kernel_rfl) ?_
  simp only [go_sem, seval, run.eq_1, hlt]
  repeat' (first
   | ((first | (refine br_n (fun hq => ?_) (fun hq => ?_)) | (refine idx_intro (fun x hx => have hq := hx; ?_))) <;> (try simp only [go_sem, seval, hlt, run.eq_1, hq]))
   | (simp (disch := omega) only [wrap_ok])
   | ((first
    | (refine (l02Insert_fn _ _ (by assumption) sd).calls rfl ?_)
    | (refine ⟨sd, ?_⟩)
    | (refine ⟨by assumption, ?_⟩)) <;> (try simp only [go_sem, seval, hlt, run.eq_1]))
   | assumption)
  refine AW.regT ?_
  simp only [go_sem, seval, List.length_map, hRl]
  repeat' (first
   | ((first | (refine br_n (fun hq => ?_) (fun hq => ?_)) | (refine idx_intro (fun x hx => have hq := hx; ?_))) <;> (try simp only [go_sem, seval, List.length_map, hRl, hq]))
   | (simp (disch := omega) only [wrap_ok])
   | ((first
    | (refine (l02Insert_fn _ _ (by assumption) sd).calls rfl ?_)
    | (refine ⟨sd, ?_⟩)
    | (refine ⟨by assumption, ?_⟩)) <;> (try simp only [go_sem, seval, List.length_map, hRl]))
   | assumption)
  refine run_sound Tryz.func13 mixed 1 _ _ (by kernel_rfl) ?_
  simp only [go_sem, seval, run.eq_1]
  refine AW.lp [3, 15, 16, 18, 19] (fun u : Nat × List (List Int) => [(20, .d (.int .i64 u.1))]) (fun _ u => [.buf 1 1 37 (u.2.map encI2), .box (p.enc.map .d)]) (fun u => u.1 ≤ M.length ∧ Mid M u.2 t u.1) (fun u => M.length - u.1) (0, R) ⟨Nat.zero_le _, ⟨hR, fun j hj => by omega⟩⟩ (by refine ⟨by simp [mkS], by simp [mkS], by simp only [mkS, List.all_cons, List.all_nil, O.refsLt, C.refsLt, C.refsLt1, all_dmap]; first | done | rfl | (simp; done), ?_⟩; simp [mkS, Abs.get, C.refsLtT, C.refsLt, C.refsLt1]) ?_
  rintro ⟨j, R2⟩ ⟨hj, hmid⟩ hnx
  dsimp only at hj hmid hnx ⊢
  have hR2 := hmid.base.len
  by_cases h : j < M.length
  ·have hjt : (j : Int) < (M.length : Int) := by omega
   have hrj := row_i2 (R := R2) (j := j) (by omega)
   have hrow : ∀ j : Nat, j < M.length → Asc (relRow R2 j) ∧ (∀ k, k ∈ relRow R2 j → 0 ≤ k ∧ k < M.length) ∧ (relRow R2 j).length ≤ 8 := fun j hj => by
    have h1 : Asc (relRow R2 j) := by
     unfold relRow
     rw [List.getD_eq_getElem?_getD, Int.toNat_natCast, List.getElem?_eq_getElem (by omega)]
     exact hmid.base.asc _ (List.getElem_mem _)
    have h2 : ∀ k, k ∈ relRow R2 j → 0 ≤ k ∧ k < M.length := fun k hk => by
     obtain ⟨s, hs⟩ := hmid.base.sound j hj k hk
     exact Ws_range hC hs
    have h3 := int_nodup_le (n := M.length) (asc_nodup h1) h2
    exact ⟨h1, h2, by omega⟩
   obtain ⟨hja, hjr, hjl⟩ := hrow j h
   refine run_sound Tryz.func13 mixed 8 _ _ (by kernel_rfl) ?_
   simp only [go_sem, seval, run.eq_1, hjt]
   repeat' (first
    | ((first | (refine br_n (fun hq => ?_) (fun hq => ?_)) | (refine idx_intro (fun x hx => have hq := hx; ?_))) <;> (try simp only [go_sem, seval, hjt, run.eq_1, hq]))
    | (simp (disch := omega) only [wrap_ok])
    | ((first
     | (refine (l02Insert_fn _ _ (by assumption) sd).calls rfl ?_)
     | (refine ⟨sd, ?_⟩)
     | (refine ⟨by assumption, ?_⟩)) <;> (try simp only [go_sem, seval, hjt, run.eq_1]))
    | assumption)
   refine AW.regT ?_
   simp only [go_sem, seval, idx_of hrj, List.length_map, hR2, hjt]
   repeat' (first
    | ((first | (refine br_n (fun hq => ?_) (fun hq => ?_)) | (refine idx_intro (fun x hx => have hq := hx; ?_))) <;> (try simp only [go_sem, seval, idx_of hrj, List.length_map, hR2, hjt, hq]))
    | (simp (disch := omega) only [wrap_ok])
    | ((first
     | (refine (l02Insert_fn _ _ (by assumption) sd).calls rfl ?_)
     | (refine ⟨sd, ?_⟩)
     | (refine ⟨by assumption, ?_⟩)) <;> (try simp only [go_sem, seval, idx_of hrj, List.length_map, hR2, hjt]))
    | assumption)
   refine run_sound Tryz.func13 mixed 2 _ _ (by kernel_rfl) ?_
   simp only [go_sem, seval, run.eq_1]
   repeat' (first
    | ((first | (refine br_n (fun hq => ?_) (fun hq => ?_)) | (refine idx_intro (fun x hx => have hq := hx; ?_))) <;> (try simp only [go_sem, seval, run.eq_1, hq]))
    | (simp (disch := omega) only [wrap_ok])
    | ((first
     | (refine (l02Insert_fn _ _ (by assumption) sd).calls rfl ?_)
     | (refine ⟨sd, ?_⟩)
     | (refine ⟨by assumption, ?_⟩)) <;> (try simp only [go_sem, seval, run.eq_1]))
    | assumption)
   refine AW.readG 6 2 rfl rfl ?_
   refine run_sound Tryz.func13 mixed 4 _ _ (by kernel_rfl) ?_
   simp only [go_sem, seval, run.eq_1]
   repeat' (first
    | ((first | (refine br_n (fun hq => ?_) (fun hq => ?_)) | (refine idx_intro (fun x hx => have hq := hx; ?_))) <;> (try simp only [go_sem, seval, run.eq_1, hq]))
    | (simp (disch := omega) only [wrap_ok])
    | ((first
     | (refine (l02Insert_fn _ _ (by assumption) sd).calls rfl ?_)
     | (refine ⟨sd, ?_⟩)
     | (refine ⟨by assumption, ?_⟩)) <;> (try simp only [go_sem, seval, run.eq_1]))
    | assumption)
   refine AW.rng (relRow R2 j) [3, 4, 15, 16, 18, 19, 20, 28, 29] 30 28 (fun w : List Int => [(6, .d (.sl (intsD w)))]) (fun H _ => H) (fun s w => (s.flatMap fun k => relRow R2 k).foldl insA w = relNext R2 j ∧ Asc w ∧ ∀ x, x ∈ w → 0 ≤ x ∧ x < M.length) (relRow R2 j) rfl (by simp [intsD]) ⟨rfl, hja, hjr⟩ (by refine ⟨by simp [mkS], by simp [mkS], by simp only [mkS, List.all_cons, List.all_nil, O.refsLt, C.refsLt, C.refsLt1, all_dmap]; first | done | rfl | (simp; done), ?_⟩; simp [mkS, Abs.get, C.refsLtT, C.refsLt, C.refsLt1]) (fun i2 k s w hki hds2 hkt hm2 hinw hnxw => ?_) (fun w hinw => ?_)
   ·obtain ⟨w1, w2, w3⟩ := hinw
    have hkr := hjr k (List.mem_of_getElem? hki)
    obtain ⟨n, rfl⟩ : ∃ n : Nat, k = n := ⟨k.toNat, by omega⟩
    have hn : n < M.length := by omega
    have hnt : (n : Int) < (M.length : Int) := by omega
    have hrn := row_i2 (R := R2) (j := n) (by omega)
    obtain ⟨hna, hnr, hnl⟩ := hrow n hn
    simp only [List.flatMap_cons, List.foldl_append] at w1
    have hai := intsD_at hki
    refine run_sound Tryz.func13 mixed 10 _ _ (by kernel_rfl) ?_
    simp only [go_sem, seval, run.eq_1, hkt, idx_of hai]
    repeat' (first
     | ((first | (refine br_n (fun hq => ?_) (fun hq => ?_)) | (refine idx_intro (fun x hx => have hq := hx; ?_))) <;> (try simp only [go_sem, seval, hkt, idx_of hai, run.eq_1, hq]))
     | (simp (disch := omega) only [wrap_ok])
     | ((first
      | (refine (l02Insert_fn _ _ (by assumption) sd).calls rfl ?_)
      | (refine ⟨sd, ?_⟩)
      | (refine ⟨by assumption, ?_⟩)) <;> (try simp only [go_sem, seval, hkt, idx_of hai, run.eq_1]))
     | assumption)
    refine AW.regT ?_
    simp only [go_sem, seval, idx_of hrn, List.length_map, hR2, hnt]
    repeat' (first
     | ((first | (refine br_n (fun hq => ?_) (fun hq => ?_)) | (refine idx_intro (fun x hx => have hq := hx; ?_))) <;> (try simp only [go_sem, seval, idx_of hrn, List.length_map, hR2, hnt, hq]))
     | (simp (disch := omega) only [wrap_ok])
     | ((first
      | (refine (l02Insert_fn _ _ (by assumption) sd).calls rfl ?_)
      | (refine ⟨sd, ?_⟩)
      | (refine ⟨by assumption, ?_⟩)) <;> (try simp only [go_sem, seval, idx_of hrn, List.length_map, hR2, hnt]))
     | assumption)
    refine run_sound Tryz.func13 mixed 1 _ _ (by kernel_rfl) ?_
    simp only [go_sem, seval, run.eq_1]
    refine AW.rng (relRow R2 n) [3, 4, 15, 16, 18, 19, 20, 28, 29, 30, 37, 38] 39 37 (fun v : List Int => [(6, .d (.sl (intsD v)))]) (fun H _ => H) (fun s' v => s'.foldl insA v = (relRow R2 n).foldl insA w ∧ Asc v ∧ ∀ x, x ∈ v → 0 ≤ x ∧ x < M.length) w rfl (by simp [intsD]) ⟨rfl, w2, w3⟩ (by refine ⟨by simp [mkS], by simp [mkS], by simp only [mkS, List.all_cons, List.all_nil, O.refsLt, C.refsLt, C.refsLt1, all_dmap]; first | done | rfl | (simp; done), ?_⟩; simp [mkS, Abs.get, C.refsLtT, C.refsLt, C.refsLt1]) (fun i3 y s' v hyi hds3 hyt hm3 hinv3 hnx3 => ?_) (fun v hinv3 => ?_)
    ·obtain ⟨v1, v2, v3⟩ := hinv3
     have hyr := hnr y (List.mem_of_getElem? hyi)
     have hvl := int_nodup_le (n := M.length) (asc_nodup v2) v3
     have hbi := intsD_at hyi
     simp only [List.foldl_cons] at v1
     refine run_sound Tryz.func13 mixed 200 _ _ (by kernel_rfl) ?_
     simp only [go_sem, seval, hyt, idx_of hbi]
     repeat' (first
      | ((first | (refine br_n (fun hq => ?_) (fun hq => ?_)) | (refine idx_intro (fun x hx => have hq := hx; ?_))) <;> (try simp only [go_sem, seval, hyt, idx_of hbi, hq]))
      | (simp (disch := omega) only [wrap_ok])
      | ((first
       | (refine (l02Insert_fn v y v2 (by omega)).calls rfl ?_)
       | (refine (l02Insert_fn _ _ (by assumption) sd).calls rfl ?_)
       | (refine ⟨sd, ?_⟩)
       | (refine ⟨by assumption, ?_⟩)) <;> (try simp only [go_sem, seval, hyt, idx_of hbi]))
      | assumption)
     try simp (disch := omega) only [wrap_ok]
     refine hnx3 (insA v y) _ ⟨v1, insA_asc v2, fun x hx => ?_⟩ (by refine ⟨by simp [mkS], by simp [mkS], by simp only [mkS, List.all_cons, List.all_nil, O.refsLt, C.refsLt, C.refsLt1, all_dmap]; first | done | rfl | (simp; done), ?_⟩; simp [mkS, Abs.get, C.refsLtT, C.refsLt, C.refsLt1])
     rcases insA_mem.1 hx with rfl | hx
     ·exact hyr
     ·exact v3 x hx
    ·obtain ⟨v1, v2, v3⟩ := hinv3
     simp only [List.foldl_nil] at v1
     refine run_sound Tryz.func13 mixed 200 _ _ (by kernel_rfl) ?_
     simp only [go_sem, seval]
     try simp (disch := omega) only [wrap_ok]
     refine hnxw v _ ⟨by rw [v1]; exact w1, v2, v3⟩ (by refine ⟨by simp [mkS], by simp [mkS], by simp only [mkS, List.all_cons, List.all_nil, O.refsLt, C.refsLt, C.refsLt1, all_dmap]; first | done | rfl | (simp; done), ?_⟩; simp [mkS, Abs.get, C.refsLtT, C.refsLt, C.refsLt1])
   ·obtain ⟨w1, w2, w3⟩ := hinw
    simp only [List.flatMap_nil, List.foldl_nil] at w1
    subst w1
    refine run_sound Tryz.func13 mixed 5 _ _ (by kernel_rfl) ?_
    simp only [go_sem, seval, run.eq_1]
    repeat' (first
     | ((first | (refine br_n (fun hq => ?_) (fun hq => ?_)) | (refine idx_intro (fun x hx => have hq := hx; ?_))) <;> (try simp only [go_sem, seval, run.eq_1, hq]))
     | (simp (disch := omega) only [wrap_ok])
     | ((first
      | (refine (l02Insert_fn _ _ (by assumption) sd).calls rfl ?_)
      | (refine ⟨sd, ?_⟩)
      | (refine ⟨by assumption, ?_⟩)) <;> (try simp only [go_sem, seval, run.eq_1]))
     | assumption)
    refine AW.regT ?_
    simp only [go_sem, seval, List.length_map, hR2, hjt]
    repeat' (first
     | ((first | (refine br_n (fun hq => ?_) (fun hq => ?_)) | (refine idx_intro (fun x hx => have hq := hx; ?_))) <;> (try simp only [go_sem, seval, List.length_map, hR2, hjt, hq]))
     | (simp (disch := omega) only [wrap_ok])
     | ((first
      | (refine (l02Insert_fn _ _ (by assumption) sd).calls rfl ?_)
      | (refine ⟨sd, ?_⟩)
      | (refine ⟨by assumption, ?_⟩)) <;> (try simp only [go_sem, seval, List.length_map, hR2, hjt]))
     | assumption)
    refine run_sound Tryz.func13 mixed 200 _ _ (by kernel_rfl) ?_
    simp only [go_sem, seval]
    try simp (disch := omega) only [wrap_ok]
    have hst := hmid.step hC h
    have hj2 : R2[j]? = some (relRow R2 j) := by
     unfold relRow; rw [Int.toNat_natCast, List.getD_eq_getElem?_getD, List.getElem?_eq_getElem (by omega)]; rfl
    refine hnx (j + 1, R2.set j (relNext R2 j)) _ ⟨by dsimp only; omega, hst⟩ (by dsimp only; omega) (by refine ⟨by simp [mkS, List.map_set, encI2_eq, hj2], by simp [mkS, List.map_set, encI2_eq, hj2], by simp only [mkS, List.all_cons, List.all_nil, O.refsLt, C.refsLt, C.refsLt1, all_dmap]; first | done | rfl | (simp; done), ?_⟩; simp [mkS, Abs.get, C.refsLtT, C.refsLt, C.refsLt1, List.map_set, encI2_eq, hj2])
  ·obtain rfl : j = M.length := by omega
   refine run_sound Tryz.func13 mixed 200 _ _ (by kernel_rfl) ?_
   simp only [go_sem, seval]
   try simp (disch := omega) only [wrap_ok]
   refine hnext R2 _ ⟨t + 1, by simp only [List.length_cons] at ht; omega, hmid.done⟩ (by refine ⟨by simp [mkS], by simp [mkS], by simp only [mkS, List.all_cons, List.all_nil, O.refsLt, C.refsLt, C.refsLt1, all_dmap]; first | done | rfl | (simp; done), ?_⟩; simp [mkS, Abs.get, C.refsLtT, C.refsLt, C.refsLt1])
 ·obtain ⟨t, ht, hR⟩ := hinv
  simp only [List.length_nil, Nat.add_zero] at ht
  subst ht
  refine AW.freezeB 3 0 rfl rfl ?_
  refine run_sound Tryz.func13 mixed 200 _ _ (by kernel_rfl) ?_
  simp only [go_sem, seval]
  repeat' (first
   | (exact ⟨R, rfl, hR⟩)
   | ((first | (refine br_n (fun hq => ?_) (fun hq => ?_)) | (refine idx_intro (fun x hx => have hq := hx; ?_))) <;> (try simp only [go_sem, seval, hq]))
   | (simp (disch := omega) only [wrap_ok])
   | ((first
    | (refine (l02Insert_fn _ _ (by assumption) sd).calls rfl ?_)
    | (refine ⟨sd, ?_⟩)
    | (refine ⟨by assumption, ?_⟩)) <;> (try simp only [go_sem, seval]))
   | assumption)
end Go.Proofs.YtfniakcjekooiaaGreat
