import Derived.Test.YtfniakcjekooiaaGreatW8
import Derived.Test.YtfniakcjekooiaaGreatW14
import Derived.Test.YtfniakcjekooiaaGreatW69
namespace Go.Proofs.YtfniakcjekooiaaGreat
open Go.Abs
set_option maxRecDepth 100000
set_option maxHeartbeats 4000000
set_option linter.unusedSimpArgs false
set_option linter.unusedVariables false
theorem pgOk_bodies {p : Pg} (h : pgOk p = true) : ∀ r, r ∈ p.rels → r.body.shape = true := fun r hr => by
 unfold pgOk at h
 simp only [Bool.and_eq_true] at h
 obtain ⟨i, hi⟩ := okL_mem h.2 r hr
 exact relOk_shape hi
theorem copyProgram_T (p : Pg) (hw : wtL p.enc ≤ 1048576) (hs : ∀ r, r ∈ p.rels → r.body.shape = true) : ACalls Tryz.prog 19 [.d (.agg p.enc)] [.hole] (fun c H' => c = .agg [.own 0 1] ∧ ∃ e B, H' = [.tree 1 7 e (p.rels.map Rl.enc) B none]) := by
 have hmx : maxLen = 9223372036854775807 := rfl
 have hwr : ∀ r, r ∈ p.rels → wtL r.body.enc ≤ 1048576 := fun r hr => by
  have := Pg.wt_rels hr; have := Rl.wt_body r; omega
 have hlg0 : p.rels.length ≤ 1048576 := by
  have h1 : wtR (p.rels.map Rl.enc) ≤ 1048576 := by simpa only [Pg.enc_eq, wtL, D.wt, Nat.add_zero] using hw
  have := sumW_le (p.rels.map Rl.enc) 0; simp [sumW] at this; omega
 refine ACalls.enter (fn := Tryz.f19) Tryz.func19 rfl (by show 1 ≤ _; decide) ?_
 refine run_sound Tryz.func19 mixed 8 _ _ (by kernel_rfl) ?_
 simp only [go_sem, seval, run.eq_1]
 repeat' (first
  | ((first | (refine br_n (fun hq => ?_) (fun hq => ?_)) | (refine idx_intro (fun x hx => have hq := hx; ?_))) <;> (try simp only [go_sem, seval, run.eq_1, hq]))
  | (simp (disch := omega) only [wrap_ok])
  | ((first
   | (refine ⟨sd, ?_⟩)
   | (refine ⟨by assumption, ?_⟩)) <;> (try simp only [go_sem, seval, run.eq_1]))
  | assumption)
 refine AW.adoptTB 3 0 7 45 (by decide) rfl rfl ?_
 refine run_sound Tryz.func19 mixed 200 _ _ (by kernel_rfl) ?_
 simp only [go_sem, seval]
 repeat' (first
  | ((first | (refine br_n (fun hq => ?_) (fun hq => ?_)) | (refine idx_intro (fun x hx => have hq := hx; ?_))) <;> (try simp only [go_sem, seval, hq]))
  | (simp (disch := omega) only [wrap_ok])
  | ((first
   | (refine ⟨sd, ?_⟩)
   | (refine ⟨by assumption, ?_⟩)) <;> (try simp only [go_sem, seval]))
  | assumption)
 refine AW.rng p.rels [2, 3, 8, 9] 10 8 (fun q : List Rl × (Nat → Prop) => []) (fun _ q => [.hole, .box (p.enc.map .d), .box [.nil0], .box [.own 4 q.1.length], .tree q.1.length 7 45 (q.1.map Rl.enc) q.2 none]) (fun r q => q.1 ++ r = p.rels) ([], fun _ => False) rfl (by simp) rfl (by refine ⟨by simp [mkS], by simp [mkS], by simp only [mkS, List.all_cons, List.all_nil, O.refsLt, C.refsLt, C.refsLt1, all_dmap]; first | done | rfl | (simp; done), ?_⟩; simp [mkS, Abs.get, C.refsLtT, C.refsLt, C.refsLt1]) (fun i x r q hxi hdr hlt hm hinv hnext => ?_) (fun q hinv => ?_)
 ·have hxm := List.mem_of_getElem? hxi
  have hpl : q.1.length + (r.length + 1) = p.rels.length := by rw [← hinv]; simp
  have hx := copyGoal_T x.body (hwr x hxm) (hs x hxm)
  unfold cpG at hx
  refine AW.hole ?_
  refine AW.hole ?_
  refine run_sound Tryz.func19 mixed 9 _ _ (by kernel_rfl) ?_
  simp only [go_sem, seval, run.eq_1, hlt, idx_of hxi]
  repeat' (first
   | ((first | (refine br_n (fun hq => ?_) (fun hq => ?_)) | (refine idx_intro (fun x hx => have hq := hx; ?_))) <;> (try simp only [go_sem, seval, hlt, idx_of hxi, run.eq_1, hq]))
   | (simp (disch := omega) only [wrap_ok])
   | ((first
    | (refine ⟨sd, ?_⟩)
    | (refine ⟨by assumption, ?_⟩)) <;> (try simp only [go_sem, seval, hlt, idx_of hxi, run.eq_1]))
   | assumption)
  refine AW.drawA mixed #[true, true, true, true, true, true, true, true, true, true, true, true, true, true, false, false] [(3, .box [.own 4 q.1.length]), (7, .box (x.enc.map .d))] [] [0, 1, 2, 3, 4, 5, 6, 7, 8, 9, 10, 11, 12, 13] [14, 15] none (by kernel_rfl) trivial (by simp [holdsB]) ?_
  simp only [go_sem, seval]
  repeat' (first
   | ((first | (refine br_n (fun hq => ?_) (fun hq => ?_)) | (refine idx_intro (fun x hx => have hq := hx; ?_))) <;> (try simp only [go_sem, seval, hq]))
   | (simp (disch := omega) only [wrap_ok])
   | ((first
    | (refine ACalls.fresh (ds := [.agg x.body.enc]) (m := 2) hx [5, 6] rfl rfl (by simp) (by simp) ?_ <;> (rintro c H' ⟨rfl, e2, B2, e3, B3, rfl⟩ _; refine ⟨rfl, rfl, ?_⟩))
    | (refine all_intro (fun Bz => ?_))
    | (refine ⟨sd, ?_⟩)
    | (refine ⟨by assumption, ?_⟩)) <;> (try simp only [go_sem, seval]))
   | assumption)
  refine run_sound Tryz.func19 mixed 200 _ _ (by kernel_rfl) ?_
  simp only [go_sem, seval]
  try simp (disch := omega) only [wrap_ok]
  refine hnext (q.1 ++ [x], Bz) _ (by simp [← hinv]) (by refine ⟨by simp [mkS, Rl.enc_eq x], by simp [mkS, Rl.enc_eq x], by simp only [mkS, List.all_cons, List.all_nil, O.refsLt, C.refsLt, C.refsLt1, all_dmap]; first | done | rfl | (simp; done), ?_⟩; simp [mkS, Abs.get, C.refsLtT, C.refsLt, C.refsLt1])
 ·simp only [List.append_nil] at hinv
  rw [hinv]
  refine run_sound Tryz.func19 mixed 7 _ _ (by kernel_rfl) ?_
  simp only [go_sem, seval, run.eq_1]
  repeat' (first
   | ((first | (refine br_n (fun hq => ?_) (fun hq => ?_)) | (refine idx_intro (fun x hx => have hq := hx; ?_))) <;> (try simp only [go_sem, seval, run.eq_1, hq]))
   | (simp (disch := omega) only [wrap_ok])
   | ((first
    | (refine ⟨sd, ?_⟩)
    | (refine ⟨by assumption, ?_⟩)) <;> (try simp only [go_sem, seval, run.eq_1]))
   | assumption)
  refine AW.placeB 2 0 4 0 rfl rfl rfl rfl (by decide) ?_
  refine run_sound Tryz.func19 mixed 200 _ _ (by kernel_rfl) ?_
  simp only [go_sem, seval]
  repeat' (first
   | (exact ⟨_, _, rfl⟩)
   | ((first | (refine br_n (fun hq => ?_) (fun hq => ?_)) | (refine idx_intro (fun x hx => have hq := hx; ?_))) <;> (try simp only [go_sem, seval, hq]))
   | (simp (disch := omega) only [wrap_ok])
   | ((first
    | (refine ⟨sd, ?_⟩)
    | (refine ⟨by assumption, ?_⟩)) <;> (try simp only [go_sem, seval]))
   | assumption)
def pickL (f : Nat → Bool) : Nat → List Rl → List Rl
 | _, [] => []
 | i, x :: r => if f i = true then x :: pickL f (i + 1) r else pickL f (i + 1) r
theorem pickL_wt (f : Nat → Bool) : ∀ (l : List Rl) (i : Nat), wtR ((pickL f i l).map Rl.enc) ≤ wtR (l.map Rl.enc)
 | [], i => by simp [pickL]
 | x :: r, i => by
  have := pickL_wt f r (i + 1)
  simp only [pickL]
  split <;> simp only [List.map_cons, wtR] <;> omega
def slF (p : Pg) (s : List UInt8) (i : Nat) : Bool := decide ((i : Int) = p.find s) || rc (cRows p) (p.find s) i
def slB (p : Pg) (s : List UInt8) : Bool := pgOk p && decide (0 ≤ p.find s)
def slL (p : Pg) (s : List UInt8) : List Rl := if slB p s = true then pickL (slF p s) 0 p.rels else []
def anyR : List D := List.replicate 7 .any
theorem iSliceProgram_T (p : Pg) (s : List UInt8) (hw : wtL p.enc ≤ 1048576) : ACalls Tryz.prog 7 [.d (.agg p.enc), .d (.str s)] [.hole] (fun c H' => c = .tup [.agg [.own 0 1], .d (.bool (slB p s))] ∧ ∃ e B, H' = [.tree 1 7 e ((slL p s).map Rl.enc) B none]) := by
 have hmx : maxLen = 9223372036854775807 := rfl
 have hfr := iFindRel_fn p s hw
 unfold slL
 by_cases hp : pgOk p = true
 ·obtain ⟨hC, ha, h8⟩ := cRows_ok hp
  have hR := reach_R p hw hC h8
  have hcl := cRows_len p
  rw [if_pos hp] at hfr
  by_cases h0 : 0 ≤ p.find s
  ·have hrg := p.find_range s
   obtain ⟨n, hn⟩ : ∃ n : Nat, p.find s = n := ⟨(p.find s).toNat, by omega⟩
   have hok : slB p s = true := by unfold slB; rw [hp, hn]; simp
   have hsf : ∀ i, slF p s i = (decide ((i : Int) = n) || rc (cRows p) n i) := fun i => by unfold slF; rw [hn]
   rw [if_pos hok, hok]
   rw [hn] at hfr
   have hnn : ¬ (n : Int) < 0 := by omega
   have hcp := copyProgram_T p hw (pgOk_bodies hp)
   refine ACalls.enter (fn := Tryz.f7) Tryz.func7 rfl (by show 2 ≤ _; decide) ?_
   refine AW.hole ?_
   refine run_sound Tryz.func7 mixed 18 _ _ (by kernel_rfl) ?_
   simp only [go_sem, seval, run.eq_1, hnn]
   repeat' (first
    | ((first | (refine br_n (fun hq => ?_) (fun hq => ?_)) | (refine idx_intro (fun x hx => have hq := hx; ?_))) <;> (try simp only [go_sem, seval, hnn, run.eq_1, hq]))
    | (simp (disch := omega) only [wrap_ok])
    | ((first
     | (refine hfr.calls rfl ?_)
     | (refine hR.frame (X := [_, _, _, _]) rfl rfl ?_ <;> (rintro c H' ⟨L, rfl, hL1, hL2⟩ hH0; obtain rfl := List.eq_nil_of_length_eq_zero hH0))
     | (refine ACalls.fresh (ds := [.agg p.enc]) (m := 1) hcp [1] rfl rfl (by simp) (by simp) ?_ <;> (rintro c H' ⟨rfl, e1, B1, rfl⟩ _; refine ⟨rfl, rfl, ?_⟩))
     | (refine (iFindRel_fn _ _ sd).calls rfl ?_)
     | (refine ⟨sd, ?_⟩)
     | (refine ⟨by assumption, ?_⟩)) <;> (try simp only [go_sem, seval, hnn, run.eq_1]))
    | assumption)
   have hE : ∀ x, encF x = [.fset x] := fun _ => rfl
   try simp only [go_sem, seval, hE]
   repeat' (first
    | ((first | (refine br_n (fun hq => ?_) (fun hq => ?_)) | (refine idx_intro (fun x hx => have hq := hx; ?_))) <;> (try simp only [go_sem, seval, hE, run.eq_1, hq]))
    | (simp (disch := omega) only [wrap_ok])
    | ((first
     | (refine ACalls.fresh (ds := [.agg p.enc]) (m := 1) hcp [1] rfl rfl (by simp) (by simp) ?_ <;> (rintro c H' ⟨rfl, e1, B1, rfl⟩ _; refine ⟨rfl, rfl, ?_⟩))
     | (refine (iFindRel_fn _ _ sd).calls rfl ?_)
     | (refine ⟨sd, ?_⟩)
     | (refine ⟨by assumption, ?_⟩)) <;> (try simp only [go_sem, seval, hE, run.eq_1]))
    | assumption)
   have hLn := hL2 n _ hx
   refine AW.adoptTB 4 0 7 45 (by decide) rfl rfl ?_
   refine run_sound Tryz.func7 mixed 1 _ _ (by kernel_rfl) ?_
   simp only [go_sem, seval, run.eq_1]
   refine AW.lp [4, 6, 7, 8, 25, 26] (fun u : Nat × List Rl × (Nat → Prop) × (Nat → Prop) => [(27, .d (.int .i64 u.1))]) (fun _ u => [.hole, .tree 1 7 e1 (List.replicate u.1 anyR ++ (p.rels.drop u.1).map Rl.enc) u.2.2.1 none, .box (p.enc.map .d), .box [.nil0], .box [.own 5 u.2.1.length], .tree u.2.1.length 7 45 (u.2.1.map Rl.enc) u.2.2.2 none]) (fun u => u.1 ≤ p.rels.length ∧ u.2.1.length ≤ u.1 ∧ u.2.1 ++ pickL (slF p s) u.1 (p.rels.drop u.1) = pickL (slF p s) 0 p.rels) (fun u => p.rels.length - u.1) (0, [], B1, fun _ => False) ⟨Nat.zero_le _, Nat.le_refl _, rfl⟩ (by refine ⟨by simp [mkS], by simp [mkS], by simp only [mkS, List.all_cons, List.all_nil, O.refsLt, C.refsLt, C.refsLt1, all_dmap]; first | done | rfl | (simp; done), ?_⟩; simp [mkS, Abs.get, C.refsLtT, C.refsLt, C.refsLt1]) ?_
   rintro ⟨i, L', B3, B4⟩ ⟨hi, hil, hinv⟩ hnext
   dsimp only at hi hil hinv hnext ⊢
   by_cases h : i < p.rels.length
   ·have hlt : (i : Int) < (p.rels.length : Int) := by omega
    have hd : p.rels.drop i = p.rels[i] :: p.rels.drop (i + 1) := List.drop_eq_getElem_cons h
    have hpk : pickL (slF p s) i (p.rels.drop i) = if slF p s i = true then p.rels[i] :: pickL (slF p s) (i + 1) (p.rels.drop (i + 1)) else pickL (slF p s) (i + 1) (p.rels.drop (i + 1)) := by rw [hd]; rfl
    rw [hpk] at hinv
    have hll : (List.replicate i anyR ++ (Rl.enc p.rels[i]) :: (p.rels.drop (i + 1)).map Rl.enc).length = p.rels.length := by simp; omega
    have hai : (List.replicate i anyR).length = i := by simp
    have hrs : List.replicate (i + 1) anyR = List.replicate i anyR ++ [anyR] := List.replicate_succ'
    have hnx := fun L B B' s' => hnext (i + 1, L, B, B') s'
    clear hnext
    simp only [hrs, List.append_assoc, List.cons_append, List.nil_append] at hnx
    rw [hd, List.map_cons]
    generalize hy : p.rels[i] = y at *
    generalize hA : List.replicate i anyR = A at *
    generalize hZ : (p.rels.drop (i + 1)).map Rl.enc = Z at *
    have s2 := fun (y y' : List D) => set_split (x := y) (y := y') (r := Z) hai
    have g1 := fun (y : List D) => at_split (x := y) (r := Z) hai
    have g2 := fun (y : List D) (Q : List D → Prop) => idx_of (g1 y) Q
    have hll2 : A.length + (Z.length + 1) = p.rels.length := by simpa using hll
    have hB : decide ((i : Int) ∈ x) = rc (cRows p) n i := by rw [Bool.eq_iff_iff, decide_eq_true_eq]; exact hLn i
    have hfi := hsf i
    refine run_sound Tryz.func7 mixed 8 _ _ (by kernel_rfl) ?_
    simp only [go_sem, seval, run.eq_1, hlt, hll]
    repeat' (first
     | ((first | (refine br_n (fun hq => ?_) (fun hq => ?_)) | (refine idx_intro (fun x hx => have hq := hx; ?_))) <;> (try simp only [go_sem, seval, hlt, hll, run.eq_1, hq]))
     | (simp (disch := omega) only [wrap_ok])
     | ((first
      | (refine (iFindRel_fn _ _ sd).calls rfl ?_)
      | (refine ⟨sd, ?_⟩)
      | (refine ⟨by assumption, ?_⟩)) <;> (try simp only [go_sem, seval, hlt, hll, run.eq_1]))
     | assumption)
    refine AW.regM ?_
    simp only [go_sem, seval, hll, s2, g1, g2, Rl.enc_eq y]
    refine ⟨by omega, by omega, fun B' => ⟨fun k1 => ⟨fun k2 => ?_, fun k2 zk2 e2 B2 => ?_⟩, fun k1 zk1 e1' B1' => ⟨fun k2 => ?_, fun k2 zk2 e2 B2 => ?_⟩⟩⟩
    ·by_cases hik : (i : Int) = n
     ·have hf : slF p s i = true := by rw [hfi, hik]; simp
      rw [if_pos hf] at hinv
      have hike : decide ((i : Int) = n) = true := by simp [hik]
      refine run_sound Tryz.func7 mixed 3 _ _ (by kernel_rfl) ?_
      simp only [go_sem, seval, run.eq_1, hike]
      repeat' (first
       | ((first | (refine br_n (fun hq => ?_) (fun hq => ?_)) | (refine idx_intro (fun x hx => have hq := hx; ?_))) <;> (try simp only [go_sem, seval, hike, run.eq_1, hq]))
       | (simp (disch := omega) only [wrap_ok])
       | ((first
        | (refine (iFindRel_fn _ _ sd).calls rfl ?_)
        | (refine ⟨sd, ?_⟩)
        | (refine ⟨by assumption, ?_⟩)) <;> (try simp only [go_sem, seval, hike, run.eq_1]))
       | assumption)
      refine AW.regT ?_
      simp only [go_sem, seval]
      repeat' (first
       | ((first | (refine br_n (fun hq => ?_) (fun hq => ?_)) | (refine idx_intro (fun x hx => have hq := hx; ?_))) <;> (try simp only [go_sem, seval, hq]))
       | (simp (disch := omega) only [wrap_ok])
       | ((first
        | (refine all_intro (fun Bz => ?_))
        | (refine (iFindRel_fn _ _ sd).calls rfl ?_)
        | (refine ⟨sd, ?_⟩)
        | (refine ⟨by assumption, ?_⟩)) <;> (try simp only [go_sem, seval]))
       | assumption)
      refine run_sound Tryz.func7 mixed 200 _ _ (by kernel_rfl) ?_
      simp only [go_sem, seval]
      try simp (disch := omega) only [wrap_ok]
      refine hnx (L' ++ [y]) B' Bz _ ⟨by omega, by simp; omega, by simpa using hinv⟩ (by omega) (by refine ⟨by simp [mkS, Rl.enc_eq y, k1, k2, anyR], by simp [mkS, Rl.enc_eq y, k1, k2, anyR], by simp only [mkS, List.all_cons, List.all_nil, O.refsLt, C.refsLt, C.refsLt1, all_dmap]; first | done | rfl | (simp; done), ?_⟩; simp [mkS, Abs.get, C.refsLtT, C.refsLt, C.refsLt1])
     ·have hike : decide ((i : Int) = n) = false := by simp [hik]
      cases hrc : rc (cRows p) n i with
      | true =>
       have hf : slF p s i = true := by rw [hfi, hrc]; simp
       rw [if_pos hf] at hinv
       rw [hrc] at hB
       refine run_sound Tryz.func7 mixed 3 _ _ (by kernel_rfl) ?_
       simp only [go_sem, seval, run.eq_1, hike, hB]
       repeat' (first
        | ((first | (refine br_n (fun hq => ?_) (fun hq => ?_)) | (refine idx_intro (fun x hx => have hq := hx; ?_))) <;> (try simp only [go_sem, seval, hike, hB, run.eq_1, hq]))
        | (simp (disch := omega) only [wrap_ok])
        | ((first
         | (refine (iFindRel_fn _ _ sd).calls rfl ?_)
         | (refine ⟨sd, ?_⟩)
         | (refine ⟨by assumption, ?_⟩)) <;> (try simp only [go_sem, seval, hike, hB, run.eq_1]))
        | assumption)
       refine AW.regT ?_
       simp only [go_sem, seval]
       repeat' (first
        | ((first | (refine br_n (fun hq => ?_) (fun hq => ?_)) | (refine idx_intro (fun x hx => have hq := hx; ?_))) <;> (try simp only [go_sem, seval, hq]))
        | (simp (disch := omega) only [wrap_ok])
        | ((first
         | (refine all_intro (fun Bz => ?_))
         | (refine (iFindRel_fn _ _ sd).calls rfl ?_)
         | (refine ⟨sd, ?_⟩)
         | (refine ⟨by assumption, ?_⟩)) <;> (try simp only [go_sem, seval]))
        | assumption)
       refine run_sound Tryz.func7 mixed 200 _ _ (by kernel_rfl) ?_
       simp only [go_sem, seval]
       try simp (disch := omega) only [wrap_ok]
       refine hnx (L' ++ [y]) B' Bz _ ⟨by omega, by simp; omega, by simpa using hinv⟩ (by omega) (by refine ⟨by simp [mkS, Rl.enc_eq y, k1, k2, anyR], by simp [mkS, Rl.enc_eq y, k1, k2, anyR], by simp only [mkS, List.all_cons, List.all_nil, O.refsLt, C.refsLt, C.refsLt1, all_dmap]; first | done | rfl | (simp; done), ?_⟩; simp [mkS, Abs.get, C.refsLtT, C.refsLt, C.refsLt1])
      | false =>
       have hf : ¬ slF p s i = true := by rw [hfi, hrc, hike]; simp
       rw [if_neg hf] at hinv
       rw [hrc] at hB
       refine run_sound Tryz.func7 mixed 200 _ _ (by kernel_rfl) ?_
       simp only [go_sem, seval, hike, hB]
       repeat' (first
        | ((first | (refine br_n (fun hq => ?_) (fun hq => ?_)) | (refine idx_intro (fun x hx => have hq := hx; ?_))) <;> (try simp only [go_sem, seval, hike, hB, hq]))
        | (simp (disch := omega) only [wrap_ok])
        | ((first
         | (refine (iFindRel_fn _ _ sd).calls rfl ?_)
         | (refine ⟨sd, ?_⟩)
         | (refine ⟨by assumption, ?_⟩)) <;> (try simp only [go_sem, seval, hike, hB]))
        | assumption)
       try simp (disch := omega) only [wrap_ok]
       refine hnx L' B' B4 _ ⟨by omega, by omega, hinv⟩ (by omega) (by refine ⟨by simp [mkS, anyR], by simp [mkS, anyR], by simp only [mkS, List.all_cons, List.all_nil, O.refsLt, C.refsLt, C.refsLt1, all_dmap]; first | done | rfl | (simp; done), ?_⟩; simp [mkS, Abs.get, C.refsLtT, C.refsLt, C.refsLt1])
    ·by_cases hik : (i : Int) = n
     ·have hf : slF p s i = true := by rw [hfi, hik]; simp
      rw [if_pos hf] at hinv
      have hike : decide ((i : Int) = n) = true := by simp [hik]
      refine run_sound Tryz.func7 mixed 3 _ _ (by kernel_rfl) ?_
      simp only [go_sem, seval, run.eq_1, hike]
      repeat' (first
       | ((first | (refine br_n (fun hq => ?_) (fun hq => ?_)) | (refine idx_intro (fun x hx => have hq := hx; ?_))) <;> (try simp only [go_sem, seval, hike, run.eq_1, hq]))
       | (simp (disch := omega) only [wrap_ok])
       | ((first
        | (refine (iFindRel_fn _ _ sd).calls rfl ?_)
        | (refine ⟨sd, ?_⟩)
        | (refine ⟨by assumption, ?_⟩)) <;> (try simp only [go_sem, seval, hike, run.eq_1]))
       | assumption)
      refine AW.regT ?_
      simp only [go_sem, seval]
      repeat' (first
       | ((first | (refine br_n (fun hq => ?_) (fun hq => ?_)) | (refine idx_intro (fun x hx => have hq := hx; ?_))) <;> (try simp only [go_sem, seval, hq]))
       | (simp (disch := omega) only [wrap_ok])
       | ((first
        | (refine all_intro (fun Bz => ?_))
        | (refine (iFindRel_fn _ _ sd).calls rfl ?_)
        | (refine ⟨sd, ?_⟩)
        | (refine ⟨by assumption, ?_⟩)) <;> (try simp only [go_sem, seval]))
       | assumption)
      refine run_sound Tryz.func7 mixed 200 _ _ (by kernel_rfl) ?_
      simp only [go_sem, seval]
      try simp (disch := omega) only [wrap_ok]
      refine hnx (L' ++ [y]) B' Bz _ ⟨by omega, by simp; omega, by simpa using hinv⟩ (by omega) (by refine ⟨by simp [mkS, Rl.enc_eq y, k1, k2, anyR], by simp [mkS, Rl.enc_eq y, k1, k2, anyR], by simp only [mkS, List.all_cons, List.all_nil, O.refsLt, C.refsLt, C.refsLt1, all_dmap]; first | done | rfl | (simp; done), ?_⟩; simp [mkS, Abs.get, C.refsLtT, C.refsLt, C.refsLt1])
     ·have hike : decide ((i : Int) = n) = false := by simp [hik]
      cases hrc : rc (cRows p) n i with
      | true =>
       have hf : slF p s i = true := by rw [hfi, hrc]; simp
       rw [if_pos hf] at hinv
       rw [hrc] at hB
       refine run_sound Tryz.func7 mixed 3 _ _ (by kernel_rfl) ?_
       simp only [go_sem, seval, run.eq_1, hike, hB]
       repeat' (first
        | ((first | (refine br_n (fun hq => ?_) (fun hq => ?_)) | (refine idx_intro (fun x hx => have hq := hx; ?_))) <;> (try simp only [go_sem, seval, hike, hB, run.eq_1, hq]))
        | (simp (disch := omega) only [wrap_ok])
        | ((first
         | (refine (iFindRel_fn _ _ sd).calls rfl ?_)
         | (refine ⟨sd, ?_⟩)
         | (refine ⟨by assumption, ?_⟩)) <;> (try simp only [go_sem, seval, hike, hB, run.eq_1]))
        | assumption)
       refine AW.regT ?_
       simp only [go_sem, seval]
       repeat' (first
        | ((first | (refine br_n (fun hq => ?_) (fun hq => ?_)) | (refine idx_intro (fun x hx => have hq := hx; ?_))) <;> (try simp only [go_sem, seval, hq]))
        | (simp (disch := omega) only [wrap_ok])
        | ((first
         | (refine all_intro (fun Bz => ?_))
         | (refine (iFindRel_fn _ _ sd).calls rfl ?_)
         | (refine ⟨sd, ?_⟩)
         | (refine ⟨by assumption, ?_⟩)) <;> (try simp only [go_sem, seval]))
        | assumption)
       refine run_sound Tryz.func7 mixed 200 _ _ (by kernel_rfl) ?_
       simp only [go_sem, seval]
       try simp (disch := omega) only [wrap_ok]
       refine hnx (L' ++ [y]) B' Bz _ ⟨by omega, by simp; omega, by simpa using hinv⟩ (by omega) (by refine ⟨by simp [mkS, Rl.enc_eq y, k1, k2, anyR], by simp [mkS, Rl.enc_eq y, k1, k2, anyR], by simp only [mkS, List.all_cons, List.all_nil, O.refsLt, C.refsLt, C.refsLt1, all_dmap]; first | done | rfl | (simp; done), ?_⟩; simp [mkS, Abs.get, C.refsLtT, C.refsLt, C.refsLt1])
      | false =>
       have hf : ¬ slF p s i = true := by rw [hfi, hrc, hike]; simp
       rw [if_neg hf] at hinv
       rw [hrc] at hB
       refine run_sound Tryz.func7 mixed 200 _ _ (by kernel_rfl) ?_
       simp only [go_sem, seval, hike, hB]
       repeat' (first
        | ((first | (refine br_n (fun hq => ?_) (fun hq => ?_)) | (refine idx_intro (fun x hx => have hq := hx; ?_))) <;> (try simp only [go_sem, seval, hike, hB, hq]))
        | (simp (disch := omega) only [wrap_ok])
        | ((first
         | (refine (iFindRel_fn _ _ sd).calls rfl ?_)
         | (refine ⟨sd, ?_⟩)
         | (refine ⟨by assumption, ?_⟩)) <;> (try simp only [go_sem, seval, hike, hB]))
        | assumption)
       try simp (disch := omega) only [wrap_ok]
       refine hnx L' B' B4 _ ⟨by omega, by omega, hinv⟩ (by omega) (by refine ⟨by simp [mkS, anyR], by simp [mkS, anyR], by simp only [mkS, List.all_cons, List.all_nil, O.refsLt, C.refsLt, C.refsLt1, all_dmap]; first | done | rfl | (simp; done), ?_⟩; simp [mkS, Abs.get, C.refsLtT, C.refsLt, C.refsLt1])
    ·by_cases hik : (i : Int) = n
     ·have hf : slF p s i = true := by rw [hfi, hik]; simp
      rw [if_pos hf] at hinv
      have hike : decide ((i : Int) = n) = true := by simp [hik]
      refine run_sound Tryz.func7 mixed 3 _ _ (by kernel_rfl) ?_
      simp only [go_sem, seval, run.eq_1, hike]
      repeat' (first
       | ((first | (refine br_n (fun hq => ?_) (fun hq => ?_)) | (refine idx_intro (fun x hx => have hq := hx; ?_))) <;> (try simp only [go_sem, seval, hike, run.eq_1, hq]))
       | (simp (disch := omega) only [wrap_ok])
       | ((first
        | (refine (iFindRel_fn _ _ sd).calls rfl ?_)
        | (refine ⟨sd, ?_⟩)
        | (refine ⟨by assumption, ?_⟩)) <;> (try simp only [go_sem, seval, hike, run.eq_1]))
       | assumption)
      refine AW.regT ?_
      simp only [go_sem, seval]
      repeat' (first
       | ((first | (refine br_n (fun hq => ?_) (fun hq => ?_)) | (refine idx_intro (fun x hx => have hq := hx; ?_))) <;> (try simp only [go_sem, seval, hq]))
       | (simp (disch := omega) only [wrap_ok])
       | ((first
        | (refine all_intro (fun Bz => ?_))
        | (refine (iFindRel_fn _ _ sd).calls rfl ?_)
        | (refine ⟨sd, ?_⟩)
        | (refine ⟨by assumption, ?_⟩)) <;> (try simp only [go_sem, seval]))
       | assumption)
      refine run_sound Tryz.func7 mixed 200 _ _ (by kernel_rfl) ?_
      simp only [go_sem, seval]
      try simp (disch := omega) only [wrap_ok]
      refine hnx (L' ++ [y]) B' Bz _ ⟨by omega, by simp; omega, by simpa using hinv⟩ (by omega) (by refine ⟨by simp [mkS, Rl.enc_eq y, k1, k2, anyR], by simp [mkS, Rl.enc_eq y, k1, k2, anyR], by simp only [mkS, List.all_cons, List.all_nil, O.refsLt, C.refsLt, C.refsLt1, all_dmap]; first | done | rfl | (simp; done), ?_⟩; simp [mkS, Abs.get, C.refsLtT, C.refsLt, C.refsLt1])
     ·have hike : decide ((i : Int) = n) = false := by simp [hik]
      cases hrc : rc (cRows p) n i with
      | true =>
       have hf : slF p s i = true := by rw [hfi, hrc]; simp
       rw [if_pos hf] at hinv
       rw [hrc] at hB
       refine run_sound Tryz.func7 mixed 3 _ _ (by kernel_rfl) ?_
       simp only [go_sem, seval, run.eq_1, hike, hB]
       repeat' (first
        | ((first | (refine br_n (fun hq => ?_) (fun hq => ?_)) | (refine idx_intro (fun x hx => have hq := hx; ?_))) <;> (try simp only [go_sem, seval, hike, hB, run.eq_1, hq]))
        | (simp (disch := omega) only [wrap_ok])
        | ((first
         | (refine (iFindRel_fn _ _ sd).calls rfl ?_)
         | (refine ⟨sd, ?_⟩)
         | (refine ⟨by assumption, ?_⟩)) <;> (try simp only [go_sem, seval, hike, hB, run.eq_1]))
        | assumption)
       refine AW.regT ?_
       simp only [go_sem, seval]
       repeat' (first
        | ((first | (refine br_n (fun hq => ?_) (fun hq => ?_)) | (refine idx_intro (fun x hx => have hq := hx; ?_))) <;> (try simp only [go_sem, seval, hq]))
        | (simp (disch := omega) only [wrap_ok])
        | ((first
         | (refine all_intro (fun Bz => ?_))
         | (refine (iFindRel_fn _ _ sd).calls rfl ?_)
         | (refine ⟨sd, ?_⟩)
         | (refine ⟨by assumption, ?_⟩)) <;> (try simp only [go_sem, seval]))
        | assumption)
       refine run_sound Tryz.func7 mixed 200 _ _ (by kernel_rfl) ?_
       simp only [go_sem, seval]
       try simp (disch := omega) only [wrap_ok]
       refine hnx (L' ++ [y]) B' Bz _ ⟨by omega, by simp; omega, by simpa using hinv⟩ (by omega) (by refine ⟨by simp [mkS, Rl.enc_eq y, k1, k2, anyR], by simp [mkS, Rl.enc_eq y, k1, k2, anyR], by simp only [mkS, List.all_cons, List.all_nil, O.refsLt, C.refsLt, C.refsLt1, all_dmap]; first | done | rfl | (simp; done), ?_⟩; simp [mkS, Abs.get, C.refsLtT, C.refsLt, C.refsLt1])
      | false =>
       have hf : ¬ slF p s i = true := by rw [hfi, hrc, hike]; simp
       rw [if_neg hf] at hinv
       rw [hrc] at hB
       refine run_sound Tryz.func7 mixed 200 _ _ (by kernel_rfl) ?_
       simp only [go_sem, seval, hike, hB]
       repeat' (first
        | ((first | (refine br_n (fun hq => ?_) (fun hq => ?_)) | (refine idx_intro (fun x hx => have hq := hx; ?_))) <;> (try simp only [go_sem, seval, hike, hB, hq]))
        | (simp (disch := omega) only [wrap_ok])
        | ((first
         | (refine (iFindRel_fn _ _ sd).calls rfl ?_)
         | (refine ⟨sd, ?_⟩)
         | (refine ⟨by assumption, ?_⟩)) <;> (try simp only [go_sem, seval, hike, hB]))
        | assumption)
       try simp (disch := omega) only [wrap_ok]
       refine hnx L' B' B4 _ ⟨by omega, by omega, hinv⟩ (by omega) (by refine ⟨by simp [mkS, anyR], by simp [mkS, anyR], by simp only [mkS, List.all_cons, List.all_nil, O.refsLt, C.refsLt, C.refsLt1, all_dmap]; first | done | rfl | (simp; done), ?_⟩; simp [mkS, Abs.get, C.refsLtT, C.refsLt, C.refsLt1])
    ·by_cases hik : (i : Int) = n
     ·have hf : slF p s i = true := by rw [hfi, hik]; simp
      rw [if_pos hf] at hinv
      have hike : decide ((i : Int) = n) = true := by simp [hik]
      refine run_sound Tryz.func7 mixed 3 _ _ (by kernel_rfl) ?_
      simp only [go_sem, seval, run.eq_1, hike]
      repeat' (first
       | ((first | (refine br_n (fun hq => ?_) (fun hq => ?_)) | (refine idx_intro (fun x hx => have hq := hx; ?_))) <;> (try simp only [go_sem, seval, hike, run.eq_1, hq]))
       | (simp (disch := omega) only [wrap_ok])
       | ((first
        | (refine (iFindRel_fn _ _ sd).calls rfl ?_)
        | (refine ⟨sd, ?_⟩)
        | (refine ⟨by assumption, ?_⟩)) <;> (try simp only [go_sem, seval, hike, run.eq_1]))
       | assumption)
      refine AW.regT ?_
      simp only [go_sem, seval]
      repeat' (first
       | ((first | (refine br_n (fun hq => ?_) (fun hq => ?_)) | (refine idx_intro (fun x hx => have hq := hx; ?_))) <;> (try simp only [go_sem, seval, hq]))
       | (simp (disch := omega) only [wrap_ok])
       | ((first
        | (refine all_intro (fun Bz => ?_))
        | (refine (iFindRel_fn _ _ sd).calls rfl ?_)
        | (refine ⟨sd, ?_⟩)
        | (refine ⟨by assumption, ?_⟩)) <;> (try simp only [go_sem, seval]))
       | assumption)
      refine run_sound Tryz.func7 mixed 200 _ _ (by kernel_rfl) ?_
      simp only [go_sem, seval]
      try simp (disch := omega) only [wrap_ok]
      refine hnx (L' ++ [y]) B' Bz _ ⟨by omega, by simp; omega, by simpa using hinv⟩ (by omega) (by refine ⟨by simp [mkS, Rl.enc_eq y, k1, k2, anyR], by simp [mkS, Rl.enc_eq y, k1, k2, anyR], by simp only [mkS, List.all_cons, List.all_nil, O.refsLt, C.refsLt, C.refsLt1, all_dmap]; first | done | rfl | (simp; done), ?_⟩; simp [mkS, Abs.get, C.refsLtT, C.refsLt, C.refsLt1])
     ·have hike : decide ((i : Int) = n) = false := by simp [hik]
      cases hrc : rc (cRows p) n i with
      | true =>
       have hf : slF p s i = true := by rw [hfi, hrc]; simp
       rw [if_pos hf] at hinv
       rw [hrc] at hB
       refine run_sound Tryz.func7 mixed 3 _ _ (by kernel_rfl) ?_
       simp only [go_sem, seval, run.eq_1, hike, hB]
       repeat' (first
        | ((first | (refine br_n (fun hq => ?_) (fun hq => ?_)) | (refine idx_intro (fun x hx => have hq := hx; ?_))) <;> (try simp only [go_sem, seval, hike, hB, run.eq_1, hq]))
        | (simp (disch := omega) only [wrap_ok])
        | ((first
         | (refine (iFindRel_fn _ _ sd).calls rfl ?_)
         | (refine ⟨sd, ?_⟩)
         | (refine ⟨by assumption, ?_⟩)) <;> (try simp only [go_sem, seval, hike, hB, run.eq_1]))
        | assumption)
       refine AW.regT ?_
       simp only [go_sem, seval]
       repeat' (first
        | ((first | (refine br_n (fun hq => ?_) (fun hq => ?_)) | (refine idx_intro (fun x hx => have hq := hx; ?_))) <;> (try simp only [go_sem, seval, hq]))
        | (simp (disch := omega) only [wrap_ok])
        | ((first
         | (refine all_intro (fun Bz => ?_))
         | (refine (iFindRel_fn _ _ sd).calls rfl ?_)
         | (refine ⟨sd, ?_⟩)
         | (refine ⟨by assumption, ?_⟩)) <;> (try simp only [go_sem, seval]))
        | assumption)
       refine run_sound Tryz.func7 mixed 200 _ _ (by kernel_rfl) ?_
       simp only [go_sem, seval]
       try simp (disch := omega) only [wrap_ok]
       refine hnx (L' ++ [y]) B' Bz _ ⟨by omega, by simp; omega, by simpa using hinv⟩ (by omega) (by refine ⟨by simp [mkS, Rl.enc_eq y, k1, k2, anyR], by simp [mkS, Rl.enc_eq y, k1, k2, anyR], by simp only [mkS, List.all_cons, List.all_nil, O.refsLt, C.refsLt, C.refsLt1, all_dmap]; first | done | rfl | (simp; done), ?_⟩; simp [mkS, Abs.get, C.refsLtT, C.refsLt, C.refsLt1])
      | false =>
       have hf : ¬ slF p s i = true := by rw [hfi, hrc, hike]; simp
       rw [if_neg hf] at hinv
       rw [hrc] at hB
       refine run_sound Tryz.func7 mixed 200 _ _ (by kernel_rfl) ?_
       simp only [go_sem, seval, hike, hB]
       repeat' (first
        | ((first | (refine br_n (fun hq => ?_) (fun hq => ?_)) | (refine idx_intro (fun x hx => have hq := hx; ?_))) <;> (try simp only [go_sem, seval, hike, hB, hq]))
        | (simp (disch := omega) only [wrap_ok])
        | ((first
         | (refine (iFindRel_fn _ _ sd).calls rfl ?_)
         | (refine ⟨sd, ?_⟩)
         | (refine ⟨by assumption, ?_⟩)) <;> (try simp only [go_sem, seval, hike, hB]))
        | assumption)
       try simp (disch := omega) only [wrap_ok]
       refine hnx L' B' B4 _ ⟨by omega, by omega, hinv⟩ (by omega) (by refine ⟨by simp [mkS, anyR], by simp [mkS, anyR], by simp only [mkS, List.all_cons, List.all_nil, O.refsLt, C.refsLt, C.refsLt1, all_dmap]; first | done | rfl | (simp; done), ?_⟩; simp [mkS, Abs.get, C.refsLtT, C.refsLt, C.refsLt1])
   ·obtain rfl : i = p.rels.length := by omega
    rw [List.drop_length] at hinv
    have hinv : L' = pickL (slF p s) 0 p.rels := by simpa [pickL] using hinv
    rw [← hinv]
    refine AW.placeB 4 0 5 0 rfl rfl rfl rfl (by decide) ?_
    refine run_sound Tryz.func7 mixed 200 _ _ (by kernel_rfl) ?_
    simp only [go_sem, seval]
    repeat' (first
     | (exact ⟨_, _, rfl⟩)
     | ((first | (refine br_n (fun hq => ?_) (fun hq => ?_)) | (refine idx_intro (fun x hx => have hq := hx; ?_))) <;> (try simp only [go_sem, seval, hq]))
     | (simp (disch := omega) only [wrap_ok])
     | ((first
      | (refine (iFindRel_fn _ _ sd).calls rfl ?_)
      | (refine ⟨sd, ?_⟩)
      | (refine ⟨by assumption, ?_⟩)) <;> (try simp only [go_sem, seval]))
     | assumption)
  ·have hok : slB p s = false := by unfold slB; simp [h0]
   rw [hok]
   simp only [Bool.false_eq_true, if_false]
   have hnn : p.find s < 0 := by omega
   refine ACalls.enter (fn := Tryz.f7) Tryz.func7 rfl (by show 2 ≤ _; decide) ?_
   refine run_sound Tryz.func7 mixed 10 _ _ (by kernel_rfl) ?_
   simp only [go_sem, seval, run.eq_1, hnn]
   repeat' (first
    | ((first | (refine br_n (fun hq => ?_) (fun hq => ?_)) | (refine idx_intro (fun x hx => have hq := hx; ?_))) <;> (try simp only [go_sem, seval, hnn, run.eq_1, hq]))
    | (simp (disch := omega) only [wrap_ok])
    | ((first
     | (refine hfr.calls rfl ?_)
     | (refine (iFindRel_fn _ _ sd).calls rfl ?_)
     | (refine ⟨sd, ?_⟩)
     | (refine ⟨by assumption, ?_⟩)) <;> (try simp only [go_sem, seval, hnn, run.eq_1]))
    | assumption)
   refine AW.adoptTB 2 0 7 45 (by decide) rfl rfl ?_
   refine AW.placeB 2 0 3 0 rfl rfl rfl rfl (by decide) ?_
   refine run_sound Tryz.func7 mixed 200 _ _ (by kernel_rfl) ?_
   simp only [go_sem, seval]
   repeat' (first
    | (exact ⟨_, _, rfl⟩)
    | ((first | (refine br_n (fun hq => ?_) (fun hq => ?_)) | (refine idx_intro (fun x hx => have hq := hx; ?_))) <;> (try simp only [go_sem, seval, hq]))
    | (simp (disch := omega) only [wrap_ok])
    | ((first
     | (refine (iFindRel_fn _ _ sd).calls rfl ?_)
     | (refine ⟨sd, ?_⟩)
     | (refine ⟨by assumption, ?_⟩)) <;> (try simp only [go_sem, seval]))
    | assumption)
 ·simp only [Bool.not_eq_true] at hp
  have hok : slB p s = false := by unfold slB; rw [hp]; rfl
  rw [hp] at hfr
  rw [hok]
  simp only [Bool.false_eq_true, if_false]
  refine ACalls.enter (fn := Tryz.f7) Tryz.func7 rfl (by show 2 ≤ _; decide) ?_
  refine run_sound Tryz.func7 mixed 10 _ _ (by kernel_rfl) ?_
  simp only [go_sem, seval, run.eq_1]
  repeat' (first
   | ((first | (refine br_n (fun hq => ?_) (fun hq => ?_)) | (refine idx_intro (fun x hx => have hq := hx; ?_))) <;> (try simp only [go_sem, seval, run.eq_1, hq]))
   | (simp (disch := omega) only [wrap_ok])
   | ((first
    | (refine hfr.calls rfl ?_)
    | (refine (iFindRel_fn _ _ sd).calls rfl ?_)
    | (refine ⟨sd, ?_⟩)
    | (refine ⟨by assumption, ?_⟩)) <;> (try simp only [go_sem, seval, run.eq_1]))
   | assumption)
  refine AW.adoptTB 2 0 7 45 (by decide) rfl rfl ?_
  refine AW.placeB 2 0 3 0 rfl rfl rfl rfl (by decide) ?_
  refine run_sound Tryz.func7 mixed 200 _ _ (by kernel_rfl) ?_
  simp only [go_sem, seval]
  repeat' (first
   | (exact ⟨_, _, rfl⟩)
   | ((first | (refine br_n (fun hq => ?_) (fun hq => ?_)) | (refine idx_intro (fun x hx => have hq := hx; ?_))) <;> (try simp only [go_sem, seval, hq]))
   | (simp (disch := omega) only [wrap_ok])
   | ((first
    | (refine (iFindRel_fn _ _ sd).calls rfl ?_)
    | (refine ⟨sd, ?_⟩)
    | (refine ⟨by assumption, ?_⟩)) <;> (try simp only [go_sem, seval]))
   | assumption)
end Go.Proofs.YtfniakcjekooiaaGreat
