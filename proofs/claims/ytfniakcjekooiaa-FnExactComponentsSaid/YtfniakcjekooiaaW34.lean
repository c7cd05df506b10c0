import Derived.Test.YtfniakcjekooiaaW10
import Derived.Test.YtfniakcjekooiaaA7
import Derived.Test.YtfniakcjekooiaaP4
namespace Go.Proofs.Ytfniakcjekooiaa
open Go.Abs
set_option maxRecDepth 100000
set_option maxHeartbeats 4000000
set_option linter.unusedSimpArgs false
set_option linter.unusedVariables false
def encJ (l : List Int) : List D := [.sl (intsD l)]
theorem markIntS_0 (k : Int) : Gives Try.prog 30 [.sl [], .int .i64 k] (.d (.int .i64 k)) := by
 have z0 : ((0 : Nat) : Int) = 0 := rfl
 refine ACalls.enter (fn := Try.f30) Try.func30 rfl (by show 2 ≤ _; decide) ?_
 refine run_sound Try.func30 mixed 200 _ _ (by kernel_rfl) ?_
 simp only [go_sem, seval]
 repeat' (first
  | ((first | (refine br_n (fun hq => ?_) (fun hq => ?_)) | (refine idx_intro (fun x hx => have hq := hx; ?_))) <;> (try simp only [go_sem, seval, z0, hq]))
  | (simp (disch := omega) only [wrap_ok])
  | ((first
   | (refine AW.loop ?_ <;> (refine run_sound Try.func30 mixed 200 _ _ (by kernel_rfl) ?_))
   | (refine ⟨sd, ?_⟩)
   | (refine ⟨by assumption, ?_⟩)) <;> (try simp only [go_sem, seval, z0]))
  | assumption)
 all_goals (exfalso; simp at *)
theorem heldIntSS_T (l : List (List Int)) (k : Int) (h0 : 0 ≤ k) (h1 : k + cntII l ≤ 100000000) (hl : l.length ≤ 100000000) : Gives Try.prog 15 [.sl ((mrkII k l).map encJ), .int .i64 k] (.d (.int .i64 (k + cntII l))) := by
 have hml := mrkII_len l k
 have hge : ∀ c : List Int, encJ c = [.sl (intsD c)] := fun c => rfl
 refine ACalls.enter (fn := Try.f15) Try.func15 rfl (by show 2 ≤ _; decide) ?_
 refine run_sound Try.func15 mixed 200 _ _ (by kernel_rfl) ?_
 simp only [go_sem, seval]
 refine AW.lp [0] (fun i : Nat => [(5, .d (.int .i64 i)), (1, .d (.int .i64 (k + cntII (l.take i))))]) (fun H _ => H) (fun i => i ≤ l.length) (fun i => l.length - i) 0 (Nat.zero_le _) (by refine ⟨by simp [mkS], by simp [mkS], by simp [mkS, O.refsLt], ?_⟩; simp [mkS, Abs.get, C.refsLtT, C.refsLt, C.refsLt1, cntII]) ?_
 intro i hi hnext
 by_cases h : i < l.length
 ·have hlt : (i : Int) < (l.length : Int) := by omega
  have hxi : l[i]? = some l[i] := List.getElem?_eq_getElem h
  have hat := mrkII_at l k i _ hxi
  have hnxt : l.take (i + 1) = l.take i ++ [l[i]] := by rw [List.take_add_one, List.getElem?_eq_getElem h]; rfl
  have hcn : cntII (l.take (i + 1)) = cntII (l.take i) + l[i].length := by rw [hnxt, cntII_app]; simp [cntII]
  have hcl : cntII l = cntII (l.take i) + (l[i].length + cntII (l.drop (i + 1))) := by
   conv => lhs; rw [← List.take_append_drop i l, List.drop_eq_getElem_cons h, cntII_app]
   simp [cntII]
  have hnx := fun s' => hnext (i + 1) s' h (by omega)
  clear hnext
  simp only [hcn] at hnx
  generalize hx : l[i] = x at *
  generalize hk : k + (cntII (l.take i) : Int) = kk at *
  have hre := heldIntS_fn x kk (by omega) (by omega) (by omega)
  refine run_sound Try.func15 mixed 200 _ _ (by kernel_rfl) ?_
  simp only [go_sem, seval, hlt, hml, idx_of hat, hge]
  repeat' (first
   | ((first | (refine br_n (fun hq => ?_) (fun hq => ?_)) | (refine idx_intro (fun x hx => have hq := hx; ?_))) <;> (try simp only [go_sem, seval, hlt, hml, idx_of hat, hge, hq]))
   | (simp (disch := omega) only [wrap_ok])
   | ((first
    | (refine hre.calls rfl ?_)
    | (refine ⟨sd, ?_⟩)
    | (refine ⟨by assumption, ?_⟩)) <;> (try simp only [go_sem, seval, hlt, hml, idx_of hat, hge]))
   | assumption)
  all_goals first | (exfalso; omega) | skip
  refine hnx _ ?_
  refine ⟨by simp [mkS], by simp [mkS], by simp [mkS, O.refsLt], ?_⟩; simp [mkS, Abs.get, C.refsLtT, C.refsLt, C.refsLt1]; omega
 ·obtain rfl : i = l.length := by omega
  refine run_sound Try.func15 mixed 200 _ _ (by kernel_rfl) ?_
  simp only [go_sem, seval, hml, List.take_length]
  repeat' (first
   | ((first | (refine br_n (fun hq => ?_) (fun hq => ?_)) | (refine idx_intro (fun x hx => have hq := hx; ?_))) <;> (try simp only [go_sem, seval, hml, List.take_length, hq]))
   | (simp (disch := omega) only [wrap_ok])
   | ((first
    | (refine ⟨sd, ?_⟩)
    | (refine ⟨by assumption, ?_⟩)) <;> (try simp only [go_sem, seval, hml, List.take_length]))
   | assumption)
theorem markIntSS_T (l : List (List Int)) (k : Int) (q e : Nat) (B : Nat → Prop) (h0 : 0 ≤ k) (h1 : k + cntII l ≤ 100000000) (hl : l.length ≤ 100000000) :
  ACalls Try.prog 14 [.own 0 q, .d (.int .i64 k)] [.tree q 1 e (l.map encJ) B none] (fun c H' => c = .d (.int .i64 (k + cntII l)) ∧ ∃ B', H' = [.tree q 1 e ((mrkII k l).map encJ) B' none]) := by
 have hge : ∀ c : List Int, encJ c = [.sl (intsD c)] := fun c => rfl
 refine ACalls.enter (fn := Try.f14) Try.func14 rfl (by show 2 ≤ _; decide) ?_
 refine run_sound Try.func14 mixed 200 _ _ (by kernel_rfl) ?_
 simp only [go_sem, seval]
 refine AW.lp [0] (fun p : Nat × (Nat → Prop) => [(5, .d (.int .i64 p.1)), (1, .d (.int .i64 (k + cntII (l.take p.1))))]) (fun _ p => [.tree q 1 e ((mrkII k (l.take p.1) ++ l.drop p.1).map encJ) p.2 none]) (fun p => p.1 ≤ l.length) (fun p => l.length - p.1) (0, B) (Nat.zero_le _) (by refine ⟨by simp [mkS], by simp [mkS, mrkII], by simp [mkS, O.refsLt], ?_⟩; simp [mkS, Abs.get, C.refsLtT, C.refsLt, C.refsLt1, cntII]) ?_
 rintro ⟨i, B1⟩ hi hnext
 dsimp only at hi hnext ⊢
 by_cases h : i < l.length
 ·have hlt : (i : Int) < (l.length : Int) := by omega
  have hd : l.drop i = l[i] :: l.drop (i + 1) := List.drop_eq_getElem_cons h
  have hll : ((mrkII k (l.take i)).map encJ ++ encJ l[i] :: (l.drop (i + 1)).map encJ).length = l.length := by simp [mrkII_len]; omega
  have hai : ((mrkII k (l.take i)).map encJ).length = i := by simp [mrkII_len]; omega
  have hnxt : l.take (i + 1) = l.take i ++ [l[i]] := by rw [List.take_add_one, List.getElem?_eq_getElem h]; rfl
  have hcn : cntII (l.take (i + 1)) = cntII (l.take i) + l[i].length := by rw [hnxt, cntII_app]; simp [cntII]
  have hcl : cntII l = cntII (l.take i) + (l[i].length + cntII (l.drop (i + 1))) := by
   conv => lhs; rw [← List.take_append_drop i l, hd, cntII_app]
   simp [cntII]
  have hmr : mrkII k (l.take (i + 1)) = mrkII k (l.take i) ++ [mrkI (k + cntII (l.take i)) l[i]] := by rw [hnxt, mrkII_app]; simp [mrkII]
  rw [hd, List.map_append, List.map_cons]
  have hnx := fun B' s' => hnext (i + 1, B') s' h (by dsimp only; omega)
  clear hnext
  simp only [hmr, hcn, List.map_append, List.map_cons, List.map_nil] at hnx
  generalize hx : l[i] = x at *
  generalize hA : (mrkII k (l.take i)).map encJ = A at *
  generalize hZ : (l.drop (i + 1)).map encJ = Z at *
  generalize hk : k + (cntII (l.take i) : Int) = kk at *
  have s2 := fun (y y' : List D) => set_split (x := y) (y := y') (r := Z) hai
  have g1 := fun (y : List D) => at_split (x := y) (r := Z) hai
  have zk1 : ∀ zk : Nat, intsD x ≠ [] → (∀ j, j ∈ intsD x → j.length = zk) → zk = 1 := fun zk hne hz => by
   cases ha : x with
   | nil => simp [ha, intsD] at hne
   | cons a r => exact (hz [.int .i64 a] (by simp [ha, intsD])).symm
  rw [hge] at hll ⊢
  simp only [hge, List.append_assoc, List.cons_append, List.nil_append] at hnx
  have g2 := fun (y : List D) (Q : List D → Prop) => idx_of (g1 y) Q
  refine run_sound Try.func14 mixed 200 _ _ (by kernel_rfl) ?_
  simp only [go_sem, seval, hlt, hll, s2, g1, g2]
  repeat' (first
   | (refine lend_intro (fun hk0 => ?_) (fun hk1 zk e' B2 B3 hzk => ?_) <;> (try simp only [go_sem, seval, hlt, hll, s2, g1, g2]))
   | ((first | (refine br_n (fun hq => ?_) (fun hq => ?_)) | (refine idx_intro (fun x hx => have hq := hx; ?_))) <;> (try simp only [go_sem, seval, hlt, hll, s2, g1, g2, hq]))
   | (simp (disch := omega) only [wrap_ok])
   | ((first
    | (refine all_intro (fun Bz => ?_))
    | (refine (markIntS_0 _).calls rfl ?_)
    | (refine ⟨sd, ?_⟩)
    | (refine ⟨by assumption, ?_⟩)) <;> (try simp only [go_sem, seval, hlt, hll, s2, g1, g2]))
   | assumption)
  ·have hb : x = [] := by simpa [intsD] using hk0
   rw [hb] at hnx ⊢
   refine hnx B1 _ ?_
   refine ⟨by simp [mkS], by simp [mkS, mrkI], by simp [mkS, O.refsLt], ?_⟩; simp [mkS, Abs.get, C.refsLtT, C.refsLt, C.refsLt1]; omega
  ·obtain rfl := zk1 zk hk1 hzk
   refine (markIntS_T x kk 0 e' B3 (by omega) (by omega) (by omega)).at1 rfl 1 rfl rfl ?_
   rintro c o' ⟨rfl, B4, ho⟩
   cases ho
   refine ⟨rfl, rfl, ?_⟩
   simp only [go_sem, seval, C.at1, run.eq_1]
   try simp (disch := omega) only [wrap_ok]
   try simp only [go_sem, seval, C.at1]
   refine AW.rejoin 0 1 rfl rfl (by decide) (fun B5 => ?_)
   simp only [go_sem, seval, g1, s2]
   refine hnx B5 _ ?_
   refine ⟨by simp [mkS], by simp [mkS], by simp [mkS, O.refsLt], ?_⟩; simp [mkS, Abs.get, C.refsLtT, C.refsLt, C.refsLt1]; omega
 ·obtain rfl : i = l.length := by omega
  refine run_sound Try.func14 mixed 200 _ _ (by kernel_rfl) ?_
  simp only [go_sem, seval, mrkII_len, List.take_length, List.drop_length]
  repeat' (first
   | (exact ⟨_, rfl⟩)
   | ((first | (refine br_n (fun hq => ?_) (fun hq => ?_)) | (refine idx_intro (fun x hx => have hq := hx; ?_))) <;> (try simp only [go_sem, seval, mrkII_len, List.take_length, List.drop_length, hq]))
   | (simp (disch := omega) only [wrap_ok])
   | ((first
    | (refine ⟨sd, ?_⟩)
    | (refine ⟨by assumption, ?_⟩)) <;> (try simp only [go_sem, seval, mrkII_len, List.take_length, List.drop_length]))
   | assumption)
end Go.Proofs.Ytfniakcjekooiaa
