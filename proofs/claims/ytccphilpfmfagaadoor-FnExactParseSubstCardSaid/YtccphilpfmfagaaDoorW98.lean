import Derived.Test.YtccphilpfmfagaaDoorW88
import Derived.Test.YtccphilpfmfagaaDoorW97
import Derived.Test.YtccphilpfmfagaaDoorW96
namespace Go.Proofs.YtccphilpfmfagaaDoor
open Go.Abs
set_option maxRecDepth 100000
set_option maxHeartbeats 4000000
set_option linter.unusedSimpArgs false
set_option linter.unusedVariables false
theorem markBindingS_0 (k : Int) : Gives Tryd.prog 20 [.sl [], .int .i64 k] (.d (.int .i64 k)) := by
 have z0 : ((0 : Nat) : Int) = 0 := rfl
 refine ACalls.enter (fn := Tryd.f20) Tryd.func20 rfl (by show 2 ≤ _; decide) ?_
 refine run_sound Tryd.func20 mixed 200 _ _ (by kernel_rfl) ?_
 simp only [go_sem, seval]
 repeat' (first
  | ((first | (refine br_n (fun hq => ?_) (fun hq => ?_)) | (refine idx_intro (fun x hx => have hq := hx; ?_))) <;> (try simp only [go_sem, seval, z0, hq]))
  | (simp (disch := omega) only [wrap_ok])
  | ((first
   | (refine AW.loop ?_ <;> (refine run_sound Tryd.func20 mixed 200 _ _ (by kernel_rfl) ?_))
   | (refine (markText_fn _ sd sd).calls rfl ?_)
   | (refine ⟨sd, ?_⟩)
   | (refine ⟨by assumption, ?_⟩)) <;> (try simp only [go_sem, seval, z0]))
  | assumption)
 all_goals (exfalso; simp at *)
theorem markBindingS_T (l : List Bd) (k : Int) (q e : Nat) (B : Nat → Prop) (h0 : 0 ≤ k) (h1 : k + Bd.mcnts l ≤ 1000000000) :
  ACalls Tryd.prog 20 [.own 0 q, .d (.int .i64 k)] [.tree q 5 e (l.map Bd.enc) B none] fun c H' => c = .d (.int .i64 (k + Bd.mcnts l)) ∧ ∃ B', H' = [.tree q 5 e ((Bd.mrks k l).map Bd.enc) B' none] := by
 have hlm := Bd.len_mcnts l
 refine ACalls.enter (fn := Tryd.f20) Tryd.func20 rfl (by show 2 ≤ _; decide) ?_
 refine run_sound Tryd.func20 mixed 200 _ _ (by kernel_rfl) ?_
 simp only [go_sem, seval]
 refine AW.lp [0] (fun p : Nat × (Nat → Prop) => [(5, .d (.int .i64 p.1)), (1, .d (.int .i64 (k + Bd.mcnts (l.take p.1))))]) (fun _ p => [.tree q 5 e ((Bd.mrks k (l.take p.1) ++ l.drop p.1).map Bd.enc) p.2 none]) (fun p => p.1 ≤ l.length) (fun p => l.length - p.1) (0, B) (Nat.zero_le _) (by refine ⟨by simp [mkS], by simp [mkS, Bd.mrks], by simp [mkS, O.refsLt], ?_⟩; simp [mkS, Abs.get, C.refsLtT, C.refsLt, C.refsLt1, Bd.mcnts]) ?_
 rintro ⟨i, B1⟩ hi hnext
 dsimp only at hi hnext ⊢
 by_cases h : i < l.length
 ·have hlt : (i : Int) < (l.length : Int) := by omega
  have hd : l.drop i = l[i] :: l.drop (i + 1) := List.drop_eq_getElem_cons h
  have hll : ((Bd.mrks k (l.take i)).map Bd.enc ++ l[i].enc :: (l.drop (i + 1)).map Bd.enc).length = l.length := by simp [Bd.mrks_len]; omega
  have hai : ((Bd.mrks k (l.take i)).map Bd.enc).length = i := by simp [Bd.mrks_len]; omega
  have hnxt : l.take (i + 1) = l.take i ++ [l[i]] := by rw [List.take_add_one, List.getElem?_eq_getElem h]; rfl
  have hcn : Bd.mcnts (l.take (i + 1)) = Bd.mcnts (l.take i) + l[i].mcnt := by rw [hnxt, Bd.mcnts_app]; simp [Bd.mcnts]
  have hcl : Bd.mcnts l = Bd.mcnts (l.take i) + (l[i].mcnt + Bd.mcnts (l.drop (i + 1))) := by
   conv => lhs; rw [← List.take_append_drop i l, hd, Bd.mcnts_app]
   simp [Bd.mcnts]
  have hmr : Bd.mrks k (l.take (i + 1)) = Bd.mrks k (l.take i) ++ [l[i].mrk (k + Bd.mcnts (l.take i))] := by rw [hnxt, Bd.mrks_app]; simp [Bd.mrks]
  have hmc : l[i].mcnt = 4 + Tm.mcnts l[i].to.args := rfl
  rw [hd, List.map_append, List.map_cons]
  have hnx := fun B' s' => hnext (i + 1, B') s' h (by dsimp only; omega)
  clear hnext
  simp only [hmr, hcn, List.map_append, List.map_cons, List.map_nil, Bd.mrk] at hnx
  generalize hx : l[i] = x at *
  generalize hA : (Bd.mrks k (l.take i)).map Bd.enc = A at *
  generalize hZ : (l.drop (i + 1)).map Bd.enc = Z at *
  generalize hk : k + (Bd.mcnts (l.take i) : Int) = kk at *
  have s1 := fun (y : List D) => set_split (x := x.enc) (y := y) (r := Z) hai
  have s2 := fun (y y' : List D) => set_split (x := y) (y := y') (r := Z) hai
  have g1 := fun (y : List D) => at_split (x := y) (r := Z) hai
  have xe := Bd.enc_eq x
  rw [xe] at hll ⊢
  have zk4 : ∀ zk : Nat, x.to.args.map Tm.enc ≠ [] → (∀ j, j ∈ x.to.args → 4 = zk) → zk = 4 := fun zk hne hz => by
   cases ha : x.to.args with
   | nil => simp [ha] at hne
   | cons a r => exact (hz a (by simp [ha])).symm
  have hrow : ∀ ks, (Bd.mk kk (.mk (kk + 1) (kk + 2) (mText (kk + 3)) ks)).enc = [.int .i64 kk, .int .i64 (kk + 1), .int .i64 (kk + 1 + 1), .str (mText (kk + 1 + 1 + 1)), .sl (ks.map Tm.enc)] := fun ks => by
   rw [Bd.enc_eq, show kk + 1 + 1 + 1 = kk + 3 by omega, show kk + 1 + 1 = kk + 2 by omega]; rfl
  simp only [hrow, List.append_assoc, List.cons_append, List.nil_append] at hnx
  have g2 := fun (y : List D) (Q : List D → Prop) => idx_of (g1 y) Q
  refine run_sound Tryd.func20 mixed 200 _ _ (by kernel_rfl) ?_
  simp only [go_sem, seval, hlt, hll, s2, g1, g2]
  repeat' (first
   | (refine lend_intro (fun hk0 => ?_) (fun hk1 zk e' B2 B3 hzk => ?_) <;> (try simp only [go_sem, seval, hlt, hll, s2, g1, g2]))
   | ((first | (refine br_n (fun hq => ?_) (fun hq => ?_)) | (refine idx_intro (fun x hx => have hq := hx; ?_))) <;> (try simp only [go_sem, seval, hlt, hll, s2, g1, g2, hq]))
   | (simp (disch := omega) only [wrap_ok])
   | ((first
    | (refine all_intro (fun Bz => ?_))
    | (refine (markTermS_0 _).calls rfl ?_)
    | (refine (markText_fn _ sd sd).calls rfl ?_)
    | (refine ⟨sd, ?_⟩)
    | (refine ⟨by assumption, ?_⟩)) <;> (try simp only [go_sem, seval, hlt, hll, s2, g1, g2]))
   | assumption)
  ·have ha : x.to.args = [] := by simpa using hk0
   have hm0 : Tm.mcnts x.to.args = 0 := by rw [ha]; rfl
   rw [ha] at hnx ⊢
   refine hnx Bz _ ?_
   refine ⟨by simp [mkS], by simp [mkS, Tm.mrks], by simp [mkS, O.refsLt], ?_⟩; simp [mkS, Abs.get, C.refsLtT, C.refsLt, C.refsLt1]; omega
  ·obtain rfl := zk4 zk hk1 hzk
   refine (mTT_all x.to.args (kk + 1 + 1 + 1 + 1) 0 e' B3 (by omega) (by omega)).at1 rfl 1 rfl rfl ?_
   rintro c o' ⟨rfl, B4, ho⟩
   cases ho
   refine ⟨rfl, rfl, ?_⟩
   simp only [go_sem, seval, C.at1]
   try simp (disch := omega) only [wrap_ok]
   try simp only [go_sem, seval, C.at1]
   refine AW.rejoin 0 1 rfl rfl (by decide) (fun B5 => ?_)
   simp only [go_sem, seval, g1, s2]
   refine hnx B5 _ ?_
   refine ⟨by simp [mkS], by simp [mkS]; rw [show kk + 1 + 1 + 1 + 1 = kk + 4 by omega], by simp [mkS, O.refsLt], ?_⟩; simp [mkS, Abs.get, C.refsLtT, C.refsLt, C.refsLt1]; omega
 ·obtain rfl : i = l.length := by omega
  refine run_sound Tryd.func20 mixed 200 _ _ (by kernel_rfl) ?_
  simp only [go_sem, seval, Bd.mrks_len, List.take_length, List.drop_length]
  repeat' (first
   | (exact ⟨_, rfl⟩)
   | ((first | (refine br_n (fun hq => ?_) (fun hq => ?_)) | (refine idx_intro (fun x hx => have hq := hx; ?_))) <;> (try simp only [go_sem, seval, Bd.mrks_len, List.take_length, List.drop_length, hq]))
   | (simp (disch := omega) only [wrap_ok])
   | ((first
    | (refine (markText_fn _ sd sd).calls rfl ?_)
    | (refine ⟨sd, ?_⟩)
    | (refine ⟨by assumption, ?_⟩)) <;> (try simp only [go_sem, seval, Bd.mrks_len, List.take_length, List.drop_length]))
   | assumption)
theorem heldBindingS_T (l : List Bd) (k : Int) (h0 : 0 ≤ k) (h1 : k + Bd.mcnts l ≤ 1000000000) : Gives Tryd.prog 21 [.sl ((Bd.mrks k l).map Bd.enc), .int .i64 k] (.d (.int .i64 (k + Bd.mcnts l))) := by
 have hml := Bd.mrks_len l k
 have hlm := Bd.len_mcnts l
 refine ACalls.enter (fn := Tryd.f21) Tryd.func21 rfl (by show 2 ≤ _; decide) ?_
 refine run_sound Tryd.func21 mixed 200 _ _ (by kernel_rfl) ?_
 simp only [go_sem, seval]
 refine AW.lp [0] (fun i : Nat => [(5, .d (.int .i64 i)), (1, .d (.int .i64 (k + Bd.mcnts (l.take i))))]) (fun H _ => H) (fun i => i ≤ l.length) (fun i => l.length - i) 0 (Nat.zero_le _) (by refine ⟨by simp [mkS], by simp [mkS], by simp [mkS, O.refsLt], ?_⟩; simp [mkS, Abs.get, C.refsLtT, C.refsLt, C.refsLt1, Bd.mcnts]) ?_
 intro i hi hnext
 by_cases h : i < l.length
 ·have hlt : (i : Int) < (l.length : Int) := by omega
  have hxi : l[i]? = some l[i] := List.getElem?_eq_getElem h
  have hat := Bd.mrks_at l k i _ hxi
  have hnxt : l.take (i + 1) = l.take i ++ [l[i]] := by rw [List.take_add_one, List.getElem?_eq_getElem h]; rfl
  have hcn : Bd.mcnts (l.take (i + 1)) = Bd.mcnts (l.take i) + l[i].mcnt := by rw [hnxt, Bd.mcnts_app]; simp [Bd.mcnts]
  have hcl : Bd.mcnts l = Bd.mcnts (l.take i) + (l[i].mcnt + Bd.mcnts (l.drop (i + 1))) := by
   conv => lhs; rw [← List.take_append_drop i l, List.drop_eq_getElem_cons h, Bd.mcnts_app]
   simp [Bd.mcnts]
  have hmc : l[i].mcnt = 4 + Tm.mcnts l[i].to.args := rfl
  have hnx := fun s' => hnext (i + 1) s' h (by omega)
  clear hnext
  simp only [hcn] at hnx
  generalize hx : l[i] = x at *
  generalize hk : k + (Bd.mcnts (l.take i) : Int) = kk at *
  generalize hy : x.mrk kk = y at *
  have e2 : kk + 1 + 1 = kk + 2 := by omega
  have e3 : kk + 1 + 1 + 1 = kk + 3 := by omega
  have e4 : kk + 1 + 1 + 1 + 1 = kk + 4 := by omega
  have ye : y.var = kk ∧ y.to.kind = kk + 1 ∧ y.to.int = kk + 1 + 1 ∧ y.to.name = mText (kk + 1 + 1 + 1) ∧ y.to.args = Tm.mrks (kk + 1 + 1 + 1 + 1) x.to.args := by
   rw [← hy, e4, e3, e2]; exact ⟨rfl, rfl, rfl, rfl, rfl⟩
  have hrec := hTT_all x.to.args (kk + 1 + 1 + 1 + 1) (by omega) (by omega)
  have w1 : IntKind.i64.wrap (kk + 1) = kk + 1 := wrap_ok (by omega) (by omega)
  have w2 : IntKind.i64.wrap (kk + 1 + 1) = kk + 1 + 1 := wrap_ok (by omega) (by omega)
  have w3 : IntKind.i64.wrap (kk + 1 + 1 + 1) = kk + 1 + 1 + 1 := wrap_ok (by omega) (by omega)
  have w4 : IntKind.i64.wrap (kk + 1 + 1 + 1 + 1) = kk + 1 + 1 + 1 + 1 := wrap_ok (by omega) (by omega)
  refine run_sound Tryd.func21 mixed 200 _ _ (by kernel_rfl) ?_
  simp only [go_sem, seval, hlt, hml, idx_of hat, ye.1, ye.2.1, ye.2.2.1, ye.2.2.2.1, ye.2.2.2.2, w1, w2, w3, w4]
  repeat' (first
   | ((first | (refine br_n (fun hq => ?_) (fun hq => ?_)) | (refine idx_intro (fun x hx => have hq := hx; ?_))) <;> (try simp only [go_sem, seval, hlt, hml, idx_of hat, ye.1, ye.2.1, ye.2.2.1, ye.2.2.2.1, ye.2.2.2.2, w1, w2, w3, w4, hq]))
   | (simp (disch := omega) only [wrap_ok])
   | ((first
    | (refine hrec.calls rfl ?_)
    | (refine (markText_fn _ sd sd).calls rfl ?_)
    | (refine (markText_fn _ sd sd).callQ rfl ?_)
    | (refine ⟨sd, ?_⟩)
    | (refine ⟨by assumption, ?_⟩)) <;> (try simp only [go_sem, seval, hlt, hml, idx_of hat, ye.1, ye.2.1, ye.2.2.1, ye.2.2.2.1, ye.2.2.2.2, w1, w2, w3, w4]))
   | assumption)
  all_goals first | (exfalso; omega) | skip
  refine hnx _ ?_
  refine ⟨by simp [mkS], by simp [mkS], by simp [mkS, O.refsLt], ?_⟩; simp [mkS, Abs.get, C.refsLtT, C.refsLt, C.refsLt1]; omega
 ·obtain rfl : i = l.length := by omega
  refine run_sound Tryd.func21 mixed 200 _ _ (by kernel_rfl) ?_
  simp only [go_sem, seval, hml, List.take_length]
  repeat' (first
   | ((first | (refine br_n (fun hq => ?_) (fun hq => ?_)) | (refine idx_intro (fun x hx => have hq := hx; ?_))) <;> (try simp only [go_sem, seval, hml, List.take_length, hq]))
   | (simp (disch := omega) only [wrap_ok])
   | ((first
    | (refine (markText_fn _ sd sd).calls rfl ?_)
    | (refine (markText_fn _ sd sd).callQ rfl ?_)
    | (refine ⟨sd, ?_⟩)
    | (refine ⟨by assumption, ?_⟩)) <;> (try simp only [go_sem, seval, hml, List.take_length]))
   | assumption)
theorem eqBdS_of (l : List Bd) (hm : l.length ≤ maxLen) (hw : ∀ x, x ∈ l → wtL x.to.enc ≤ 9000000) : Gives Tryd.prog 19 [.sl (l.map Bd.enc), .sl (l.map Bd.enc)] (.d (.bool true)) := by
 refine eq19 (l.map Bd.enc) (by simpa using hm) (fun x hx => ?_)
 obtain ⟨y, hy, rfl⟩ := List.mem_map.1 hx
 refine ⟨Bd.enc_len y, ?_⟩
 have h1 := eqTm_fn y.to (hw y hy)
 rw [Tm.enc_eq] at h1
 rw [Bd.enc_eq]
 exact eq40 _ _ _ _ _ h1
end Go.Proofs.YtccphilpfmfagaaDoor
