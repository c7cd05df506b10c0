import Derived.Test.YtccphilpfmfagaaDoorW87
import Derived.Test.YtccphilpfmfagaaDoorW82
import Derived.Test.YtccphilpfmfagaaDoorFam
namespace Go.Proofs.YtccphilpfmfagaaDoor
open Go.Abs
set_option maxRecDepth 100000
set_option maxHeartbeats 4000000
set_option linter.unusedSimpArgs false
set_option linter.unusedVariables false
theorem markText_fn (k : Int) (h0 : 0 ≤ k) (h1 : k ≤ 1000000000000) : Gives Tryd.prog 41 [.int .i64 k] (.d (.str (mText k))) := by
 have hk : mText k = [109] ++ (if k ≤ 0 then [48] else digs k.toNat k.toNat []) := rfl
 refine ACalls.enter (fn := Tryd.f41) Tryd.func41 rfl (by show 1 ≤ _; decide) ?_
 refine run_sound Tryd.func41 mixed 200 _ _ (by kernel_rfl) ?_
 simp only [go_sem, seval]
 repeat' (first
  | ((first | (refine br_n (fun hq => ?_) (fun hq => ?_)) | (refine idx_intro (fun x hx => have hq := hx; ?_))) <;> (try simp only [go_sem, seval, hq]))
  | (simp (disch := omega) only [wrap_ok])
  | ((first
   | (refine ⟨sd, ?_⟩)
   | (refine ⟨by assumption, ?_⟩)) <;> (try simp only [go_sem, seval]))
  | assumption)
 ·rw [hk, if_pos (by assumption)]; rfl
 rw [if_neg (by omega)] at hk
 generalize mText k = N at hk ⊢
 refine AW.lp [] (fun p : Int × List UInt8 => [(0, .d (.int .i64 p.1)), (3, .d (.str p.2))]) (fun H _ => H) (fun p => 0 ≤ p.1 ∧ p.1 ≤ k ∧ (p.2.length : Int) ≤ k - p.1 ∧ ∀ fuel, p.1.toNat ≤ fuel → [109] ++ digs fuel p.1.toNat p.2 = N) (fun p => p.1.toNat) (k, []) ⟨by omega, by omega, by simp, fun fuel hf => ?_⟩ (by refine ⟨by simp [mkS], by simp [mkS], by simp [mkS, O.refsLt, C.refsLt, C.refsLt1], ?_⟩; simp [mkS, Abs.get, C.refsLtT, C.refsLt, C.refsLt1]) ?_
 ·rw [hk, digs_fuel k.toNat fuel k.toNat [] (Nat.le_refl _) hf]
 have hmx : maxLen = 9223372036854775807 := rfl
 rintro ⟨m, acc⟩ ⟨i1, i2, i4, i3⟩ hnext
 dsimp only at i1 i2 i3 i4 hnext
 by_cases hm : 0 < m
 ·have hd0 : 0 ≤ m.tmod 10 ∧ m.tmod 10 < 10 ∧ (m.tmod 10).toNat = m.toNat % 10 := by
   rw [Int.tmod_eq_emod_of_nonneg (by omega)]; omega
  have hq0 : 0 ≤ m.tdiv 10 ∧ m.tdiv 10 < m ∧ (m.tdiv 10).toNat = m.toNat / 10 := by
   rw [Int.tdiv_eq_ediv_of_nonneg (by omega)]; omega
  have hnx := i3 (m.toNat) (Nat.le_refl _)
  have hw8 : IntKind.u8.wrap (48 + m.tmod 10) = 48 + m.tmod 10 := by
   unfold IntKind.wrap; simp [IntKind.bits, IntKind.signed]; omega
  refine run_sound Tryd.func41 mixed 200 _ _ (by kernel_rfl) ?_
  simp only [go_sem, seval, hm, hw8, bytesOf]
  repeat' (first
   | ((first | (refine br_n (fun hq => ?_) (fun hq => ?_)) | (refine idx_intro (fun x hx => have hq := hx; ?_))) <;> (try simp only [go_sem, seval, hm, hw8, bytesOf, hq]))
   | (simp (disch := omega) only [wrap_ok])
   | ((first
    | (refine ⟨sd, ?_⟩)
    | (refine ⟨by assumption, ?_⟩)) <;> (try simp only [go_sem, seval, hm, hw8, bytesOf]))
   | assumption)
  refine hnext (m.tdiv 10, UInt8.ofNat (48 + m.tmod 10).toNat :: acc) _ ⟨by omega, by omega, by simp only [List.length_cons]; omega, fun fuel hf => ?_⟩ (by dsimp only; omega) (by refine ⟨by simp [mkS], by simp [mkS], by simp [mkS, O.refsLt], ?_⟩; simp [mkS, Abs.get, C.refsLtT, C.refsLt, C.refsLt1])
  dsimp only at hf ⊢
  have h3 := i3 (m.toNat + fuel + 1) (by omega)
  simp only [digs] at h3
  rw [if_neg (by omega), digs_fuel fuel (m.toNat + fuel) _ _ (by omega) (by omega)] at h3
  rw [← h3, hq0.2.2, show (48 + m.tmod 10).toNat = 48 + m.toNat % 10 by omega]
 ·obtain rfl : m = 0 := by omega
  have := i3 0 (by simp)
  refine run_sound Tryd.func41 mixed 200 _ _ (by kernel_rfl) ?_
  simp only [go_sem, seval]
  repeat' (first
   | ((first | (refine br_n (fun hq => ?_) (fun hq => ?_)) | (refine idx_intro (fun x hx => have hq := hx; ?_))) <;> (try simp only [go_sem, seval, hq]))
   | (simp (disch := omega) only [wrap_ok])
   | ((first
    | (refine ⟨sd, ?_⟩)
    | (refine ⟨by assumption, ?_⟩)) <;> (try simp only [go_sem, seval]))
   | assumption)
  all_goals (rw [← this]; rfl)
theorem markTermS_0 (k : Int) : Gives Tryd.prog 34 [.sl [], .int .i64 k] (.d (.int .i64 k)) := by
 have z0 : ((0 : Nat) : Int) = 0 := rfl
 refine ACalls.enter (fn := Tryd.f34) Tryd.func34 rfl (by show 2 ≤ _; decide) ?_
 refine run_sound Tryd.func34 mixed 200 _ _ (by kernel_rfl) ?_
 simp only [go_sem, seval]
 repeat' (first
  | ((first | (refine br_n (fun hq => ?_) (fun hq => ?_)) | (refine idx_intro (fun x hx => have hq := hx; ?_))) <;> (try simp only [go_sem, seval, z0, hq]))
  | (simp (disch := omega) only [wrap_ok])
  | ((first
   | (refine AW.loop ?_ <;> (refine run_sound Tryd.func34 mixed 200 _ _ (by kernel_rfl) ?_))
   | (refine (markText_fn _ sd sd).calls rfl ?_)
   | (refine ⟨sd, ?_⟩)
   | (refine ⟨by assumption, ?_⟩)) <;> (try simp only [go_sem, seval, z0]))
  | assumption)
 all_goals (exfalso; simp at *)
def mTT (l : List Tm) : Prop := ∀ (k : Int) (q e : Nat) (B : Nat → Prop), 0 ≤ k → k + Tm.mcnts l ≤ 1000000000 →
 ACalls Tryd.prog 34 [.own 0 q, .d (.int .i64 k)] [.tree q 4 e (l.map Tm.enc) B none] fun c H' => c = .d (.int .i64 (k + Tm.mcnts l)) ∧ ∃ B', H' = [.tree q 4 e ((Tm.mrks k l).map Tm.enc) B' none]
theorem markTermS_T (l : List Tm) (ih : ∀ x, x ∈ l → mTT x.args) : mTT l := by
 intro k q e B h0 h1
 have hlm := Tm.len_mcnts l
 refine ACalls.enter (fn := Tryd.f34) Tryd.func34 rfl (by show 2 ≤ _; decide) ?_
 refine run_sound Tryd.func34 mixed 200 _ _ (by kernel_rfl) ?_
 simp only [go_sem, seval]
 refine AW.lp [0] (fun p : Nat × (Nat → Prop) => [(5, .d (.int .i64 p.1)), (1, .d (.int .i64 (k + Tm.mcnts (l.take p.1))))]) (fun _ p => [.tree q 4 e ((Tm.mrks k (l.take p.1) ++ l.drop p.1).map Tm.enc) p.2 none]) (fun p => p.1 ≤ l.length) (fun p => l.length - p.1) (0, B) (Nat.zero_le _) (by refine ⟨by simp [mkS], by simp [mkS, Tm.mrks], by simp [mkS, O.refsLt], ?_⟩; simp [mkS, Abs.get, C.refsLtT, C.refsLt, C.refsLt1, Tm.mcnts]) ?_
 rintro ⟨i, B1⟩ hi hnext
 dsimp only at hi hnext ⊢
 by_cases h : i < l.length
 ·have hlt : (i : Int) < (l.length : Int) := by omega
  have hd : l.drop i = l[i] :: l.drop (i + 1) := List.drop_eq_getElem_cons h
  have hll : ((Tm.mrks k (l.take i)).map Tm.enc ++ l[i].enc :: (l.drop (i + 1)).map Tm.enc).length = l.length := by simp [Tm.mrks_len]; omega
  have hai : ((Tm.mrks k (l.take i)).map Tm.enc).length = i := by simp [Tm.mrks_len]; omega
  have hnxt : l.take (i + 1) = l.take i ++ [l[i]] := by rw [List.take_add_one, List.getElem?_eq_getElem h]; rfl
  have hcn : Tm.mcnts (l.take (i + 1)) = Tm.mcnts (l.take i) + l[i].mcnt := by rw [hnxt, Tm.mcnts_app]; simp [Tm.mcnts]
  have hcl : Tm.mcnts l = Tm.mcnts (l.take i) + (l[i].mcnt + Tm.mcnts (l.drop (i + 1))) := by
   conv => lhs; rw [← List.take_append_drop i l, hd, Tm.mcnts_app]
   simp [Tm.mcnts]
  have hix := ih l[i] (List.getElem_mem _)
  have hmr : Tm.mrks k (l.take (i + 1)) = Tm.mrks k (l.take i) ++ [l[i].mrk (k + Tm.mcnts (l.take i))] := by rw [hnxt, Tm.mrks_app]; simp [Tm.mrks]
  have hmc := Tm.mcnt_eq l[i]
  rw [hd, List.map_append, List.map_cons]
  have hnx := fun B' s' => hnext (i + 1, B') s' h (by dsimp only; omega)
  clear hnext
  simp only [hmr, hcn, List.map_append, List.map_cons, List.map_nil, Tm.mrk_eq] at hnx
  generalize hx : l[i] = x at *
  generalize hA : (Tm.mrks k (l.take i)).map Tm.enc = A at *
  generalize hZ : (l.drop (i + 1)).map Tm.enc = Z at *
  generalize hk : k + (Tm.mcnts (l.take i) : Int) = kk at *
  have s1 := fun (y : List D) => set_split (x := x.enc) (y := y) (r := Z) hai
  have s2 := fun (y y' : List D) => set_split (x := y) (y := y') (r := Z) hai
  have g1 := fun (y : List D) => at_split (x := y) (r := Z) hai
  have xe := Tm.enc_eq x
  rw [xe] at hll ⊢
  have zk4 : ∀ zk : Nat, x.args.map Tm.enc ≠ [] → (∀ j, j ∈ x.args → 4 = zk) → zk = 4 := fun zk hne hz => by
   cases ha : x.args with
   | nil => simp [ha] at hne
   | cons a r => exact (hz a (by simp [ha])).symm
  have hrow : ∀ ks, (Tm.mk kk (kk + 1) (mText (kk + 2)) ks).enc = [.int .i64 kk, .int .i64 (kk + 1), .str (mText (kk + 1 + 1)), .sl (ks.map Tm.enc)] := fun ks => by
   rw [Tm.enc_eq, show kk + 1 + 1 = kk + 2 by omega]; rfl
  simp only [hrow, List.append_assoc, List.cons_append, List.nil_append] at hnx
  have g2 := fun (y : List D) (Q : List D → Prop) => idx_of (g1 y) Q
  refine run_sound Tryd.func34 mixed 200 _ _ (by kernel_rfl) ?_
  simp only [go_sem, seval, hlt, hll, s2, g1, g2]
  repeat' (first
   | (refine lend_intro (fun hk0 => ?_) (fun hk1 zk e' B2 B3 hzk => ?_) <;> (try simp only [go_sem, seval, hlt, hll, s2, g1, g2]))
   | ((first | (refine br_n (fun hq => ?_) (fun hq => ?_)) | (refine idx_intro (fun x hx => have hq := hx; ?_))) <;> (try simp only [go_sem, seval, hlt, hll, s2, g1, g2, hq]))
   | (simp (disch := omega) only [wrap_ok])
   | ((first
    | (refine all_intro (fun Bz => ?_))
    | (refine (markTermS_0 _).calls rfl ?_)
    | (refine (markText_fn _ sd sd).calls rfl ?_)
    | (refine ⟨sd, ?_⟩)
    | (refine ⟨by assumption, ?_⟩)) <;> (try simp only [go_sem, seval, hlt, hll, s2, g1, g2]))
   | assumption)
  ·have ha : x.args = [] := by simpa using hk0
   have hm0 : Tm.mcnts x.args = 0 := by rw [ha]; rfl
   rw [ha] at hnx ⊢
   refine hnx Bz _ ?_
   refine ⟨by simp [mkS], by simp [mkS, Tm.mrks], by simp [mkS, O.refsLt], ?_⟩; simp [mkS, Abs.get, C.refsLtT, C.refsLt, C.refsLt1]; omega
  ·obtain rfl := zk4 zk hk1 hzk
   refine (hix (kk + 1 + 1 + 1) 0 e' B3 (by omega) (by omega)).at1 rfl 1 rfl rfl ?_
   rintro c o' ⟨rfl, B4, ho⟩
   cases ho
   refine ⟨rfl, rfl, ?_⟩
   simp only [go_sem, seval, C.at1]
   try simp (disch := omega) only [wrap_ok]
   try simp only [go_sem, seval, C.at1]
   refine AW.rejoin 0 1 rfl rfl (by decide) (fun B5 => ?_)
   simp only [go_sem, seval, g1, s2]
   refine hnx B5 _ ?_
   refine ⟨by simp [mkS], by simp [mkS]; rw [show kk + 1 + 1 + 1 = kk + 3 by omega], by simp [mkS, O.refsLt], ?_⟩; simp [mkS, Abs.get, C.refsLtT, C.refsLt, C.refsLt1]; omega
 ·obtain rfl : i = l.length := by omega
  refine run_sound Tryd.func34 mixed 200 _ _ (by kernel_rfl) ?_
  simp only [go_sem, seval, Tm.mrks_len, List.take_length, List.drop_length]
  repeat' (first
   | (exact ⟨_, rfl⟩)
   | ((first | (refine br_n (fun hq => ?_) (fun hq => ?_)) | (refine idx_intro (fun x hx => have hq := hx; ?_))) <;> (try simp only [go_sem, seval, Tm.mrks_len, List.take_length, List.drop_length, hq]))
   | (simp (disch := omega) only [wrap_ok])
   | ((first
    | (refine (markText_fn _ sd sd).calls rfl ?_)
    | (refine ⟨sd, ?_⟩)
    | (refine ⟨by assumption, ?_⟩)) <;> (try simp only [go_sem, seval, Tm.mrks_len, List.take_length, List.drop_length]))
   | assumption)
theorem mTT_args : ∀ t : Tm, mTT t.args := by
 intro t
 induction t using Tm.ind' with
 | h t ih => exact markTermS_T t.args ih
theorem mTT_all (l : List Tm) : mTT l := markTermS_T l (fun x _ => mTT_args x)
def hTT (l : List Tm) : Prop := ∀ k : Int, 0 ≤ k → k + Tm.mcnts l ≤ 1000000000 → Gives Tryd.prog 35 [.sl ((Tm.mrks k l).map Tm.enc), .int .i64 k] (.d (.int .i64 (k + Tm.mcnts l)))
theorem heldTermS_T (l : List Tm) (ih : ∀ x, x ∈ l → hTT x.args) : hTT l := by
 intro k h0 h1
 have hml := Tm.mrks_len l k
 have hlm := Tm.len_mcnts l
 refine ACalls.enter (fn := Tryd.f35) Tryd.func35 rfl (by show 2 ≤ _; decide) ?_
 refine run_sound Tryd.func35 mixed 200 _ _ (by kernel_rfl) ?_
 simp only [go_sem, seval]
 refine AW.lp [0] (fun i : Nat => [(5, .d (.int .i64 i)), (1, .d (.int .i64 (k + Tm.mcnts (l.take i))))]) (fun H _ => H) (fun i => i ≤ l.length) (fun i => l.length - i) 0 (Nat.zero_le _) (by refine ⟨by simp [mkS], by simp [mkS], by simp [mkS, O.refsLt], ?_⟩; simp [mkS, Abs.get, C.refsLtT, C.refsLt, C.refsLt1, Tm.mcnts]) ?_
 intro i hi hnext
 by_cases h : i < l.length
 ·have hlt : (i : Int) < (l.length : Int) := by omega
  have hxi : l[i]? = some l[i] := List.getElem?_eq_getElem h
  have hix := ih l[i] (List.getElem_mem _)
  have hat := Tm.mrks_at l k i _ hxi
  have hnxt : l.take (i + 1) = l.take i ++ [l[i]] := by rw [List.take_add_one, List.getElem?_eq_getElem h]; rfl
  have hcn : Tm.mcnts (l.take (i + 1)) = Tm.mcnts (l.take i) + l[i].mcnt := by rw [hnxt, Tm.mcnts_app]; simp [Tm.mcnts]
  have hcl : Tm.mcnts l = Tm.mcnts (l.take i) + (l[i].mcnt + Tm.mcnts (l.drop (i + 1))) := by
   conv => lhs; rw [← List.take_append_drop i l, List.drop_eq_getElem_cons h, Tm.mcnts_app]
   simp [Tm.mcnts]
  have hmc := Tm.mcnt_eq l[i]
  have hnx := fun s' => hnext (i + 1) s' h (by omega)
  clear hnext
  simp only [hcn] at hnx
  generalize hx : l[i] = x at *
  generalize hk : k + (Tm.mcnts (l.take i) : Int) = kk at *
  generalize hy : x.mrk kk = y at *
  have e2 : kk + 1 + 1 = kk + 2 := by omega
  have e3 : kk + 1 + 1 + 1 = kk + 3 := by omega
  have ye : y.kind = kk ∧ y.int = kk + 1 ∧ y.name = mText (kk + 1 + 1) ∧ y.args = Tm.mrks (kk + 1 + 1 + 1) x.args := by
   rw [← hy, Tm.mrk_eq, e3, e2]; exact ⟨rfl, rfl, rfl, rfl⟩
  have hrec := hix (kk + 1 + 1 + 1) (by omega) (by omega)
  have w1 : IntKind.i64.wrap (kk + 1) = kk + 1 := wrap_ok (by omega) (by omega)
  have w2 : IntKind.i64.wrap (kk + 1 + 1) = kk + 1 + 1 := wrap_ok (by omega) (by omega)
  have w3 : IntKind.i64.wrap (kk + 1 + 1 + 1) = kk + 1 + 1 + 1 := wrap_ok (by omega) (by omega)
  refine run_sound Tryd.func35 mixed 200 _ _ (by kernel_rfl) ?_
  simp only [go_sem, seval, hlt, hml, idx_of hat, ye.1, ye.2.1, ye.2.2.1, ye.2.2.2, w1, w2, w3]
  repeat' (first
   | ((first | (refine br_n (fun hq => ?_) (fun hq => ?_)) | (refine idx_intro (fun x hx => have hq := hx; ?_))) <;> (try simp only [go_sem, seval, hlt, hml, idx_of hat, ye.1, ye.2.1, ye.2.2.1, ye.2.2.2, w1, w2, w3, hq]))
   | (simp (disch := omega) only [wrap_ok])
   | ((first
    | (refine hrec.calls rfl ?_)
    | (refine (markText_fn _ sd sd).calls rfl ?_)
    | (refine (markText_fn _ sd sd).callQ rfl ?_)
    | (refine ⟨sd, ?_⟩)
    | (refine ⟨by assumption, ?_⟩)) <;> (try simp only [go_sem, seval, hlt, hml, idx_of hat, ye.1, ye.2.1, ye.2.2.1, ye.2.2.2, w1, w2, w3]))
   | assumption)
  all_goals first | (exfalso; omega) | skip
  refine hnx _ ?_
  refine ⟨by simp [mkS], by simp [mkS], by simp [mkS, O.refsLt], ?_⟩; simp [mkS, Abs.get, C.refsLtT, C.refsLt, C.refsLt1]; omega
 ·obtain rfl : i = l.length := by omega
  refine run_sound Tryd.func35 mixed 200 _ _ (by kernel_rfl) ?_
  simp only [go_sem, seval, hml, List.take_length]
  repeat' (first
   | ((first | (refine br_n (fun hq => ?_) (fun hq => ?_)) | (refine idx_intro (fun x hx => have hq := hx; ?_))) <;> (try simp only [go_sem, seval, hml, List.take_length, hq]))
   | (simp (disch := omega) only [wrap_ok])
   | ((first
    | (refine (markText_fn _ sd sd).calls rfl ?_)
    | (refine (markText_fn _ sd sd).callQ rfl ?_)
    | (refine ⟨sd, ?_⟩)
    | (refine ⟨by assumption, ?_⟩)) <;> (try simp only [go_sem, seval, hml, List.take_length]))
   | assumption)
theorem hTT_args : ∀ t : Tm, hTT t.args := by
 intro t
 induction t using Tm.ind' with
 | h t ih => exact heldTermS_T t.args ih
theorem hTT_all (l : List Tm) : hTT l := heldTermS_T l (fun x _ => hTT_args x)
theorem eqTmS_of (l : List Tm) (hm : l.length ≤ maxLen) (ih : ∀ x, x ∈ l → Gives Tryd.prog 14 [.agg x.enc, .agg x.enc] (.d (.bool true))) : Gives Tryd.prog 33 [.sl (l.map Tm.enc), .sl (l.map Tm.enc)] (.d (.bool true)) := by
 refine eq33 (l.map Tm.enc) (by simpa using hm) (fun x hx => ?_)
 obtain ⟨y, hy, rfl⟩ := List.mem_map.1 hx
 exact ⟨Tm.enc_len y, ih y hy⟩
theorem eqTm_fn : ∀ t : Tm, wtL t.enc ≤ 9000000 → Gives Tryd.prog 14 [.agg t.enc, .agg t.enc] (.d (.bool true)) := by
 intro t
 induction t using Tm.ind' with
 | h t ih =>
  intro hw
  have hl : t.args.length ≤ 9000000 := by
   have h1 : wtR (t.args.map Tm.enc) ≤ 9000000 := by
    simp only [Tm.enc_eq t, wtL, D.wt] at hw; omega
   have := sumW_le (t.args.map Tm.enc) 0; simp [sumW] at this; omega
  have hmx : maxLen = 9223372036854775807 := rfl
  have h := eqTmS_of t.args (by omega) (fun x hx => ih x hx (by have := wt_args hx; omega))
  have h2 := eq14 t.kind t.int t.name (t.args.map Tm.enc) h
  rw [← Tm.enc_eq t] at h2
  exact h2
end Go.Proofs.YtccphilpfmfagaaDoor
