import Derived.Test.YtbncaodnnbldmaaGreatW41
import Derived.Test.YtbncaodnnbldmaaGreatW25
import Derived.Test.YtbncaodnnbldmaaGreatA8
import Derived.Test.YtbncaodnnbldmaaGreatP7
namespace Go.Proofs.YtbncaodnnbldmaaGreat
open Go.Abs
set_option maxRecDepth 100000
set_option maxHeartbeats 4000000
set_option linter.unusedSimpArgs false
set_option linter.unusedVariables false
theorem prfOk_inv1 {p : Pg} {t : Pf} (h : p.prfOk t = true) : pgOk p = true ∧ p.prf t = true := by
 unfold Pg.prfOk at h
 simp only [Bool.and_eq_true] at h
 exact ⟨h.1, h.2.2⟩
def kidsQ (p : Pg) (n : Nat) (L : List Pf) : Prop := L.length ≤ 1048576 ∧ ∀ k, k ∈ L → p.prf k = true ∧ k.cnt ≤ n ∧ wtL k.enc ≤ 1048576
theorem kidsQ.drop {p : Pg} {n : Nat} {L : List Pf} (h : kidsQ p n L) (m : Nat) : kidsQ p n (L.drop m) :=
 ⟨by have := h.1; simp; omega, fun k hk => h.2 k (List.mem_of_mem_drop hk)⟩
theorem kids_of {p : Pg} {n : Nat} {k : Pf} (hk : p.prf k = true) (hn : k.cnt ≤ n + 1) (hw : wtL k.enc ≤ 1048576) : kidsQ p n k.kids := by
 obtain ⟨_, r, _, _, _, _, _, _, hks⟩ := Pg.prf_kids hk
 refine ⟨?_, fun x hx => ⟨hks x hx, ?_, ?_⟩⟩
 ·have h2 := sumW_le (k.kids.map Pf.enc) 0
  simp only [sumW, List.length_map] at h2
  simp only [Pf.enc_eq k, wtL, D.wt] at hw; omega
 ·rw [Pf.cnt_eq] at hn
  obtain ⟨a, b, hab⟩ := List.append_of_mem hx
  rw [hab] at hn
  have : ∀ a : List Pf, x.cnt ≤ Pf.cnts (a ++ x :: b) := by
   intro a
   induction a with
   | nil => simp [Pf.cnts]
   | cons y a iha => simp only [List.cons_append, Pf.cnts]; omega
  have := this a; omega
 ·have := Pf.wt_kids hx; omega
theorem rels_wt {p : Pg} {r : Rl} (hpw : wtL p.enc ≤ 1048576) (hr : r ∈ p.rels) : wtL r.enc ≤ 1048576 ∧ wtL r.body.enc ≤ 1048576 := by
 have h1 : wtR (p.rels.map Rl.enc) ≤ 1048576 := by simp only [Pg.enc_eq p, wtL, D.wt] at hpw; omega
 have h2 := wtL_lt (p.rels.map Rl.enc) r.enc (List.mem_map.2 ⟨r, hr, rfl⟩)
 have h3 := Rl.wt_body r
 omega
def lkT (p : Pg) (n : Nat) (t : Gl) : Prop := ∀ (i q : Nat) (l : List Int) (L : List Pf) (B : Nat → Prop), i < t.clsS.length → t.clsS.length ≤ 64 → kidsQ p n L → (∃ M, L.map Pf.rel = t.cn i ++ M) → l.length + t.cnt + 60 * Pf.cnts L ≤ 100000000 →
 ACalls Tryz.prog 68 [.d (.agg p.enc), .d (.agg t.enc), .d (.int .i64 i), .d (.sl (L.map Pf.enc)), .own 0 q] [.tree q 1 3 (intsD l) B none] fun c H' => ∃ q' B', c = .tup [.own 0 q', .d (.sl ((L.drop (t.nc i)).map Pf.enc))] ∧ H' = [.tree q' 1 3 (intsD (l ++ t.chK i (L.map p.chP))) B' none]
theorem l26Choices_K (p : Pg) (hp : pgOk p = true) (hpw : wtL p.enc ≤ 1048576) (n0 : Nat) (ihn : ∀ m, m < n0 → ∀ t : Gl, wtL t.enc ≤ 1048576 → lkT p m t) : ∀ t : Gl, wtL t.enc ≤ 1048576 → lkT p n0 t := by
 intro t
 induction t using Gl.ind' with
 | h t ih =>
  intro hw i q l L B hi hl hL hcnm hln
  have hmx : maxLen = 9223372036854775807 := rfl
  have z0 : ((0 : Nat) : Int) = 0 := rfl
  have hcn := Gl.cnt_eq t
  have hgl : t.goals.length ≤ 1048576 := by
   have hwg : wtR (t.goals.map Gl.enc) ≤ 1048576 := by simp only [Gl.enc_eq t, wtL, D.wt] at hw; omega
   have := sumW_le (t.goals.map Gl.enc) 0; simp [sumW] at this; omega
  rw [Gl.chK_eq, Gl.nc_eq]
  rw [Gl.cn_eq] at hcnm
  by_cases h7 : t.kind = 7
  ·have h8 : ¬ t.kind = 8 := by omega
   obtain ⟨hs1, hs2, hs3⟩ := Gl.and_parts h7 hi hl
   simp only [if_neg h8, if_pos h7] at hcnm ⊢
   have hpp := Gl.prd_pos (l := t.goals) (by omega)
   refine ACalls.enter (fn := Tryz.f68) Tryz.func68 rfl (by show 5 ≤ _; decide) ?_
   refine run_sound Tryz.func68 mixed 200 _ _ (by kernel_rfl) ?_
   simp only [go_sem, seval, h7]
   repeat' (first
    | ((first | (refine br_n (fun hq => ?_) (fun hq => ?_)) | (refine idx_intro (fun x hx => have hq := hx; ?_))) <;> (try simp only [go_sem, seval, h7, hq]))
    | (simp (disch := omega) only [wrap_ok])
    | ((first
     | (refine (l14Find_fn _ _).calls rfl ?_)
     | (refine (l14Find_fn _ _).callQ rfl ?_)
     | (refine ⟨sd, ?_⟩)
     | (refine ⟨by assumption, ?_⟩)) <;> (try simp only [go_sem, seval, h7]))
    | assumption)
   refine AW.rng t.goals [2, 3, 4, 5, 6, 24, 25] 26 24 (fun n : Nat => [(12, .d (.int .i64 n))]) (fun _ n => [.tree q 1 3 (intsD l) B none, .box (p.enc.map .d), .box (t.enc.map .d)]) (fun r n => n * Gl.prd r = Gl.prd t.goals) 1 rfl (by simp) (by simp) (by refine ⟨by simp [mkS], by simp [mkS], by simp only [mkS, List.all_cons, List.all_nil, O.refsLt, C.refsLt, C.refsLt1, all_dmap]; first | done | rfl | (simp; done), ?_⟩; simp [mkS, Abs.get, C.refsLtT, C.refsLt, C.refsLt1]) (fun j x r n hxj hdr hlt hm hinv hnext => ?_) (fun n hinv => ?_)
   ·have hxm := List.mem_of_getElem? hxj
    have hxw : wtL x.enc ≤ 1048576 := by have := Gl.wt_goals hxm; omega
    have hlc := l16Clauses_fn x hxw
    simp only [Gl.prd] at hinv
    rw [← Nat.mul_assoc] at hinv
    have hnb : n * x.clsS.length ≤ 64 := by
     have h1 : 0 < Gl.prd r := by
      rcases Nat.eq_zero_or_pos (Gl.prd r) with h | h
      ·rw [h] at hinv; omega
      ·exact h
     have := Nat.le_mul_of_pos_right (n * x.clsS.length) h1
     omega
    have hmu : (n : Int) * (x.clsS.length : Int) = ((n * x.clsS.length : Nat) : Int) := rfl
    have hwr : IntKind.i64.wrap ((n * x.clsS.length : Nat) : Int) = ((n * x.clsS.length : Nat) : Int) := by
     generalize n * x.clsS.length = m at *
     exact wrap_ok (by omega) (by omega)
    refine run_sound Tryz.func68 mixed 200 _ _ (by kernel_rfl) ?_
    simp only [go_sem, seval, hlt, idx_of hxj, hmu, hwr]
    repeat' (first
     | ((first | (refine br_n (fun hq => ?_) (fun hq => ?_)) | (refine idx_intro (fun x hx => have hq := hx; ?_))) <;> (try simp only [go_sem, seval, hlt, idx_of hxj, hmu, hwr, hq]))
     | (simp (disch := omega) only [wrap_ok])
     | ((first
      | (refine hlc.calls rfl ?_)
      | (refine (l14Find_fn _ _).calls rfl ?_)
      | (refine (l14Find_fn _ _).callQ rfl ?_)
      | (refine ⟨sd, ?_⟩)
      | (refine ⟨by assumption, ?_⟩)) <;> (try simp only [go_sem, seval, hlt, idx_of hxj, hmu, hwr]))
     | assumption)
    refine hnext (n * x.clsS.length) _ hinv (by refine ⟨by simp [mkS], by simp [mkS], by simp only [mkS, List.all_cons, List.all_nil, O.refsLt, C.refsLt, C.refsLt1, all_dmap]; first | done | rfl | (simp; done), ?_⟩; simp [mkS, Abs.get, C.refsLtT, C.refsLt, C.refsLt1])
   ·simp only [Gl.prd, Nat.mul_one] at hinv
    subst hinv
    refine run_sound Tryz.func68 mixed 200 _ _ (by kernel_rfl) ?_
    simp only [go_sem, seval]
    repeat' (first
     | ((first | (refine br_n (fun hq => ?_) (fun hq => ?_)) | (refine idx_intro (fun x hx => have hq := hx; ?_))) <;> (try simp only [go_sem, seval, hq]))
     | (simp (disch := omega) only [wrap_ok])
     | ((first
      | (refine (l14Find_fn _ _).calls rfl ?_)
      | (refine (l14Find_fn _ _).callQ rfl ?_)
      | (refine ⟨sd, ?_⟩)
      | (refine ⟨by assumption, ?_⟩)) <;> (try simp only [go_sem, seval]))
     | assumption)
    refine AW.rng t.goals [5, 37, 38] 39 37 (fun u : Nat × List Int × (Nat → Prop) × Nat × Nat × List Pf => [(12, .d (.int .i64 u.2.2.2.1)), (2, .d (.int .i64 u.2.2.2.2.1)), (3, .d (.sl (u.2.2.2.2.2.map Pf.enc))), (4, .own 0 u.1)]) (fun _ u => [.tree u.1 1 3 (intsD u.2.1) u.2.2.1 none, .box (p.enc.map .d), .box (t.enc.map .d)]) (fun r u => u.2.2.2.1 = Gl.prd r ∧ u.2.2.2.2.1 < Gl.prd r ∧ Gl.prd r ≤ 64 ∧ u.2.1 ++ Gl.chKAnd r u.2.2.2.2.1 (u.2.2.2.2.2.map p.chP) = l ++ Gl.chKAnd t.goals i (L.map p.chP) ∧ u.2.1.length + Gl.cnts r + 60 * Pf.cnts u.2.2.2.2.2 ≤ l.length + Gl.cnts t.goals + 60 * Pf.cnts L ∧ kidsQ p n0 u.2.2.2.2.2 ∧ (∃ M, u.2.2.2.2.2.map Pf.rel = Gl.cnAnd r u.2.2.2.2.1 ++ M) ∧ u.2.2.2.2.2.drop (Gl.ncAnd r u.2.2.2.2.1) = L.drop (Gl.ncAnd t.goals i)) (q, l, B, Gl.prd t.goals, i, L) rfl (by simp) ⟨rfl, hs1, hs2, rfl, Nat.le_refl _, hL, hcnm, rfl⟩ (by refine ⟨by simp [mkS], by simp [mkS], by simp only [mkS, List.all_cons, List.all_nil, O.refsLt, C.refsLt, C.refsLt1, all_dmap]; first | done | rfl | (simp; done), ?_⟩; simp [mkS, Abs.get, C.refsLtT, C.refsLt, C.refsLt1]) (fun j x r u hxj hdr hlt hm hinv hnext => ?_) (fun u hinv => ?_)
    ·obtain ⟨q1, l1, B1, rest, idx, L1⟩ := u
     obtain ⟨h1, h2, h3, h4, h5, h6, ⟨M, h7m⟩, h9⟩ := hinv
     dsimp only at h1 h2 h3 h4 h5 h6 h7m h9 hnext ⊢
     have hxm := List.mem_of_getElem? hxj
     have hxw : wtL x.enc ≤ 1048576 := by have := Gl.wt_goals hxm; omega
     have hxl := hs3 x hxm
     have hxp := hpp x hxm
     have hlc := l16Clauses_fn x hxw
     simp only [Gl.prd, Gl.chKAnd, Gl.cnts, Gl.cnAnd, Gl.ncAnd] at h1 h2 h3 h4 h5 h7m h9
     have hchl := x.chK_len p.chP (idx / Gl.prd r) L1 (fun k hk => Pg.chP_len hp k (h6.2 k hk).1)
     have hmod := fun L => Gl.chKAnd_mod r idx (Gl.prd r) L ⟨1, by simp⟩
     have hcmod := Gl.cnAnd_mod r idx (Gl.prd r) ⟨1, by simp⟩
     generalize hP : Gl.prd r = P at *
     subst h1
     have hP0 : 0 < P := by
      rcases Nat.eq_zero_or_pos P with h | h
      ·rw [h] at h2; omega
      ·exact h
     have hil : idx / P < x.clsS.length := by rw [Nat.div_lt_iff_lt_mul hP0]; exact h2
     rw [Nat.mod_eq_of_lt hil] at h4 h7m h9
     rw [List.append_assoc] at h7m
     have hxi := ih x hxm hxw (idx / P) q1 l1 L1 B1 hil hxl h6 ⟨_, h7m⟩ (by omega)
     have hdr7 := rel_drop h7m
     rw [Gl.cn_len] at hdr7
     have hP64 : P ≤ 64 := Nat.le_trans (Nat.le_mul_of_pos_left P hxp) h3
     have hq1 : ((x.clsS.length * P : Nat) : Int).tdiv (x.clsS.length : Int) = (P : Int) := by
      show ((x.clsS.length * P / x.clsS.length : Nat) : Int) = (P : Int)
      rw [Nat.mul_div_cancel_left _ hxp]
     have hw1 : IntKind.i64.wrap (P : Int) = (P : Int) := wrap_ok (by omega) (by omega)
     have hn1 : ¬ (x.clsS.length : Int) = 0 := by omega
     have hn2 : ¬ (P : Int) = 0 := by omega
     have hdle := Nat.div_le_self idx P
     have hw2 : IntKind.i64.wrap ((idx / P : Nat) : Int) = ((idx / P : Nat) : Int) := by
      generalize idx / P = m at *
      exact wrap_ok (by omega) (by omega)
     have hq2 : (idx : Int).tdiv (P : Int) = ((idx / P : Nat) : Int) := rfl
     have hq3 : (idx : Int).tmod (P : Int) = ((idx % P : Nat) : Int) := rfl
     refine run_sound Tryz.func68 mixed 12 _ _ (by kernel_rfl) ?_
     simp only [go_sem, seval, run.eq_1, hlt, idx_of hxj, hn1, hq1, hw1]
     repeat' (first
      | ((first | (refine br_n (fun hq => ?_) (fun hq => ?_)) | (refine idx_intro (fun x hx => have hq := hx; ?_))) <;> (try simp only [go_sem, seval, hlt, idx_of hxj, hn1, hq1, hw1, run.eq_1, hq]))
      | (simp (disch := omega) only [wrap_ok])
      | ((first
       | (refine hlc.calls rfl ?_)
       | (refine (l14Find_fn _ _).calls rfl ?_)
       | (refine (l14Find_fn _ _).callQ rfl ?_)
       | (refine ⟨sd, ?_⟩)
       | (refine ⟨by assumption, ?_⟩)) <;> (try simp only [go_sem, seval, hlt, idx_of hxj, hn1, hq1, hw1, run.eq_1]))
      | assumption)
     refine AW.drawA mixed #[true, true, true, true, true, true, true, true, true, true, true, true, false] [(1, .box (p.enc.map .d)), (2, .box (t.enc.map .d)), (3, .box (x.enc.map .d))] [] [0, 1, 2, 3, 4, 5, 6, 7, 8, 9, 10, 11] [12] none (by kernel_rfl) trivial (by simp [holdsB]) ?_
     simp only [go_sem, seval, hn2, hq2, hw2]
     refine hxi.frame (X := [_, _, _]) rfl rfl ?_
     rintro c H' ⟨q2, B2, rfl, rfl⟩ _
     simp only [go_sem, seval]
     refine run_sound Tryz.func68 mixed 200 _ _ (by kernel_rfl) ?_
     simp only [go_sem, seval, hn2, hq3]
     repeat' (first
      | ((first | (refine br_n (fun hq => ?_) (fun hq => ?_)) | (refine idx_intro (fun x hx => have hq := hx; ?_))) <;> (try simp only [go_sem, seval, hn2, hq3, hq]))
      | (simp (disch := omega) only [wrap_ok])
      | ((first
       | (refine (l14Find_fn _ _).calls rfl ?_)
       | (refine (l14Find_fn _ _).callQ rfl ?_)
       | (refine ⟨sd, ?_⟩)
       | (refine ⟨by assumption, ?_⟩)) <;> (try simp only [go_sem, seval, hn2, hq3]))
      | assumption)
     refine hnext (q2, l1 ++ x.chK (idx / P) (L1.map p.chP), B2, P, idx % P, L1.drop (x.nc (idx / P))) _ ⟨rfl, Nat.mod_lt _ hP0, hP64, by dsimp only; rw [(hmod _).1, List.append_assoc, List.map_drop]; exact h4, by dsimp only; rw [List.length_append]; omega, h6.drop _, ⟨M, by dsimp only; rw [hcmod]; exact hdr7⟩, by dsimp only; rw [(hmod []).2, List.drop_drop]; exact h9⟩ (by refine ⟨by simp [mkS], by simp [mkS], by simp only [mkS, List.all_cons, List.all_nil, O.refsLt, C.refsLt, C.refsLt1, all_dmap]; first | done | rfl | (simp; done), ?_⟩; simp [mkS, Abs.get, C.refsLtT, C.refsLt, C.refsLt1])
    ·obtain ⟨h1, h2, h3, h4, h5, h6, _, h9⟩ := hinv
     simp only [Gl.chKAnd, List.append_nil, Gl.ncAnd, List.drop_zero] at h4 h9
     rw [← h4, ← h9]
     refine run_sound Tryz.func68 mixed 200 _ _ (by kernel_rfl) ?_
     simp only [go_sem, seval]
     repeat' (first
      | (exact ⟨_, _, rfl, rfl⟩)
      | ((first | (refine br_n (fun hq => ?_) (fun hq => ?_)) | (refine idx_intro (fun x hx => have hq := hx; ?_))) <;> (try simp only [go_sem, seval, hq]))
      | (simp (disch := omega) only [wrap_ok])
      | ((first
       | (refine (l14Find_fn _ _).calls rfl ?_)
       | (refine (l14Find_fn _ _).callQ rfl ?_)
       | (refine ⟨sd, ?_⟩)
       | (refine ⟨by assumption, ?_⟩)) <;> (try simp only [go_sem, seval]))
      | assumption)
  ·by_cases h8 : t.kind = 8
   ·obtain ⟨hs1, hs2, hs3⟩ := Gl.or_parts h8 hi hl
    simp only [if_pos h8] at hcnm ⊢
    refine ACalls.enter (fn := Tryz.f68) Tryz.func68 rfl (by show 5 ≤ _; decide) ?_
    refine run_sound Tryz.func68 mixed 200 _ _ (by kernel_rfl) ?_
    simp only [go_sem, seval, h7, h8]
    repeat' (first
     | ((first | (refine br_n (fun hq => ?_) (fun hq => ?_)) | (refine idx_intro (fun x hx => have hq := hx; ?_))) <;> (try simp only [go_sem, seval, h7, h8, hq]))
     | (simp (disch := omega) only [wrap_ok])
     | ((first
      | (refine (l14Find_fn _ _).calls rfl ?_)
      | (refine (l14Find_fn _ _).callQ rfl ?_)
      | (refine ⟨sd, ?_⟩)
      | (refine ⟨by assumption, ?_⟩)) <;> (try simp only [go_sem, seval, h7, h8]))
     | assumption)
    refine AW.lp [3, 4, 5, 6] (fun u : Nat × Nat => [(17, .d (.int .i64 u.1)), (2, .d (.int .i64 u.2))]) (fun _ u => [.tree q 1 3 (intsD l) B none, .box (p.enc.map .d), .box (t.enc.map .d)]) (fun u => u.1 ≤ t.goals.length ∧ Gl.chKOr (t.goals.drop u.1) u.1 u.2 (L.map p.chP) = Gl.chKOr t.goals 0 i (L.map p.chP) ∧ Gl.ncOr (t.goals.drop u.1) u.2 = Gl.ncOr t.goals i ∧ Gl.cnOr (t.goals.drop u.1) u.2 = Gl.cnOr t.goals i ∧ u.2 < ((t.goals.drop u.1).map fun x => x.clsS.length).sum ∧ u.2 < 64) (fun u => t.goals.length - u.1) (0, i) ⟨by simp, by simp, by simp, by simp, by simpa using hs1, by omega⟩ (by refine ⟨by simp [mkS], by simp [mkS], by simp only [mkS, List.all_cons, List.all_nil, O.refsLt, C.refsLt, C.refsLt1, all_dmap]; first | done | rfl | (simp; done), ?_⟩; simp [mkS, Abs.get, C.refsLtT, C.refsLt, C.refsLt1]) ?_
    rintro ⟨k, idx⟩ ⟨hk, hk1, hk4, hk5, hk2, hk3⟩ hnext
    dsimp only at hk hk1 hk2 hk3 hk4 hk5 hnext ⊢
    have hkl : k < t.goals.length := by
     rcases Nat.lt_or_ge k t.goals.length with h | h
     ·exact h
     ·rw [List.drop_eq_nil_of_le h] at hk2; simp at hk2
    obtain ⟨x, hx⟩ : ∃ x, t.goals[k]? = some x := ⟨_, List.getElem?_eq_getElem hkl⟩
    obtain ⟨k1, k2⟩ := List.getElem?_eq_some_iff.1 hx
    rw [List.drop_eq_getElem_cons k1, k2] at hk1 hk2 hk4 hk5
    simp only [Gl.chKOr] at hk1
    simp only [Gl.ncOr] at hk4
    simp only [Gl.cnOr] at hk5
    simp only [List.map_cons, List.sum_cons] at hk2
    have hxm := List.mem_of_getElem? hx
    have hxw : wtL x.enc ≤ 1048576 := by have := Gl.wt_goals hxm; omega
    have hxl := hs3 x hxm
    have hlc := l16Clauses_fn x hxw
    have hkk : (k : Int) < (t.goals.length : Int) := by omega
    have hkw : IntKind.i64.wrap ((k : Int) + 1) = (k : Int) + 1 := wrap_ok (by omega) (by omega)
    by_cases hb : idx < x.clsS.length
    ·rw [if_pos hb] at hk1 hk4 hk5
     have hlb : ¬ (x.clsS.length : Int) ≤ (idx : Int) := by omega
     rw [← hk1, ← hk4]
     rw [← hk5] at hcnm
     refine run_sound Tryz.func68 mixed 6 _ _ (by kernel_rfl) ?_
     simp only [go_sem, seval, run.eq_1, hkk, idx_of hx, hlb]
     repeat' (first
      | ((first | (refine br_n (fun hq => ?_) (fun hq => ?_)) | (refine idx_intro (fun x hx => have hq := hx; ?_))) <;> (try simp only [go_sem, seval, hkk, idx_of hx, hlb, run.eq_1, hq]))
      | (simp (disch := omega) only [wrap_ok])
      | ((first
       | (refine hlc.calls rfl ?_)
       | (refine (l14Find_fn _ _).calls rfl ?_)
       | (refine (l14Find_fn _ _).callQ rfl ?_)
       | (refine ⟨sd, ?_⟩)
       | (refine ⟨by assumption, ?_⟩)) <;> (try simp only [go_sem, seval, hkk, idx_of hx, hlb, run.eq_1]))
      | assumption)
     have hxi := ih x hxm hxw idx (q + 1) (l ++ [(k : Int)]) L
     have hxc : x.cnt ≤ Gl.cnts t.goals := by
      obtain ⟨a, b, hab⟩ := List.append_of_mem hxm
      rw [hab]
      clear hab
      induction a with
      | nil => simp [Gl.cnts]
      | cons y a iha => simp only [List.cons_append, Gl.cnts]; omega
     refine AW.drawA mixed #[true, true, true, true, true, true, true, true, true, true, true, true, true, true, true, false, false] [(1, .box (p.enc.map .d)), (2, .box (t.enc.map .d))] [] [0, 1, 2, 3, 4, 5, 6, 7, 8, 9, 10, 11, 12, 13, 14] [15, 16] none (by kernel_rfl) trivial (by simp [holdsB]) ?_
     simp only [go_sem, seval, hkk, idx_of hx]
     repeat' (first
      | ((first | (refine br_n (fun hq => ?_) (fun hq => ?_)) | (refine idx_intro (fun x hx => have hq := hx; ?_))) <;> (try simp only [go_sem, seval, hkk, idx_of hx, intsD_ln, hq]))
      | (simp (disch := omega) only [wrap_ok])
      | ((first
       | (refine all_intro (fun Bz => ?_))
       | (refine (l14Find_fn _ _).calls rfl ?_)
       | (refine (l14Find_fn _ _).callQ rfl ?_)
       | (refine ⟨sd, ?_⟩)
       | (refine ⟨by assumption, ?_⟩)) <;> (try simp only [go_sem, seval, hkk, idx_of hx, intsD_ln]))
      | assumption)
     have hx2 := hxi Bz hb hxl hL hcnm (by simp only [List.length_append, List.length_cons, List.length_nil]; omega)
     rw [intsD_app] at hx2
     refine hx2.frame (X := [_, _]) rfl rfl ?_
     rintro c H' ⟨q2, B2, rfl, rfl⟩ _
     simp only [go_sem, seval]
     refine run_sound Tryz.func68 mixed 200 _ _ (by kernel_rfl) ?_
     simp only [go_sem, seval]
     repeat' (first
      | (exact ⟨_, B2, rfl, by simp [intsD_app]⟩)
      | ((first | (refine br_n (fun hq => ?_) (fun hq => ?_)) | (refine idx_intro (fun x hx => have hq := hx; ?_))) <;> (try simp only [go_sem, seval, hq]))
      | (simp (disch := omega) only [wrap_ok])
      | ((first
       | (refine (l14Find_fn _ _).calls rfl ?_)
       | (refine (l14Find_fn _ _).callQ rfl ?_)
       | (refine ⟨sd, ?_⟩)
       | (refine ⟨by assumption, ?_⟩)) <;> (try simp only [go_sem, seval]))
      | assumption)
    ·rw [if_neg hb] at hk1 hk4 hk5
     have hlb : (x.clsS.length : Int) ≤ (idx : Int) := by omega
     have hsub : (idx : Int) - (x.clsS.length : Int) = ((idx - x.clsS.length : Nat) : Int) := by omega
     have hwr : IntKind.i64.wrap ((idx - x.clsS.length : Nat) : Int) = ((idx - x.clsS.length : Nat) : Int) := wrap_ok (by omega) (by omega)
     refine run_sound Tryz.func68 mixed 200 _ _ (by kernel_rfl) ?_
     simp only [go_sem, seval, hkk, idx_of hx, hlb, hsub, hwr, hkw]
     repeat' (first
      | ((first | (refine br_n (fun hq => ?_) (fun hq => ?_)) | (refine idx_intro (fun x hx => have hq := hx; ?_))) <;> (try simp only [go_sem, seval, hkk, idx_of hx, hlb, hsub, hwr, hkw, hq]))
      | (simp (disch := omega) only [wrap_ok])
      | ((first
       | (refine hlc.calls rfl ?_)
       | (refine (l14Find_fn _ _).calls rfl ?_)
       | (refine (l14Find_fn _ _).callQ rfl ?_)
       | (refine ⟨sd, ?_⟩)
       | (refine ⟨by assumption, ?_⟩)) <;> (try simp only [go_sem, seval, hkk, idx_of hx, hlb, hsub, hwr, hkw]))
      | assumption)
     refine hnext (k + 1, idx - x.clsS.length) _ ⟨by show k + 1 ≤ _; omega, hk1, hk4, hk5, by dsimp only; omega, by dsimp only; omega⟩ (by dsimp only; omega) (by refine ⟨by simp [mkS], by simp [mkS], by simp only [mkS, List.all_cons, List.all_nil, O.refsLt, C.refsLt, C.refsLt1, all_dmap]; first | done | rfl | (simp; done), ?_⟩; simp [mkS, Abs.get, C.refsLtT, C.refsLt, C.refsLt1])
   ·simp only [if_neg h8, if_neg h7] at hcnm ⊢
    by_cases h9 : t.kind = 9
    ·simp only [if_pos h9] at hcnm ⊢
     obtain ⟨M, hM⟩ := hcnm
     cases L with
     | nil => simp at hM
     | cons k L =>
      simp only [List.map_cons, List.cons_append, List.nil_append, List.cons.injEq] at hM
      obtain ⟨hkp, hkc, hkw⟩ := hL.2 k (by simp)
      obtain ⟨f0, r, hre, hrm, hrl, c0, c1, hkn, _⟩ := Pg.prf_kids hkp
      rw [hM.1] at f0 hre
      obtain ⟨m, hm⟩ : ∃ m : Nat, k.clause = m := ⟨k.clause.toNat, by omega⟩
      have hme : k.clause.toNat = m := by omega
      have hch := Pg.chP_at (p := p) (t := k) (r := r) (by rw [hM.1]; exact hre)
      rw [hme] at hch c1 hkn
      obtain ⟨w1, w2⟩ := rels_wt hpw hrm
      have hkc1 := Pf.cnt_pos k
      have hkn1 := Pf.cnt_eq k
      obtain ⟨mm, hmm⟩ : ∃ m : Nat, (m : Int) = r.arity + r.locals := ⟨k.values.length, by
       obtain ⟨_, r1, hr1, e1, _⟩ := Pg.prf_head hkp
       rw [hM.1, hre] at hr1; cases hr1; exact e1⟩
      obtain ⟨_, _, _, _, _, hb60⟩ := Pg.body_inst hp hrm hmm
      simp only [Pf.cnts] at hln
      have hin := ihn (k.cnt - 1) (by omega) r.body w2 m q l k.kids B c1 hrl (kids_of hkp (by omega) hkw) ⟨[], by rw [hkn, List.append_nil]⟩ (by omega)
      have hrel := l14Find_fn p t.name
      have hidx : p.find t.name = (((p.find t.name).toNat : Nat) : Int) := by omega
      have hlen : ((0 : Int) < (L.length : Int) + 1) = True := eq_true (by omega)
      have hre2 : (p.rels.map Rl.enc)[(p.find t.name).toNat]? = some r.enc := by simp [hre]
      have hfl : ((p.find t.name).toNat : Int) < (p.rels.length : Int) := by have := (List.getElem?_eq_some_iff.1 hre).1; omega
      simp only [List.map_cons, List.headD_cons, List.drop_succ_cons, List.drop_zero]
      rw [hch]
      refine ACalls.enter (fn := Tryz.f68) Tryz.func68 rfl (by show 5 ≤ _; decide) ?_
      refine run_sound Tryz.func68 mixed 19 _ _ (by kernel_rfl) ?_
      simp only [go_sem, seval, run.eq_1, h7, h8, h9, z0, hlen]
      repeat' (first
       | ((first | (refine br_n (fun hq => ?_) (fun hq => ?_)) | (refine idx_intro (fun x hx => have hq := hx; ?_))) <;> (try simp only [go_sem, seval, h7, h8, h9, z0, hlen, run.eq_1, hq]))
       | (simp (disch := omega) only [wrap_ok])
       | ((first
        | (refine (l14Find_fn _ _).calls rfl ?_)
        | (refine (l14Find_fn _ _).callQ rfl ?_)
        | (refine ⟨sd, ?_⟩)
        | (refine ⟨by assumption, ?_⟩)) <;> (try simp only [go_sem, seval, h7, h8, h9, z0, hlen, run.eq_1]))
       | assumption)
      refine AW.drawA mixed #[true, true, true, true, true, true, true, true, true, false] [(1, .box (p.enc.map .d)), (2, .box (t.enc.map .d))] [] [0, 1, 2, 3, 4, 8, 5, 6, 7] [9] (some (8, 18, 82, [.string ⟨#[]⟩, .int .i64 0, .int .i64 0, .int .i64 0, .string ⟨#[]⟩, .slice none 0 0, .slice none 0 0])) (by kernel_rfl) tz82 (by simp [holdsB]) ?_
      simp only [go_sem, seval, idx_of hre2]
      repeat' (first
       | ((first | (refine br_n (fun hq => ?_) (fun hq => ?_)) | (refine idx_intro (fun x hx => have hq := hx; ?_))) <;> (try simp only [go_sem, seval, idx_of hre2, hq]))
       | (simp (disch := omega) only [wrap_ok])
       | ((first
        | (refine hrel.calls rfl ?_)
        | (refine (l14Find_fn _ _).calls rfl ?_)
        | (refine (l14Find_fn _ _).callQ rfl ?_)
        | (refine ⟨sd, ?_⟩)
        | (refine ⟨by assumption, ?_⟩)) <;> (try simp only [go_sem, seval, idx_of hre2]))
       | assumption)
      obtain rfl : r = x := by rw [hre] at hx; exact Option.some.inj hx
      refine run_sound Tryz.func68 mixed 1 _ _ (by kernel_rfl) ?_
      simp only [go_sem, seval, run.eq_1]
      refine AW.drawA mixed #[true, true, true, true, true, true, true, true, true, true, true, true, true, true, true, true, false] [(1, .box (p.enc.map .d)), (2, .box (t.enc.map .d)), (3, .box (r.enc.map .d))] [] [0, 1, 2, 3, 4, 5, 6, 7, 8, 9, 10, 11, 12, 13, 15, 14] [16] none (by kernel_rfl) trivial (by simp [holdsB]) ?_
      simp only [go_sem, seval, hm, hlen]
      repeat' (first
       | ((first | (refine br_n (fun hq => ?_) (fun hq => ?_)) | (refine idx_intro (fun x hx => have hq := hx; ?_))) <;> (try simp only [go_sem, seval, hm, hlen, hq]))
       | (simp (disch := omega) only [wrap_ok])
       | ((first
        | (refine (l14Find_fn _ _).calls rfl ?_)
        | (refine (l14Find_fn _ _).callQ rfl ?_)
        | (refine ⟨sd, ?_⟩)
        | (refine ⟨by assumption, ?_⟩)) <;> (try simp only [go_sem, seval, hm, hlen]))
       | assumption)
      refine hin.frame (X := [_, _, _]) rfl rfl ?_
      rintro c H' ⟨q2, B2, rfl, rfl⟩ _
      simp only [go_sem, seval]
      refine run_sound Tryz.func68 mixed 200 _ _ (by kernel_rfl) ?_
      simp only [go_sem, seval, hlen]
      repeat' (first
       | (exact ⟨_, _, rfl, rfl⟩)
       | ((first | (refine br_n (fun hq => ?_) (fun hq => ?_)) | (refine idx_intro (fun x hx => have hq := hx; ?_))) <;> (try simp only [go_sem, seval, hlen, hq]))
       | (simp (disch := omega) only [wrap_ok])
       | ((first
        | (refine (l14Find_fn _ _).calls rfl ?_)
        | (refine (l14Find_fn _ _).callQ rfl ?_)
        | (refine ⟨sd, ?_⟩)
        | (refine ⟨by assumption, ?_⟩)) <;> (try simp only [go_sem, seval, hlen]))
       | assumption)
    ·simp only [if_neg h9, List.append_nil, List.drop_zero] at hcnm ⊢
     refine ACalls.enter (fn := Tryz.f68) Tryz.func68 rfl (by show 5 ≤ _; decide) ?_
     refine run_sound Tryz.func68 mixed 200 _ _ (by kernel_rfl) ?_
     simp only [go_sem, seval, h7, h8, h9]
     repeat' (first
      | (exact ⟨_, _, rfl, rfl⟩)
      | ((first | (refine br_n (fun hq => ?_) (fun hq => ?_)) | (refine idx_intro (fun x hx => have hq := hx; ?_))) <;> (try simp only [go_sem, seval, h7, h8, h9, hq]))
      | (simp (disch := omega) only [wrap_ok])
      | ((first
       | (refine (l14Find_fn _ _).calls rfl ?_)
       | (refine (l14Find_fn _ _).callQ rfl ?_)
       | (refine ⟨sd, ?_⟩)
       | (refine ⟨by assumption, ?_⟩)) <;> (try simp only [go_sem, seval, h7, h8, h9]))
      | assumption)
theorem l26Choices_R (p : Pg) (hp : pgOk p = true) (hpw : wtL p.enc ≤ 1048576) (n : Nat) : ∀ t : Gl, wtL t.enc ≤ 1048576 → lkT p n t := by
 induction n using Nat.strongRecOn with
 | ind n ih => exact l26Choices_K p hp hpw n ih
theorem sProofChoices_fn (p : Pg) (t : Pf) (hwp : wtL p.enc ≤ 1048576) (hw : wtL t.enc ≤ 1048576) : Gives Tryz.prog 23 [.agg p.enc, .agg t.enc] (.tup [.d (.sl (intsD (pcV p t))), .d (.bool (p.prfOk t))]) := by
 have hmx : maxLen = 9223372036854775807 := rfl
 have hok := sProofOk_fn p t hwp hw
 unfold pcV
 by_cases h : p.prfOk t = true
 ·obtain ⟨h1, h2⟩ := prfOk_inv1 h
  have hc2 : t.cnt ≤ 200 := by
   unfold Pg.prfOk at h
   simp only [Bool.and_eq_true, decide_eq_true_eq] at h
   exact h.2.1
  have hch := Pg.chP_len h1 t h2
  have hrl : t.rel.length ≤ 1048576 := by simp only [Pf.enc_eq t, wtL, D.wt] at hw; omega
  have hx := l26Choices_R p h1 hwp t.cnt (.mk 9 t.rel [] []) (by simp [Gl.enc_eq, Gl.kind, Gl.name, Gl.terms, Gl.goals, wtL, D.wt, wtR]; omega) 0 0 [] [t] (fun _ => False) (by simp [Gl.clsS_eq, Gl.kind]) (by simp [Gl.clsS_eq, Gl.kind]) ⟨by simp, fun k hk => by simp at hk; subst hk; exact ⟨h2, Nat.le_refl _, hw⟩⟩ ⟨[], by simp [Gl.cn_eq, Gl.kind, Gl.name]⟩ (by simp [Gl.cnt_eq, Gl.goals, Gl.cnts, Pf.cnts]; omega)
  have hge : (Gl.mk 9 t.rel [] []).enc = [.int .i64 9, .str t.rel, .sl [], .sl []] := by rw [Gl.enc_eq]; simp [Gl.kind, Gl.name, Gl.terms, Gl.goals]
  simp only [Gl.nc_eq, Gl.chK_eq, Gl.kind, hge, List.map_cons, List.map_nil, List.headD_cons, List.nil_append, intsD_nl] at hx
  rw [h] at hok ⊢
  simp only [if_true]
  refine ACalls.enter (fn := Tryz.f23) Tryz.func23 rfl (by show 2 ≤ _; decide) ?_
  refine run_sound Tryz.func23 mixed 8 _ _ (by kernel_rfl) ?_
  simp only [go_sem, seval, run.eq_1]
  repeat' (first
   | ((first | (refine br_n (fun hq => ?_) (fun hq => ?_)) | (refine idx_intro (fun x hx => have hq := hx; ?_))) <;> (try simp only [go_sem, seval, run.eq_1, hq]))
   | (simp (disch := omega) only [wrap_ok])
   | ((first
    | (refine hok.calls rfl ?_)
    | (refine (sProofOk_fn _ _ sd sd).calls rfl ?_)
    | (refine ⟨sd, ?_⟩)
    | (refine ⟨by assumption, ?_⟩)) <;> (try simp only [go_sem, seval, run.eq_1]))
   | assumption)
  refine AW.regT ?_
  simp only [go_sem, seval]
  refine ACalls.nilLastC (ds := [.agg p.enc, .agg [.int .i64 9, .str t.rel, .sl [], .sl []], .int .i64 0, .sl [t.enc]]) (z := 1) (by decide) hx (r := .tup [.d (.sl (intsD (p.chP t))), .d (.sl [])]) ?_ ?_
  ·rintro c H' ⟨q', B', rfl, rfl⟩
   simp [frz, frzs, bor, bor1]
  ·simp only [go_sem, seval]
   refine run_sound Tryz.func23 mixed 200 _ _ (by kernel_rfl) ?_
   simp only [go_sem, seval, intsD_ln]
   repeat' (first
    | ((first | (refine br_n (fun hq => ?_) (fun hq => ?_)) | (refine idx_intro (fun x hx => have hq := hx; ?_))) <;> (try simp only [go_sem, seval, intsD_ln, hq]))
    | (simp (disch := omega) only [wrap_ok])
    | ((first
     | (refine (sProofOk_fn _ _ sd sd).calls rfl ?_)
     | (refine ⟨sd, ?_⟩)
     | (refine ⟨by assumption, ?_⟩)) <;> (try simp only [go_sem, seval, intsD_ln]))
    | assumption)
   all_goals first | omega | rfl
 ·simp only [Bool.not_eq_true] at h
  rw [h] at hok ⊢
  simp only [Bool.false_eq_true, if_false, intsD_nl]
  refine ACalls.enter (fn := Tryz.f23) Tryz.func23 rfl (by show 2 ≤ _; decide) ?_
  refine run_sound Tryz.func23 mixed 200 _ _ (by kernel_rfl) ?_
  simp only [go_sem, seval]
  repeat' (first
   | ((first | (refine br_n (fun hq => ?_) (fun hq => ?_)) | (refine idx_intro (fun x hx => have hq := hx; ?_))) <;> (try simp only [go_sem, seval, hq]))
   | (simp (disch := omega) only [wrap_ok])
   | ((first
    | (refine hok.calls rfl ?_)
    | (refine (sProofOk_fn _ _ sd sd).calls rfl ?_)
    | (refine ⟨sd, ?_⟩)
    | (refine ⟨by assumption, ?_⟩)) <;> (try simp only [go_sem, seval]))
   | assumption)
end Go.Proofs.YtbncaodnnbldmaaGreat
