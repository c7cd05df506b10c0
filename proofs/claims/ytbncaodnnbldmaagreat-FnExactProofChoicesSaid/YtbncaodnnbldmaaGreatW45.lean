import Derived.Test.YtbncaodnnbldmaaGreatW39
import Derived.Test.YtbncaodnnbldmaaGreatW44
namespace Go.Proofs.YtbncaodnnbldmaaGreat
open Go.Abs
set_option maxRecDepth 100000
set_option maxHeartbeats 4000000
set_option linter.unusedSimpArgs false
set_option linter.unusedVariables false
def coD (p : Pg) (n : Nat) (t : Gl) : Prop := ∀ (l0 l1 l2 : List D) (g1 g2 g3 : Nat) (gs : List (List D)) (i : Nat) (rest : List Int) (L : List Pf), i < t.clsS.length → t.clsS.length ≤ 64 → kidsQ p n L → (∃ M, L.map Pf.rel = t.cn i ++ M) → rest.length + t.cnt + 60 * Pf.cnts L ≤ 100000000 →
 ACalls Tryz.prog 123 [.d (.agg p.enc), .d (.agg t.enc), .ptr 4 0, .ptr 6 0] [.hole, .box (l0.map .d), .box (l1.map .d), .box (l2.map .d), .box [.d (.sl (intsD (t.chI i ++ rest)))], .grow g1 g2 g3 gs, .box [.d (.sl (L.map Pf.enc))]] fun c H' => c = .d (.sl (intsD (t.chK i (L.map p.chP)))) ∧ H' = [.hole, .box (l0.map .d), .box (l1.map .d), .box (l2.map .d), .box [.d (.sl (intsD rest))], .grow g1 g2 g3 gs, .box [.d (.sl ((L.drop (t.nc i)).map Pf.enc))]]
def coT (p : Pg) (n : Nat) (t : Gl) : Prop := ∀ (l0 l1 l2 : List D) (g1 g2 g3 : Nat) (gs : List (List D)) (i : Nat) (rest : List Int) (L : List Pf), i < t.clsS.length → t.clsS.length ≤ 64 → kidsQ p n L → (∃ M, L.map Pf.rel = t.cn i ++ M) → rest.length + t.cnt + 60 * Pf.cnts L ≤ 100000000 →
 ACalls Tryz.prog 123 [.d (.agg p.enc), .d (.agg t.enc), .ptr 4 0, .ptr 6 0] [.hole, .box (l0.map .d), .box (l1.map .d), .box (l2.map .d), .box [.d (.sl (intsD (t.chI i ++ rest)))], .grow g1 g2 g3 gs, .box [.d (.sl (L.map Pf.enc))]] fun c H' => c = .own 0 1 ∧ ∃ e B, H' = [.tree 1 1 e (intsD (t.chK i (L.map p.chP))) B none, .box (l0.map .d), .box (l1.map .d), .box (l2.map .d), .box [.d (.sl (intsD rest))], .grow g1 g2 g3 gs, .box [.d (.sl ((L.drop (t.nc i)).map Pf.enc))]]
def pcD (p : Pg) (n : Nat) : Prop := ∀ k : Pf, p.prf k = true → k.cnt ≤ n → wtL k.enc ≤ 1048576 → Gives Tryz.prog 71 [.agg p.enc, .agg k.enc] (.d (.sl (intsD (p.chP k))))
theorem choicesOf_D (p : Pg) (hp : pgOk p = true) (hpw : wtL p.enc ≤ 1048576) (n0 : Nat) (ihn : pcD p n0) : ∀ t : Gl, wtL t.enc ≤ 1048576 → coD p n0 t := by
 intro t
 induction t using Gl.ind' with
 | h t ih =>
  intro hw l0 l1 l2 g1 g2 g3 gs i rest L hi hl hL hcnm hln
  have hmx : maxLen = 9223372036854775807 := rfl
  have z0 : ((0 : Nat) : Int) = 0 := rfl
  have hcn := Gl.cnt_eq t
  have hwg : wtR (t.goals.map Gl.enc) ≤ 1048576 := by simp only [Gl.enc_eq t, wtL, D.wt] at hw; omega
  have hgl : t.goals.length ≤ 1048576 := by
   have := sumW_le (t.goals.map Gl.enc) 0; simp [sumW] at this; omega
  have hchl := t.chK_len p.chP i L (fun k hk => Pg.chP_len hp k (hL.2 k hk).1)
  have hcil := t.chI_len i
  have hLl := hL.1
  rw [Gl.chK_eq, Gl.nc_eq] at hchl ⊢
  rw [Gl.chI_eq] at hcil ⊢
  rw [Gl.cn_eq] at hcnm
  refine ACalls.enter (fn := Tryz.f123) Tryz.func123 rfl (by show 4 ≤ _; decide) ?_
  refine run_sound Tryz.func123 mixed 5 _ _ (by kernel_rfl) ?_
  simp only [go_sem, seval, run.eq_1]
  refine AW.adoptB 9 1 3 (by decide) rfl ?_
  by_cases h8 : t.kind = 8
  ·obtain ⟨hs1, hs2, hs3⟩ := Gl.or_parts h8 hi hl
   simp only [if_pos h8] at hcnm hchl hcil ⊢
   obtain ⟨j, x, idx, hx, hix, e1, e2, e3, e4⟩ := Gl.or_pick t.goals 0 i hs1
   rw [e1, e2, e3]
   rw [e2, e3] at hchl
   rw [e1] at hcil
   rw [e4] at hcnm
   simp only [Nat.zero_add, List.length_cons] at hchl hcil ⊢
   have hxm := List.mem_of_getElem? hx
   have hxw : wtL x.enc ≤ 1048576 := by have := Gl.wt_goals hxm; omega
   have hxc : x.cnt ≤ Gl.cnts t.goals := by
    obtain ⟨a, b, hab⟩ := List.append_of_mem hxm
    rw [hab]
    clear hab
    induction a with
    | nil => simp [Gl.cnts]
    | cons y a iha => simp only [List.cons_append, Gl.cnts]; omega
   have hxi := ih x hxm hxw l0 l1 l2 g1 g2 g3 gs idx rest L hix (hs3 x hxm) hL hcnm (by omega)
   have hjl : (j : Int) < (t.goals.length : Int) := by have := (List.getElem?_eq_some_iff.1 hx).1; omega
   have hlen : ((0 : Int) < ((x.chI idx ++ rest).length : Int) + 1) = True := eq_true (by omega)
   simp only [List.cons_append]
   have hic : ∀ (a : Int) (l : List Int), intsD (a :: l) = [.int .i64 a] :: intsD l := fun _ _ => rfl
   rw [hic]
   refine run_sound Tryz.func123 mixed 10 _ _ (by kernel_rfl) ?_
   simp only [go_sem, seval, run.eq_1, h8]
   refine ⟨by omega, by omega, ?_⟩
   refine AW.drawA mixed #[true, true, true, true, true, true, true, true, true, true, true, true, true, true, false] [(7, .box (p.enc.map .d)), (8, .box (t.enc.map .d))] [] [0, 1, 4, 5, 6, 7, 8, 9, 10, 11, 2, 3, 12, 13] [14] none (by kernel_rfl) trivial (by simp [holdsB]) ?_
   simp only [go_sem, seval, idx_of hx, hjl]
   repeat' (first
    | ((first | (refine br_n (fun hq => ?_) (fun hq => ?_)) | (refine idx_intro (fun x hx => have hq := hx; ?_))) <;> (try simp only [go_sem, seval, idx_of hx, hjl, hq]))
    | (simp (disch := omega) only [wrap_ok])
    | ((first
     | (refine hxi.frame (X := [_, _, _]) rfl (by simp [O.refsLt, C.refsLt, C.refsLt1, all_dmap]) ?_ <;> (rintro c H' ⟨rfl, rfl⟩ _))
     | (refine ⟨sd, ?_⟩)
     | (refine ⟨by assumption, ?_⟩)) <;> (try simp only [go_sem, seval, idx_of hx, hjl]))
    | assumption)
   refine AW.bufT 9 9 rfl rfl (intsD_fl ((j : Int) :: x.chK idx (L.map p.chP))) ?_
   refine AW.freezeT 9 9 rfl rfl ?_
   refine run_sound Tryz.func123 mixed 200 _ _ (by kernel_rfl) ?_
   simp only [go_sem, seval]
   repeat' (first
    | ((first | (refine br_n (fun hq => ?_) (fun hq => ?_)) | (refine idx_intro (fun x hx => have hq := hx; ?_))) <;> (try simp only [go_sem, seval, hq]))
    | (simp (disch := omega) only [wrap_ok])
    | ((first
     | (refine ⟨sd, ?_⟩)
     | (refine ⟨by assumption, ?_⟩)) <;> (try simp only [go_sem, seval]))
    | assumption)
   all_goals first | rfl | (simp [C.refsLt, C.refsLt1, intsD_nl]; done)
  ·by_cases h7 : t.kind = 7
   ·obtain ⟨hs1, hs2, hs3⟩ := Gl.and_parts h7 hi hl
    simp only [if_neg h8, if_pos h7] at hcnm hchl hcil ⊢
    have hpp := Gl.prd_pos (l := t.goals) (by omega)
    refine run_sound Tryz.func123 mixed 200 _ _ (by kernel_rfl) ?_
    simp only [go_sem, seval, h8, h7]
    repeat' (first
     | ((first | (refine br_n (fun hq => ?_) (fun hq => ?_)) | (refine idx_intro (fun x hx => have hq := hx; ?_))) <;> (try simp only [go_sem, seval, h8, h7, hq]))
     | (simp (disch := omega) only [wrap_ok])
     | ((first
      | (refine ⟨sd, ?_⟩)
      | (refine ⟨by assumption, ?_⟩)) <;> (try simp only [go_sem, seval, h8, h7]))
     | assumption)
    refine AW.rng t.goals [2, 3, 4, 47, 48] 49 47 (fun u : Nat × List Int × List Int × List Pf => [(9, .own 9 u.1)]) (fun _ u => [.hole, .box (l0.map .d), .box (l1.map .d), .box (l2.map .d), .box [.d (.sl (intsD u.2.2.1))], .grow g1 g2 g3 gs, .box [.d (.sl (u.2.2.2.map Pf.enc))], .box (p.enc.map .d), .box (t.enc.map .d), .buf u.1 1 3 (intsD u.2.1)]) (fun r u => u.2.1 ++ Gl.chKAnd r i (u.2.2.2.map p.chP) = Gl.chKAnd t.goals i (L.map p.chP) ∧ u.2.2.1 = Gl.chAnd r i ++ rest ∧ kidsQ p n0 u.2.2.2 ∧ (∃ M, u.2.2.2.map Pf.rel = Gl.cnAnd r i ++ M) ∧ u.2.2.2.drop (Gl.ncAnd r i) = L.drop (Gl.ncAnd t.goals i) ∧ rest.length + Gl.cnts r + 60 * Pf.cnts u.2.2.2 ≤ 100000000) (0, [], Gl.chAnd t.goals i ++ rest, L) rfl (by simp) ⟨rfl, rfl, hL, hcnm, rfl, by dsimp only; omega⟩ (by refine ⟨by simp [mkS, intsD_nl], by simp [mkS, intsD_nl], by simp only [mkS, List.all_cons, List.all_nil, O.refsLt, C.refsLt, C.refsLt1, all_dmap]; first | done | rfl | (simp; done), ?_⟩; simp [mkS, Abs.get, C.refsLtT, C.refsLt, C.refsLt1, intsD_nl]) (fun j x r u hxj hdr hlt hm hinv hnext => ?_) (fun u hinv => ?_)
    ·obtain ⟨q1, o1, w1, L1⟩ := u
     obtain ⟨h1, h2, h3, ⟨M, h4⟩, h5, h6⟩ := hinv
     dsimp only at h1 h2 h3 h4 h5 h6 hnext ⊢
     have hxm := List.mem_of_getElem? hxj
     have hxw : wtL x.enc ≤ 1048576 := by have := Gl.wt_goals hxm; omega
     have hxl := hs3 x hxm
     have hxp := hpp x hxm
     simp only [Gl.chKAnd, Gl.chAnd, Gl.cnts, Gl.cnAnd, Gl.ncAnd] at h1 h2 h4 h5 h6
     generalize hI : i / Gl.prd r % x.clsS.length = I at *
     have hIl : I < x.clsS.length := by rw [← hI]; exact Nat.mod_lt _ hxp
     rw [List.append_assoc] at h4 h2
     subst h2
     have hal := Gl.chAnd_len r i
     have ho := congrArg List.length h1
     simp only [List.length_append] at ho
     have hck := x.chK_len p.chP I L1 (fun k hk => Pg.chP_len hp k (h3.2 k hk).1)
     have hxi := ih x hxm hxw l0 l1 l2 g1 g2 g3 gs I (Gl.chAnd r i ++ rest) L1 hIl hxl h3 ⟨_, h4⟩ (by simp only [List.length_append]; omega)
     have hdr7 := rel_drop h4
     rw [Gl.cn_len] at hdr7
     refine run_sound Tryz.func123 mixed 200 _ _ (by kernel_rfl) ?_
     simp only [go_sem, seval, hlt, idx_of hxj]
     repeat' (first
      | ((first | (refine br_n (fun hq => ?_) (fun hq => ?_)) | (refine idx_intro (fun x hx => have hq := hx; ?_))) <;> (try simp only [go_sem, seval, hlt, idx_of hxj, hq]))
      | (simp (disch := omega) only [wrap_ok])
      | ((first
       | (refine hxi.frame (X := [_, _, _, _]) rfl (by simp [O.refsLt, C.refsLt, C.refsLt1, all_dmap]) ?_ <;> (rintro c H' ⟨rfl, rfl⟩ _))
       | (refine ⟨sd, ?_⟩)
       | (refine ⟨by assumption, ?_⟩)) <;> (try simp only [go_sem, seval, hlt, idx_of hxj]))
      | assumption)
     refine hnext (q1 + 1, o1 ++ x.chK I (L1.map p.chP), Gl.chAnd r i ++ rest, L1.drop (x.nc I)) _ ⟨by dsimp only; rw [List.append_assoc, List.map_drop]; exact h1, rfl, h3.drop _, ⟨M, hdr7⟩, by dsimp only; rw [List.drop_drop]; exact h5, by dsimp only; omega⟩ (by refine ⟨by simp [mkS, intsD_app], by simp [mkS, intsD_app], by simp only [mkS, List.all_cons, List.all_nil, O.refsLt, C.refsLt, C.refsLt1, all_dmap]; first | done | rfl | (simp; done), ?_⟩; simp [mkS, Abs.get, C.refsLtT, C.refsLt, C.refsLt1, intsD_app])
    ·obtain ⟨h1, h2, h3, _, h5, _⟩ := hinv
     simp only [Gl.chKAnd, Gl.chAnd, List.append_nil, List.nil_append, Gl.ncAnd, List.drop_zero] at h1 h2 h5
     rw [h1, h2, h5]
     refine AW.bufT 9 9 rfl rfl (intsD_fl _) ?_
     refine AW.freezeT 9 9 rfl rfl ?_
     refine run_sound Tryz.func123 mixed 200 _ _ (by kernel_rfl) ?_
     simp only [go_sem, seval]
     repeat' (first
      | ((first | (refine br_n (fun hq => ?_) (fun hq => ?_)) | (refine idx_intro (fun x hx => have hq := hx; ?_))) <;> (try simp only [go_sem, seval, hq]))
      | (simp (disch := omega) only [wrap_ok])
      | ((first
       | (refine ⟨sd, ?_⟩)
       | (refine ⟨by assumption, ?_⟩)) <;> (try simp only [go_sem, seval]))
      | assumption)
     all_goals first | rfl | (simp [C.refsLt, C.refsLt1, intsD_nl]; done)
   ·simp only [if_neg h8, if_neg h7] at hcnm hchl hcil ⊢
    by_cases h9 : t.kind = 9
    ·simp only [if_pos h9] at hcnm hchl ⊢
     obtain ⟨M, hM⟩ := hcnm
     cases L with
     | nil => simp at hM
     | cons k L =>
      obtain ⟨hkp, hkc, hkw⟩ := hL.2 k (by simp)
      have hpk := ihn k hkp hkc hkw
      have hpl := Pg.chP_len hp k hkp
      simp only [Pf.cnts] at hln
      have hlen : ((0 : Int) < (L.length : Int) + 1) = True := eq_true (by omega)
      have hlen1 : ((1 : Int) ≤ (L.length : Int) + 1) = True := eq_true (by omega)
      simp only [List.map_cons, List.headD_cons, List.drop_succ_cons, List.drop_zero, List.nil_append]
      refine run_sound Tryz.func123 mixed 18 _ _ (by kernel_rfl) ?_
      simp only [go_sem, seval, run.eq_1, h8, h7, h9, hlen, hlen1]
      repeat' (first
       | ((first | (refine br_n (fun hq => ?_) (fun hq => ?_)) | (refine idx_intro (fun x hx => have hq := hx; ?_))) <;> (try simp only [go_sem, seval, h8, h7, h9, hlen, hlen1, intsD_ln, run.eq_1, hq]))
       | (simp (disch := omega) only [wrap_ok])
       | ((first
        | (refine hpk.calls rfl ?_)
        | (refine ⟨sd, ?_⟩)
        | (refine ⟨by assumption, ?_⟩)) <;> (try simp only [go_sem, seval, h8, h7, h9, hlen, hlen1, intsD_ln, run.eq_1]))
       | assumption)
      refine AW.bufT 9 9 rfl rfl (intsD_fl _) ?_
      refine AW.freezeT 9 9 rfl rfl ?_
      refine run_sound Tryz.func123 mixed 200 _ _ (by kernel_rfl) ?_
      simp only [go_sem, seval]
      repeat' (first
       | ((first | (refine br_n (fun hq => ?_) (fun hq => ?_)) | (refine idx_intro (fun x hx => have hq := hx; ?_))) <;> (try simp only [go_sem, seval, hq]))
       | (simp (disch := omega) only [wrap_ok])
       | ((first
        | (refine ⟨sd, ?_⟩)
        | (refine ⟨by assumption, ?_⟩)) <;> (try simp only [go_sem, seval]))
       | assumption)
      all_goals first | rfl | (simp [C.refsLt, C.refsLt1, intsD_nl]; done)
    ·simp only [if_neg h9, List.drop_zero, List.nil_append] at hcnm ⊢
     refine run_sound Tryz.func123 mixed 14 _ _ (by kernel_rfl) ?_
     simp only [go_sem, seval, run.eq_1, h8, h7, h9]
     repeat' (first
      | ((first | (refine br_n (fun hq => ?_) (fun hq => ?_)) | (refine idx_intro (fun x hx => have hq := hx; ?_))) <;> (try simp only [go_sem, seval, h8, h7, h9, run.eq_1, hq]))
      | (simp (disch := omega) only [wrap_ok])
      | ((first
       | (refine ⟨sd, ?_⟩)
       | (refine ⟨by assumption, ?_⟩)) <;> (try simp only [go_sem, seval, h8, h7, h9, run.eq_1]))
      | assumption)
     refine AW.bufT 9 9 rfl rfl (intsD_fl []) ?_
     refine AW.freezeT 9 9 rfl rfl ?_
     refine run_sound Tryz.func123 mixed 200 _ _ (by kernel_rfl) ?_
     simp only [go_sem, seval]
     repeat' (first
      | ((first | (refine br_n (fun hq => ?_) (fun hq => ?_)) | (refine idx_intro (fun x hx => have hq := hx; ?_))) <;> (try simp only [go_sem, seval, hq]))
      | (simp (disch := omega) only [wrap_ok])
      | ((first
       | (refine ⟨sd, ?_⟩)
       | (refine ⟨by assumption, ?_⟩)) <;> (try simp only [go_sem, seval]))
      | assumption)
     all_goals first | rfl | (simp [C.refsLt, C.refsLt1, intsD_nl]; done)
theorem proofChoices_D (p : Pg) (hp : pgOk p = true) (hpw : wtL p.enc ≤ 1048576) (n : Nat) (ihc : ∀ t : Gl, wtL t.enc ≤ 1048576 → coD p n t) : pcD p (n + 1) := by
 intro k hkp hkc hkw
 obtain ⟨f0, r, hre, hrm, hrl, c0, c1, hkn, _⟩ := Pg.prf_kids hkp
 have hre2 : (p.rels.map Rl.enc)[(p.find k.rel).toNat]? = some r.enc := by simp [hre]
 obtain ⟨m, hm⟩ : ∃ m : Nat, k.clause = m := ⟨k.clause.toNat, by omega⟩
 have hme : k.clause.toNat = m := by omega
 have hch := Pg.chP_at (p := p) (t := k) (r := r) hre
 rw [hme] at hch c1 hkn
 obtain ⟨w1, w2⟩ := rels_wt hpw hrm
 have hkc1 := Pf.cnt_eq k
 have hci := r.body.chI_len m
 have hbw := Gl.cnt_le_wt r.body
 obtain ⟨mm, hmm⟩ : ∃ m : Nat, (m : Int) = r.arity + r.locals := ⟨k.values.length, by
  obtain ⟨_, r1, hr1, e1, _⟩ := Pg.prf_head hkp
  rw [hre] at hr1; cases hr1; exact e1⟩
 obtain ⟨_, _, _, _, _, hb60⟩ := Pg.body_inst hp hrm hmm
 have hkcw := Pf.cnt_le_wt k
 have hkq := kids_of hkp (n := n) hkc hkw
 have hct := ctT_gives (choicesTo_T r.body w2) c1 hrl
 have hco := ihc r.body w2 p.enc k.enc r.body.enc 1 4 72 (k.kids.map Pf.enc) m [] k.kids c1 hrl hkq ⟨[], by rw [hkn, List.append_nil]⟩ (by simp only [List.length_nil]; omega)
 have hrel := relation_fn p k.rel
 have hrg := Pg.find_range p k.rel
 rw [List.append_nil] at hco
 rw [hch]
 generalize p.find k.rel = f at *
 refine ACalls.enter (fn := Tryz.f71) Tryz.func71 rfl (by show 2 ≤ _; decide) ?_
 refine AW.hole ?_
 refine run_sound Tryz.func71 mixed 3 _ _ (by kernel_rfl) ?_
 simp only [go_sem, seval, run.eq_1]
 refine AW.drawA mixed #[true, true, true, true, true, true, true, true, true, true, false] [(1, .box (p.enc.map .d)), (2, .box (k.enc.map .d))] [] [0, 1, 2, 3, 4, 9, 5, 6, 7, 8] [10] (some (9, 5, 52, [.int .i64 0, .string ⟨#[]⟩, .slice none 0 0, .slice none 0 0])) (by kernel_rfl) tz52 (by simp [holdsB]) ?_
 simp only [go_sem, seval, idx_of hre2]
 repeat' (first
  | ((first | (refine br_n (fun hq => ?_) (fun hq => ?_)) | (refine idx_intro (fun x hx => have hq := hx; ?_))) <;> (try simp only [go_sem, seval, idx_of hre2, hq]))
  | (simp (disch := omega) only [wrap_ok])
  | ((first
   | (refine hrel.calls rfl ?_)
   | (refine (relation_fn _ _).calls rfl ?_)
   | (refine (relation_fn _ _).callQ rfl ?_)
   | (refine ⟨sd, ?_⟩)
   | (refine ⟨by assumption, ?_⟩)) <;> (try simp only [go_sem, seval, idx_of hre2]))
  | assumption)
 obtain rfl : r = x := by rw [hre] at hx; exact Option.some.inj hx
 refine run_sound Tryz.func71 mixed 200 _ _ (by kernel_rfl) ?_
 simp only [go_sem, seval, hm]
 repeat' (first
  | ((first | (refine br_n (fun hq => ?_) (fun hq => ?_)) | (refine idx_intro (fun x hx => have hq := hx; ?_))) <;> (try simp only [go_sem, seval, hm, hq]))
  | (simp (disch := omega) only [wrap_ok])
  | ((first
   | (refine hct.calls rfl ?_)
   | (refine (relation_fn _ _).calls rfl ?_)
   | (refine (relation_fn _ _).callQ rfl ?_)
   | (refine ⟨sd, ?_⟩)
   | (refine ⟨by assumption, ?_⟩)) <;> (try simp only [go_sem, seval, hm]))
  | assumption)
 have hkl := hkq.1
 have hmx : maxLen = 9223372036854775807 := rfl
 refine ⟨by omega, by omega, ?_⟩
 refine ACalls.readB (rb := 6) (j := 0) (r := 5) rfl rfl rfl ?_
 refine hco.mono ?_
 rintro c H' ⟨rfl, rfl⟩
 simp only [go_sem, seval]
theorem pcD_all (p : Pg) (hp : pgOk p = true) (hpw : wtL p.enc ≤ 1048576) : ∀ n, pcD p n
 | 0 => fun k _ hk _ => by have := Pf.cnt_pos k; omega
 | n + 1 => proofChoices_D p hp hpw n (choicesOf_D p hp hpw n (pcD_all p hp hpw n))
theorem choicesOf_T (p : Pg) (hp : pgOk p = true) (hpw : wtL p.enc ≤ 1048576) (n0 : Nat) (ihn : pcD p n0) (ihd : ∀ t : Gl, wtL t.enc ≤ 1048576 → coD p n0 t) : ∀ t : Gl, wtL t.enc ≤ 1048576 → coT p n0 t := by
 intro t
 cases t with
 | mk tk tn tt tg =>
  generalize Gl.mk tk tn tt tg = t
  intro hw l0 l1 l2 g1 g2 g3 gs i rest L hi hl hL hcnm hln
  have hmx : maxLen = 9223372036854775807 := rfl
  have z0 : ((0 : Nat) : Int) = 0 := rfl
  have hcn := Gl.cnt_eq t
  have hwg : wtR (t.goals.map Gl.enc) ≤ 1048576 := by simp only [Gl.enc_eq t, wtL, D.wt] at hw; omega
  have hgl : t.goals.length ≤ 1048576 := by
   have := sumW_le (t.goals.map Gl.enc) 0; simp [sumW] at this; omega
  have hchl := t.chK_len p.chP i L (fun k hk => Pg.chP_len hp k (hL.2 k hk).1)
  have hcil := t.chI_len i
  have hLl := hL.1
  rw [Gl.chK_eq, Gl.nc_eq] at hchl ⊢
  rw [Gl.chI_eq] at hcil ⊢
  rw [Gl.cn_eq] at hcnm
  refine ACalls.enter (fn := Tryz.f123) Tryz.func123 rfl (by show 4 ≤ _; decide) ?_
  refine run_sound Tryz.func123 mixed 5 _ _ (by kernel_rfl) ?_
  simp only [go_sem, seval, run.eq_1]
  refine AW.adoptB 9 1 3 (by decide) rfl ?_
  by_cases h8 : t.kind = 8
  ·obtain ⟨hs1, hs2, hs3⟩ := Gl.or_parts h8 hi hl
   simp only [if_pos h8] at hcnm hchl hcil ⊢
   obtain ⟨j, x, idx, hx, hix, e1, e2, e3, e4⟩ := Gl.or_pick t.goals 0 i hs1
   rw [e1, e2, e3]
   rw [e2, e3] at hchl
   rw [e1] at hcil
   rw [e4] at hcnm
   simp only [Nat.zero_add, List.length_cons] at hchl hcil ⊢
   have hxm := List.mem_of_getElem? hx
   have hxw : wtL x.enc ≤ 1048576 := by have := Gl.wt_goals hxm; omega
   have hxc : x.cnt ≤ Gl.cnts t.goals := by
    obtain ⟨a, b, hab⟩ := List.append_of_mem hxm
    rw [hab]
    clear hab
    induction a with
    | nil => simp [Gl.cnts]
    | cons y a iha => simp only [List.cons_append, Gl.cnts]; omega
   have hxi := ihd x hxw l0 l1 l2 g1 g2 g3 gs idx rest L hix (hs3 x hxm) hL hcnm (by omega)
   have hjl : (j : Int) < (t.goals.length : Int) := by have := (List.getElem?_eq_some_iff.1 hx).1; omega
   have hlen : ((0 : Int) < ((x.chI idx ++ rest).length : Int) + 1) = True := eq_true (by omega)
   simp only [List.cons_append]
   have hic : ∀ (a : Int) (l : List Int), intsD (a :: l) = [.int .i64 a] :: intsD l := fun _ _ => rfl
   rw [hic]
   refine run_sound Tryz.func123 mixed 10 _ _ (by kernel_rfl) ?_
   simp only [go_sem, seval, run.eq_1, h8]
   refine ⟨by omega, by omega, ?_⟩
   refine AW.drawA mixed #[true, true, true, true, true, true, true, true, true, true, true, true, true, true, false] [(7, .box (p.enc.map .d)), (8, .box (t.enc.map .d))] [] [0, 1, 4, 5, 6, 7, 8, 9, 10, 11, 2, 3, 12, 13] [14] none (by kernel_rfl) trivial (by simp [holdsB]) ?_
   simp only [go_sem, seval, idx_of hx, hjl]
   repeat' (first
    | ((first | (refine br_n (fun hq => ?_) (fun hq => ?_)) | (refine idx_intro (fun x hx => have hq := hx; ?_))) <;> (try simp only [go_sem, seval, idx_of hx, hjl, hq]))
    | (simp (disch := omega) only [wrap_ok])
    | ((first
     | (refine hxi.frame (X := [_, _, _]) rfl (by simp [O.refsLt, C.refsLt, C.refsLt1, all_dmap]) ?_ <;> (rintro c H' ⟨rfl, rfl⟩ _))
     | (refine ⟨sd, ?_⟩)
     | (refine ⟨by assumption, ?_⟩)) <;> (try simp only [go_sem, seval, idx_of hx, hjl]))
    | assumption)
   refine AW.bufT 9 9 rfl rfl (intsD_fl ((j : Int) :: x.chK idx (L.map p.chP))) ?_
   refine AW.place 9 9 0 rfl rfl rfl (by decide) ?_
   refine run_sound Tryz.func123 mixed 200 _ _ (by kernel_rfl) ?_
   simp only [go_sem, seval]
   repeat' (first
    | (exact ⟨_, _, rfl⟩)
    | ((first | (refine br_n (fun hq => ?_) (fun hq => ?_)) | (refine idx_intro (fun x hx => have hq := hx; ?_))) <;> (try simp only [go_sem, seval, hq]))
    | (simp (disch := omega) only [wrap_ok])
    | ((first
     | (refine ⟨sd, ?_⟩)
     | (refine ⟨by assumption, ?_⟩)) <;> (try simp only [go_sem, seval]))
    | assumption)
   all_goals first | rfl | (simp [C.refsLt, C.refsLt1, intsD_nl]; done)
  ·by_cases h7 : t.kind = 7
   ·obtain ⟨hs1, hs2, hs3⟩ := Gl.and_parts h7 hi hl
    simp only [if_neg h8, if_pos h7] at hcnm hchl hcil ⊢
    have hpp := Gl.prd_pos (l := t.goals) (by omega)
    refine run_sound Tryz.func123 mixed 200 _ _ (by kernel_rfl) ?_
    simp only [go_sem, seval, h8, h7]
    repeat' (first
     | ((first | (refine br_n (fun hq => ?_) (fun hq => ?_)) | (refine idx_intro (fun x hx => have hq := hx; ?_))) <;> (try simp only [go_sem, seval, h8, h7, hq]))
     | (simp (disch := omega) only [wrap_ok])
     | ((first
      | (refine ⟨sd, ?_⟩)
      | (refine ⟨by assumption, ?_⟩)) <;> (try simp only [go_sem, seval, h8, h7]))
     | assumption)
    refine AW.rng t.goals [2, 3, 4, 47, 48] 49 47 (fun u : Nat × List Int × List Int × List Pf => [(9, .own 9 u.1)]) (fun _ u => [.hole, .box (l0.map .d), .box (l1.map .d), .box (l2.map .d), .box [.d (.sl (intsD u.2.2.1))], .grow g1 g2 g3 gs, .box [.d (.sl (u.2.2.2.map Pf.enc))], .box (p.enc.map .d), .box (t.enc.map .d), .buf u.1 1 3 (intsD u.2.1)]) (fun r u => u.2.1 ++ Gl.chKAnd r i (u.2.2.2.map p.chP) = Gl.chKAnd t.goals i (L.map p.chP) ∧ u.2.2.1 = Gl.chAnd r i ++ rest ∧ kidsQ p n0 u.2.2.2 ∧ (∃ M, u.2.2.2.map Pf.rel = Gl.cnAnd r i ++ M) ∧ u.2.2.2.drop (Gl.ncAnd r i) = L.drop (Gl.ncAnd t.goals i) ∧ rest.length + Gl.cnts r + 60 * Pf.cnts u.2.2.2 ≤ 100000000) (0, [], Gl.chAnd t.goals i ++ rest, L) rfl (by simp) ⟨rfl, rfl, hL, hcnm, rfl, by dsimp only; omega⟩ (by refine ⟨by simp [mkS, intsD_nl], by simp [mkS, intsD_nl], by simp only [mkS, List.all_cons, List.all_nil, O.refsLt, C.refsLt, C.refsLt1, all_dmap]; first | done | rfl | (simp; done), ?_⟩; simp [mkS, Abs.get, C.refsLtT, C.refsLt, C.refsLt1, intsD_nl]) (fun j x r u hxj hdr hlt hm hinv hnext => ?_) (fun u hinv => ?_)
    ·obtain ⟨q1, o1, w1, L1⟩ := u
     obtain ⟨h1, h2, h3, ⟨M, h4⟩, h5, h6⟩ := hinv
     dsimp only at h1 h2 h3 h4 h5 h6 hnext ⊢
     have hxm := List.mem_of_getElem? hxj
     have hxw : wtL x.enc ≤ 1048576 := by have := Gl.wt_goals hxm; omega
     have hxl := hs3 x hxm
     have hxp := hpp x hxm
     simp only [Gl.chKAnd, Gl.chAnd, Gl.cnts, Gl.cnAnd, Gl.ncAnd] at h1 h2 h4 h5 h6
     generalize hI : i / Gl.prd r % x.clsS.length = I at *
     have hIl : I < x.clsS.length := by rw [← hI]; exact Nat.mod_lt _ hxp
     rw [List.append_assoc] at h4 h2
     subst h2
     have hal := Gl.chAnd_len r i
     have ho := congrArg List.length h1
     simp only [List.length_append] at ho
     have hck := x.chK_len p.chP I L1 (fun k hk => Pg.chP_len hp k (h3.2 k hk).1)
     have hxi := ihd x hxw l0 l1 l2 g1 g2 g3 gs I (Gl.chAnd r i ++ rest) L1 hIl hxl h3 ⟨_, h4⟩ (by simp only [List.length_append]; omega)
     have hdr7 := rel_drop h4
     rw [Gl.cn_len] at hdr7
     refine run_sound Tryz.func123 mixed 200 _ _ (by kernel_rfl) ?_
     simp only [go_sem, seval, hlt, idx_of hxj]
     repeat' (first
      | ((first | (refine br_n (fun hq => ?_) (fun hq => ?_)) | (refine idx_intro (fun x hx => have hq := hx; ?_))) <;> (try simp only [go_sem, seval, hlt, idx_of hxj, hq]))
      | (simp (disch := omega) only [wrap_ok])
      | ((first
       | (refine hxi.frame (X := [_, _, _, _]) rfl (by simp [O.refsLt, C.refsLt, C.refsLt1, all_dmap]) ?_ <;> (rintro c H' ⟨rfl, rfl⟩ _))
       | (refine ⟨sd, ?_⟩)
       | (refine ⟨by assumption, ?_⟩)) <;> (try simp only [go_sem, seval, hlt, idx_of hxj]))
      | assumption)
     refine hnext (q1 + 1, o1 ++ x.chK I (L1.map p.chP), Gl.chAnd r i ++ rest, L1.drop (x.nc I)) _ ⟨by dsimp only; rw [List.append_assoc, List.map_drop]; exact h1, rfl, h3.drop _, ⟨M, hdr7⟩, by dsimp only; rw [List.drop_drop]; exact h5, by dsimp only; omega⟩ (by refine ⟨by simp [mkS, intsD_app], by simp [mkS, intsD_app], by simp only [mkS, List.all_cons, List.all_nil, O.refsLt, C.refsLt, C.refsLt1, all_dmap]; first | done | rfl | (simp; done), ?_⟩; simp [mkS, Abs.get, C.refsLtT, C.refsLt, C.refsLt1, intsD_app])
    ·obtain ⟨h1, h2, h3, _, h5, _⟩ := hinv
     simp only [Gl.chKAnd, Gl.chAnd, List.append_nil, List.nil_append, Gl.ncAnd, List.drop_zero] at h1 h2 h5
     rw [h1, h2, h5]
     refine AW.bufT 9 9 rfl rfl (intsD_fl _) ?_
     refine AW.place 9 9 0 rfl rfl rfl (by decide) ?_
     refine run_sound Tryz.func123 mixed 200 _ _ (by kernel_rfl) ?_
     simp only [go_sem, seval]
     repeat' (first
      | (exact ⟨_, _, rfl⟩)
      | ((first | (refine br_n (fun hq => ?_) (fun hq => ?_)) | (refine idx_intro (fun x hx => have hq := hx; ?_))) <;> (try simp only [go_sem, seval, hq]))
      | (simp (disch := omega) only [wrap_ok])
      | ((first
       | (refine ⟨sd, ?_⟩)
       | (refine ⟨by assumption, ?_⟩)) <;> (try simp only [go_sem, seval]))
      | assumption)
     all_goals first | rfl | (simp [C.refsLt, C.refsLt1, intsD_nl]; done)
   ·simp only [if_neg h8, if_neg h7] at hcnm hchl hcil ⊢
    by_cases h9 : t.kind = 9
    ·simp only [if_pos h9] at hcnm hchl ⊢
     obtain ⟨M, hM⟩ := hcnm
     cases L with
     | nil => simp at hM
     | cons k L =>
      obtain ⟨hkp, hkc, hkw⟩ := hL.2 k (by simp)
      have hpk := ihn k hkp hkc hkw
      have hpl := Pg.chP_len hp k hkp
      simp only [Pf.cnts] at hln
      have hlen : ((0 : Int) < (L.length : Int) + 1) = True := eq_true (by omega)
      have hlen1 : ((1 : Int) ≤ (L.length : Int) + 1) = True := eq_true (by omega)
      simp only [List.map_cons, List.headD_cons, List.drop_succ_cons, List.drop_zero, List.nil_append]
      refine run_sound Tryz.func123 mixed 18 _ _ (by kernel_rfl) ?_
      simp only [go_sem, seval, run.eq_1, h8, h7, h9, hlen, hlen1]
      repeat' (first
       | ((first | (refine br_n (fun hq => ?_) (fun hq => ?_)) | (refine idx_intro (fun x hx => have hq := hx; ?_))) <;> (try simp only [go_sem, seval, h8, h7, h9, hlen, hlen1, intsD_ln, run.eq_1, hq]))
       | (simp (disch := omega) only [wrap_ok])
       | ((first
        | (refine hpk.calls rfl ?_)
        | (refine ⟨sd, ?_⟩)
        | (refine ⟨by assumption, ?_⟩)) <;> (try simp only [go_sem, seval, h8, h7, h9, hlen, hlen1, intsD_ln, run.eq_1]))
       | assumption)
      refine AW.bufT 9 9 rfl rfl (intsD_fl _) ?_
      refine AW.place 9 9 0 rfl rfl rfl (by decide) ?_
      refine run_sound Tryz.func123 mixed 200 _ _ (by kernel_rfl) ?_
      simp only [go_sem, seval]
      repeat' (first
       | (exact ⟨_, _, rfl⟩)
       | ((first | (refine br_n (fun hq => ?_) (fun hq => ?_)) | (refine idx_intro (fun x hx => have hq := hx; ?_))) <;> (try simp only [go_sem, seval, hq]))
       | (simp (disch := omega) only [wrap_ok])
       | ((first
        | (refine ⟨sd, ?_⟩)
        | (refine ⟨by assumption, ?_⟩)) <;> (try simp only [go_sem, seval]))
       | assumption)
      all_goals first | rfl | (simp [C.refsLt, C.refsLt1, intsD_nl]; done)
    ·simp only [if_neg h9, List.drop_zero, List.nil_append] at hcnm ⊢
     refine run_sound Tryz.func123 mixed 14 _ _ (by kernel_rfl) ?_
     simp only [go_sem, seval, run.eq_1, h8, h7, h9]
     repeat' (first
      | ((first | (refine br_n (fun hq => ?_) (fun hq => ?_)) | (refine idx_intro (fun x hx => have hq := hx; ?_))) <;> (try simp only [go_sem, seval, h8, h7, h9, run.eq_1, hq]))
      | (simp (disch := omega) only [wrap_ok])
      | ((first
       | (refine ⟨sd, ?_⟩)
       | (refine ⟨by assumption, ?_⟩)) <;> (try simp only [go_sem, seval, h8, h7, h9, run.eq_1]))
      | assumption)
     refine AW.bufT 9 9 rfl rfl (intsD_fl []) ?_
     refine AW.place 9 9 0 rfl rfl rfl (by decide) ?_
     refine run_sound Tryz.func123 mixed 200 _ _ (by kernel_rfl) ?_
     simp only [go_sem, seval]
     repeat' (first
      | (exact ⟨_, _, rfl⟩)
      | ((first | (refine br_n (fun hq => ?_) (fun hq => ?_)) | (refine idx_intro (fun x hx => have hq := hx; ?_))) <;> (try simp only [go_sem, seval, hq]))
      | (simp (disch := omega) only [wrap_ok])
      | ((first
       | (refine ⟨sd, ?_⟩)
       | (refine ⟨by assumption, ?_⟩)) <;> (try simp only [go_sem, seval]))
      | assumption)
     all_goals first | rfl | (simp [C.refsLt, C.refsLt1, intsD_nl]; done)
theorem proofChoices_T (p : Pg) (hp : pgOk p = true) (hpw : wtL p.enc ≤ 1048576) (n : Nat) (ihc : ∀ t : Gl, wtL t.enc ≤ 1048576 → coT p n t) (k : Pf) (hkp : p.prf k = true) (hkc : k.cnt ≤ n + 1) (hkw : wtL k.enc ≤ 1048576) : ACalls Tryz.prog 71 [.d (.agg p.enc), .d (.agg k.enc)] [.hole] (fun c H' => c = .own 0 1 ∧ ∃ e B, H' = [.tree 1 1 e (intsD (p.chP k)) B none]) := by
 obtain ⟨f0, r, hre, hrm, hrl, c0, c1, hkn, _⟩ := Pg.prf_kids hkp
 have hre2 : (p.rels.map Rl.enc)[(p.find k.rel).toNat]? = some r.enc := by simp [hre]
 obtain ⟨m, hm⟩ : ∃ m : Nat, k.clause = m := ⟨k.clause.toNat, by omega⟩
 have hme : k.clause.toNat = m := by omega
 have hch := Pg.chP_at (p := p) (t := k) (r := r) hre
 rw [hme] at hch c1 hkn
 obtain ⟨w1, w2⟩ := rels_wt hpw hrm
 have hkc1 := Pf.cnt_eq k
 have hci := r.body.chI_len m
 have hbw := Gl.cnt_le_wt r.body
 obtain ⟨mm, hmm⟩ : ∃ m : Nat, (m : Int) = r.arity + r.locals := ⟨k.values.length, by
  obtain ⟨_, r1, hr1, e1, _⟩ := Pg.prf_head hkp
  rw [hre] at hr1; cases hr1; exact e1⟩
 obtain ⟨_, _, _, _, _, hb60⟩ := Pg.body_inst hp hrm hmm
 have hkcw := Pf.cnt_le_wt k
 have hkq := kids_of hkp (n := n) hkc hkw
 have hct := ctT_gives (choicesTo_T r.body w2) c1 hrl
 have hco := ihc r.body w2 p.enc k.enc r.body.enc 1 4 72 (k.kids.map Pf.enc) m [] k.kids c1 hrl hkq ⟨[], by rw [hkn, List.append_nil]⟩ (by simp only [List.length_nil]; omega)
 have hrel := relation_fn p k.rel
 have hrg := Pg.find_range p k.rel
 rw [List.append_nil] at hco
 rw [hch]
 generalize p.find k.rel = f at *
 refine ACalls.enter (fn := Tryz.f71) Tryz.func71 rfl (by show 2 ≤ _; decide) ?_
 refine run_sound Tryz.func71 mixed 3 _ _ (by kernel_rfl) ?_
 simp only [go_sem, seval, run.eq_1]
 refine AW.drawA mixed #[true, true, true, true, true, true, true, true, true, true, false] [(1, .box (p.enc.map .d)), (2, .box (k.enc.map .d))] [] [0, 1, 2, 3, 4, 9, 5, 6, 7, 8] [10] (some (9, 5, 52, [.int .i64 0, .string ⟨#[]⟩, .slice none 0 0, .slice none 0 0])) (by kernel_rfl) tz52 (by simp [holdsB]) ?_
 simp only [go_sem, seval, idx_of hre2]
 repeat' (first
  | ((first | (refine br_n (fun hq => ?_) (fun hq => ?_)) | (refine idx_intro (fun x hx => have hq := hx; ?_))) <;> (try simp only [go_sem, seval, idx_of hre2, hq]))
  | (simp (disch := omega) only [wrap_ok])
  | ((first
   | (refine hrel.calls rfl ?_)
   | (refine (relation_fn _ _).calls rfl ?_)
   | (refine (relation_fn _ _).callQ rfl ?_)
   | (refine ⟨sd, ?_⟩)
   | (refine ⟨by assumption, ?_⟩)) <;> (try simp only [go_sem, seval, idx_of hre2]))
  | assumption)
 obtain rfl : r = x := by rw [hre] at hx; exact Option.some.inj hx
 refine run_sound Tryz.func71 mixed 200 _ _ (by kernel_rfl) ?_
 simp only [go_sem, seval, hm]
 repeat' (first
  | ((first | (refine br_n (fun hq => ?_) (fun hq => ?_)) | (refine idx_intro (fun x hx => have hq := hx; ?_))) <;> (try simp only [go_sem, seval, hm, hq]))
  | (simp (disch := omega) only [wrap_ok])
  | ((first
   | (refine hct.calls rfl ?_)
   | (refine (relation_fn _ _).calls rfl ?_)
   | (refine (relation_fn _ _).callQ rfl ?_)
   | (refine ⟨sd, ?_⟩)
   | (refine ⟨by assumption, ?_⟩)) <;> (try simp only [go_sem, seval, hm]))
  | assumption)
 have hkl := hkq.1
 have hmx : maxLen = 9223372036854775807 := rfl
 refine ⟨by omega, by omega, ?_⟩
 refine ACalls.readB (rb := 6) (j := 0) (r := 5) rfl rfl rfl ?_
 refine hco.mono ?_
 rintro c H' ⟨rfl, e, B, rfl⟩
 simp only [go_sem, seval]
 repeat' (first
  | (exact ⟨_, _, rfl⟩)
  | ((first | (refine br_n (fun hq => ?_) (fun hq => ?_)) | (refine idx_intro (fun x hx => have hq := hx; ?_))) <;> (try simp only [go_sem, seval, hq]))
  | (simp (disch := omega) only [wrap_ok])
  | ((first
   | (refine (relation_fn _ _).calls rfl ?_)
   | (refine (relation_fn _ _).callQ rfl ?_)
   | (refine ⟨sd, ?_⟩)
   | (refine ⟨by assumption, ?_⟩)) <;> (try simp only [go_sem, seval]))
  | assumption)
theorem iProofChoices_T (p : Pg) (t : Pf) (hwp : wtL p.enc ≤ 1048576) (hw : wtL t.enc ≤ 1048576) : ACalls Tryz.prog 25 [.d (.agg p.enc), .d (.agg t.enc)] [.hole] (fun c H' => c = .tup [.own 0 1, .d (.bool (p.prfOk t))] ∧ ∃ e B, H' = [.tree 1 1 e (intsD (pcV p t)) B none]) := by
 have hok := iProofOk_fn p t hwp hw
 unfold pcV
 by_cases h : p.prfOk t = true
 ·obtain ⟨h1, h2⟩ := prfOk_inv1 h
  have hD := fun n => choicesOf_D p h1 hwp n (pcD_all p h1 hwp n)
  have hx := proofChoices_T p h1 hwp t.cnt (choicesOf_T p h1 hwp t.cnt (pcD_all p h1 hwp t.cnt) (hD t.cnt)) t h2 (by omega) hw
  rw [h] at hok ⊢
  simp only [if_true]
  refine ACalls.enter (fn := Tryz.f25) Tryz.func25 rfl (by show 2 ≤ _; decide) ?_
  refine run_sound Tryz.func25 mixed 200 _ _ (by kernel_rfl) ?_
  simp only [go_sem, seval]
  repeat' (first
   | (exact ⟨_, _, rfl⟩)
   | ((first | (refine br_n (fun hq => ?_) (fun hq => ?_)) | (refine idx_intro (fun x hx => have hq := hx; ?_))) <;> (try simp only [go_sem, seval, hq]))
   | (simp (disch := omega) only [wrap_ok])
   | ((first
    | (refine hok.calls rfl ?_)
    | (refine ACalls.fresh (ds := [.agg p.enc, .agg t.enc]) (m := 1) hx [0] rfl rfl (by simp) (by simp) ?_ <;> (rintro c H' ⟨rfl, e1, B1, rfl⟩ _; refine ⟨rfl, rfl, ?_⟩))
    | (refine (iProofOk_fn _ _ sd sd).calls rfl ?_)
    | (refine ⟨sd, ?_⟩)
    | (refine ⟨by assumption, ?_⟩)) <;> (try simp only [go_sem, seval]))
   | assumption)
 ·simp only [Bool.not_eq_true] at h
  rw [h] at hok ⊢
  simp only [Bool.false_eq_true, if_false, intsD_nl]
  refine ACalls.enter (fn := Tryz.f25) Tryz.func25 rfl (by show 2 ≤ _; decide) ?_
  refine run_sound Tryz.func25 mixed 8 _ _ (by kernel_rfl) ?_
  simp only [go_sem, seval, run.eq_1]
  repeat' (first
   | ((first | (refine br_n (fun hq => ?_) (fun hq => ?_)) | (refine idx_intro (fun x hx => have hq := hx; ?_))) <;> (try simp only [go_sem, seval, run.eq_1, hq]))
   | (simp (disch := omega) only [wrap_ok])
   | ((first
    | (refine hok.calls rfl ?_)
    | (refine (iProofOk_fn _ _ sd sd).calls rfl ?_)
    | (refine ⟨sd, ?_⟩)
    | (refine ⟨by assumption, ?_⟩)) <;> (try simp only [go_sem, seval, run.eq_1]))
   | assumption)
  refine AW.adoptT 4 1 3 (by decide) rfl ?_
  refine AW.place 4 3 0 rfl rfl rfl (by decide) ?_
  refine run_sound Tryz.func25 mixed 200 _ _ (by kernel_rfl) ?_
  simp only [go_sem, seval]
  repeat' (first
   | (exact ⟨_, _, rfl⟩)
   | ((first | (refine br_n (fun hq => ?_) (fun hq => ?_)) | (refine idx_intro (fun x hx => have hq := hx; ?_))) <;> (try simp only [go_sem, seval, hq]))
   | (simp (disch := omega) only [wrap_ok])
   | ((first
    | (refine (iProofOk_fn _ _ sd sd).calls rfl ?_)
    | (refine ⟨sd, ?_⟩)
    | (refine ⟨by assumption, ?_⟩)) <;> (try simp only [go_sem, seval]))
   | assumption)
end Go.Proofs.YtbncaodnnbldmaaGreat
