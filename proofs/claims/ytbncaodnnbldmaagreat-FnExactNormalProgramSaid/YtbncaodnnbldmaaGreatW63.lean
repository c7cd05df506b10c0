import Derived.Test.YtbncaodnnbldmaaGreatW7
import Derived.Test.YtbncaodnnbldmaaGreatW23
import Derived.Test.YtbncaodnnbldmaaGreatW27
import Derived.Test.YtbncaodnnbldmaaGreatP9
namespace Go.Proofs.YtbncaodnnbldmaaGreat
open Go.Abs
set_option maxRecDepth 100000
set_option maxHeartbeats 4000000
set_option linter.unusedSimpArgs false
set_option linter.unusedVariables false
def nfG (g : Gl) : Gl := .mk (cgK (clsV g)) [] [] ((cgV (clsV g)).map mkC)
def nfO (r : Rl) : Bool := clsB r.body && cgOk (clsV r.body)
def nfR (r : Rl) : Rl := { r with body := nfG r.body }
def nfB (p : Pg) : Bool := pgOk p && p.rels.all nfO && pgOk ⟨p.rels.map nfR⟩
def nfL (p : Pg) : List Rl := if nfB p = true then p.rels.map nfR else []
theorem clsV_wt {g : Gl} : ∀ c, c ∈ clsV g → wtR (c.map Gl.enc) ≤ 1 + wtL g.enc := by
 unfold clsV
 split
 ·exact Gl.clsS_wt g
 ·simp
theorem nfG_wt (g : Gl) : wtL (nfG g).enc ≤ 16 + 8 * wtL g.enc := by
 have key : ∀ l : List (List Gl), (∀ c, c ∈ l → wtR (c.map Gl.enc) ≤ 1 + wtL g.enc) → wtR ((l.map mkC).map Gl.enc) ≤ l.length * (2 + wtL g.enc) := by
  intro l
  induction l with
  | nil => intro _; simp [wtR]
  | cons c r ih =>
   intro h
   have h1 := ih (fun x hx => h x (by simp [hx]))
   have h2 := h c (by simp)
   simp only [List.map_cons, wtR, mkC_enc, wtL, D.wt, List.length_nil, List.length_cons, Nat.add_mul]
   omega
 unfold nfG
 rw [Gl.enc_eq]
 simp only [Gl.kind, Gl.name, Gl.terms, Gl.goals, List.map_nil, wtL, D.wt, wtR, List.length_nil]
 have h1 : (cgV (clsV g)).length ≤ 8 ∧ ∀ c, c ∈ cgV (clsV g) → c ∈ clsV g := by
  unfold cgV
  split
  ·rename_i h
   unfold cgOk at h
   simp only [Bool.and_eq_true, decide_eq_true_eq] at h
   exact ⟨h.1, fun c hc => hc⟩
  ·simp
 have h2 := key (cgV (clsV g)) (fun c hc => clsV_wt c (h1.2 c hc))
 have h3 : (cgV (clsV g)).length * (2 + wtL g.enc) ≤ 8 * (2 + wtL g.enc) := Nat.mul_le_mul_right _ h1.1
 omega
theorem nfR_wt (r : Rl) : wtL (nfR r).enc ≤ 16 + 8 * wtL r.enc := by
 have h := nfG_wt r.body
 simp only [Rl.enc_eq, Gl.enc_eq, nfR, wtL, D.wt] at h ⊢
 omega
theorem nfL_wt : ∀ l : List Rl, wtR ((l.map nfR).map Rl.enc) ≤ 8 * wtR (l.map Rl.enc) + 16 * l.length
 | [] => by simp [wtR]
 | r :: q => by
  have h1 := nfL_wt q
  have h2 := nfR_wt r
  simp only [List.map_cons, wtR, List.length_cons]
  omega
theorem nf_wt {p : Pg} (hp : pgOk p = true) (hw : wtL p.enc ≤ 1048576) : wtL (Pg.enc ⟨p.rels.map nfR⟩) ≤ 9000000 := by
 have h1 := nfL_wt p.rels
 have h2 : p.rels.length ≤ 8 := by
  unfold pgOk at hp
  simp only [Bool.and_eq_true, decide_eq_true_eq] at hp
  exact hp.1
 simp only [Pg.enc_eq, wtL, D.wt] at hw ⊢
 omega
theorem pgOk_bodies {p : Pg} (h : pgOk p = true) : ∀ r, r ∈ p.rels → r.body.shape = true := fun r hr => by
 unfold pgOk at h
 simp only [Bool.and_eq_true] at h
 obtain ⟨i, hi⟩ := okL_mem h.2 r hr
 exact relOk_shape hi
theorem iClausesOf_fn (t : Gl) (hw : wtL t.enc ≤ 1048576) : Gives Tryz.prog 38 [.agg t.enc] (.tup [.d (.sl ((clsV t).map encC)), .d (.bool (clsB t))]) := by
 refine ACalls.frozen (ds := [.agg t.enc]) (m := 1) (iClausesOf_T t hw) (fun c H' ⟨h1, e, B, h2⟩ _ => ?_)
 subst h1 h2
 rfl
theorem copyProgram_T (p : Pg) (hw : wtL p.enc ≤ 1048576) (hs : ∀ r, r ∈ p.rels → r.body.shape = true) : ACalls Tryz.prog 37 [.d (.agg p.enc)] [.hole] (fun c H' => c = .agg [.own 0 1] ∧ ∃ e B, H' = [.tree 1 7 e (p.rels.map Rl.enc) B none]) := by
 have hmx : maxLen = 9223372036854775807 := rfl
 have hwr : ∀ r, r ∈ p.rels → wtL r.body.enc ≤ 1048576 := fun r hr => by
  have := Pg.wt_rels hr; have := Rl.wt_body r; omega
 have hlg0 : p.rels.length ≤ 1048576 := by
  have h1 : wtR (p.rels.map Rl.enc) ≤ 1048576 := by simpa only [Pg.enc_eq, wtL, D.wt, Nat.add_zero] using hw
  have := sumW_le (p.rels.map Rl.enc) 0; simp [sumW] at this; omega
 refine ACalls.enter (fn := Tryz.f37) Tryz.func37 rfl (by show 1 ≤ _; decide) ?_
 refine run_sound Tryz.func37 mixed 8 _ _ (by kernel_rfl) ?_
 simp only [go_sem, seval, run.eq_1]
 repeat' (first
  | ((first | (refine br_n (fun hq => ?_) (fun hq => ?_)) | (refine idx_intro (fun x hx => have hq := hx; ?_))) <;> (try simp only [go_sem, seval, run.eq_1, hq]))
  | (simp (disch := omega) only [wrap_ok])
  | ((first
   | (refine ⟨sd, ?_⟩)
   | (refine ⟨by assumption, ?_⟩)) <;> (try simp only [go_sem, seval, run.eq_1]))
  | assumption)
 refine AW.adoptTB 3 0 7 82 (by decide) rfl rfl ?_
 refine run_sound Tryz.func37 mixed 200 _ _ (by kernel_rfl) ?_
 simp only [go_sem, seval]
 repeat' (first
  | ((first | (refine br_n (fun hq => ?_) (fun hq => ?_)) | (refine idx_intro (fun x hx => have hq := hx; ?_))) <;> (try simp only [go_sem, seval, hq]))
  | (simp (disch := omega) only [wrap_ok])
  | ((first
   | (refine ⟨sd, ?_⟩)
   | (refine ⟨by assumption, ?_⟩)) <;> (try simp only [go_sem, seval]))
  | assumption)
 refine AW.rng p.rels [2, 3, 8, 9] 10 8 (fun q : List Rl × (Nat → Prop) => []) (fun _ q => [.hole, .box (p.enc.map .d), .box [.nil0], .box [.own 4 q.1.length], .tree q.1.length 7 82 (q.1.map Rl.enc) q.2 none]) (fun r q => q.1 ++ r = p.rels) ([], fun _ => False) rfl (by simp) rfl (by refine ⟨by simp [mkS], by simp [mkS], by simp only [mkS, List.all_cons, List.all_nil, O.refsLt, C.refsLt, C.refsLt1, all_dmap]; first | done | rfl | (simp; done), ?_⟩; simp [mkS, Abs.get, C.refsLtT, C.refsLt, C.refsLt1]) (fun i x r q hxi hdr hlt hm hinv hnext => ?_) (fun q hinv => ?_)
 ·have hxm := List.mem_of_getElem? hxi
  have hpl : q.1.length + (r.length + 1) = p.rels.length := by rw [← hinv]; simp
  have hx := copyGoal_T x.body (hwr x hxm) (hs x hxm)
  unfold cpG at hx
  refine AW.hole ?_
  refine AW.hole ?_
  refine run_sound Tryz.func37 mixed 9 _ _ (by kernel_rfl) ?_
  simp only [go_sem, seval, run.eq_1, hlt, idx_of hxi]
  repeat' (first
   | ((first | (refine br_n (fun hq => ?_) (fun hq => ?_)) | (refine idx_intro (fun x hx => have hq := hx; ?_))) <;> (try simp only [go_sem, seval, hlt, idx_of hxi, run.eq_1, hq]))
   | (simp (disch := omega) only [wrap_ok])
   | ((first
    | (refine ⟨sd, ?_⟩)
    | (refine ⟨by assumption, ?_⟩)) <;> (try simp only [go_sem, seval, hlt, idx_of hxi, run.eq_1]))
   | assumption)
  refine AW.drawA mixed #[true, true, true, true, true, true, true, true, true, true, true, true, true, true, false, false] [(3, .box [.own 4 q.1.length]), (7, .box (x.enc.map .d))] [] [0, 1, 2, 3, 4, 5, 6, 7, 8, 9, 10, 11, 12, 13] [14, 15] none (by kernel_rfl) trivial (by simp [holdsB]) ?_
  simp only [go_sem, seval]
  repeat' (first
   | ((first | (refine br_n (fun hq => ?_) (fun hq => ?_)) | (refine idx_intro (fun x hx => have hq := hx; ?_))) <;> (try simp only [go_sem, seval, hq]))
   | (simp (disch := omega) only [wrap_ok])
   | ((first
    | (refine ACalls.fresh (ds := [.agg x.body.enc]) (m := 2) hx [5, 6] rfl rfl (by simp) (by simp) ?_ <;> (rintro c H' ⟨rfl, e2, B2, e3, B3, rfl⟩ _; refine ⟨rfl, rfl, ?_⟩))
    | (refine all_intro (fun Bz => ?_))
    | (refine ⟨sd, ?_⟩)
    | (refine ⟨by assumption, ?_⟩)) <;> (try simp only [go_sem, seval]))
   | assumption)
  refine run_sound Tryz.func37 mixed 200 _ _ (by kernel_rfl) ?_
  simp only [go_sem, seval]
  try simp (disch := omega) only [wrap_ok]
  refine hnext (q.1 ++ [x], Bz) _ (by simp [← hinv]) (by refine ⟨by simp [mkS, Rl.enc_eq x], by simp [mkS, Rl.enc_eq x], by simp only [mkS, List.all_cons, List.all_nil, O.refsLt, C.refsLt, C.refsLt1, all_dmap]; first | done | rfl | (simp; done), ?_⟩; simp [mkS, Abs.get, C.refsLtT, C.refsLt, C.refsLt1])
 ·simp only [List.append_nil] at hinv
  rw [hinv]
  refine run_sound Tryz.func37 mixed 7 _ _ (by kernel_rfl) ?_
  simp only [go_sem, seval, run.eq_1]
  repeat' (first
   | ((first | (refine br_n (fun hq => ?_) (fun hq => ?_)) | (refine idx_intro (fun x hx => have hq := hx; ?_))) <;> (try simp only [go_sem, seval, run.eq_1, hq]))
   | (simp (disch := omega) only [wrap_ok])
   | ((first
    | (refine ⟨sd, ?_⟩)
    | (refine ⟨by assumption, ?_⟩)) <;> (try simp only [go_sem, seval, run.eq_1]))
   | assumption)
  refine AW.placeB 2 0 4 0 rfl rfl rfl rfl (by decide) ?_
  refine run_sound Tryz.func37 mixed 200 _ _ (by kernel_rfl) ?_
  simp only [go_sem, seval]
  repeat' (first
   | (exact ⟨_, _, rfl⟩)
   | ((first | (refine br_n (fun hq => ?_) (fun hq => ?_)) | (refine idx_intro (fun x hx => have hq := hx; ?_))) <;> (try simp only [go_sem, seval, hq]))
   | (simp (disch := omega) only [wrap_ok])
   | ((first
    | (refine ⟨sd, ?_⟩)
    | (refine ⟨by assumption, ?_⟩)) <;> (try simp only [go_sem, seval]))
   | assumption)
def nfRows (p : Pg) (i : Nat) : List (List D) := ((p.rels.take i).map nfR).map Rl.enc ++ (p.rels.drop i).map Rl.enc
theorem nfRows_len (p : Pg) (i : Nat) : (nfRows p i).length = p.rels.length := by
 simp only [nfRows, List.length_append, List.length_map, List.length_take, List.length_drop]; omega
theorem iNormalProgram_T (p : Pg) (hw : wtL p.enc ≤ 1048576) : ACalls Tryz.prog 9 [.d (.agg p.enc)] [.hole] (fun c H' => c = .tup [.agg [.own 0 1], .d (.bool (nfB p))] ∧ ∃ e B, H' = [.tree 1 7 e ((nfL p).map Rl.enc) B none]) := by
 have hmx : maxLen = 9223372036854775807 := rfl
 have hpk := iProgramOk_fn p (by omega)
 unfold nfL
 by_cases hp : pgOk p = true
 ·rw [hp] at hpk
  have hcp := copyProgram_T p hw (pgOk_bodies hp)
  have hwr : ∀ r, r ∈ p.rels → wtL r.body.enc ≤ 1048576 := fun r hr => by
   have := Pg.wt_rels hr; have := Rl.wt_body r; omega
  have hnf : nfB p = (p.rels.all nfO && pgOk ⟨p.rels.map nfR⟩) := by unfold nfB; rw [hp]; rfl
  have hwn := nf_wt hp hw
  have hlp : p.rels.length ≤ 8 := by
   have hp' := hp
   unfold pgOk at hp'
   simp only [Bool.and_eq_true, decide_eq_true_eq] at hp'
   exact hp'.1
  have hk2 := iProgramOk_fn ⟨p.rels.map nfR⟩ hwn
  refine ACalls.enter (fn := Tryz.f9) Tryz.func9 rfl (by show 1 ≤ _; decide) ?_
  refine AW.hole ?_
  refine run_sound Tryz.func9 mixed 13 _ _ (by kernel_rfl) ?_
  simp only [go_sem, seval, run.eq_1]
  repeat' (first
   | ((first | (refine br_n (fun hq => ?_) (fun hq => ?_)) | (refine idx_intro (fun x hx => have hq := hx; ?_))) <;> (try simp only [go_sem, seval, hq]))
   | (simp (disch := omega) only [wrap_ok])
   | ((first
    | (refine hpk.calls rfl ?_)
    | (refine ACalls.fresh (ds := [.agg p.enc]) (m := 1) hcp [1] rfl rfl (by simp) (by simp) ?_ <;> (rintro c H' ⟨rfl, e2, B2, rfl⟩ _; refine ⟨rfl, rfl, ?_⟩))
    | (refine (iProgramOk_fn _ sd).calls rfl ?_)
    | (refine ⟨sd, ?_⟩)
    | (refine ⟨by assumption, ?_⟩)) <;> (try simp only [go_sem, seval]))
   | assumption)
  simp only [run.eq_1]
  have hr0 : p.rels.map Rl.enc = nfRows p 0 := by simp [nfRows]
  rw [hr0]
  refine AW.lp [2, 4, 18] (fun q : Nat × (Nat → Prop) => [(19, .d (.int .i64 q.1))]) (fun _ q => [.hole, .tree 1 7 e2 (nfRows p q.1) q.2 none, .box (p.enc.map .d), .box [.nil0], .box [.own 1 1]]) (fun q => q.1 ≤ p.rels.length ∧ (p.rels.take q.1).all nfO = true) (fun q => p.rels.length - q.1) (0, B2) ⟨Nat.zero_le _, by simp⟩ (by refine ⟨by simp [mkS], by simp [mkS], by simp only [mkS, List.all_cons, List.all_nil, O.refsLt, C.refsLt, C.refsLt1, all_dmap]; first | done | rfl | (simp; done), ?_⟩; simp [mkS, Abs.get, C.refsLtT, C.refsLt, C.refsLt1]) ?_
  rintro ⟨i, B1⟩ ⟨hi, hall⟩ hnext
  dsimp only at hi hall hnext ⊢
  by_cases h : i < p.rels.length
  ·have hlt : (i : Int) < (p.rels.length : Int) := by omega
   have hxi : p.rels[i]? = some p.rels[i] := List.getElem?_eq_getElem h
   have hd : p.rels.drop i = p.rels[i] :: p.rels.drop (i + 1) := List.drop_eq_getElem_cons h
   have hnxt : p.rels.take (i + 1) = p.rels.take i ++ [p.rels[i]] := by rw [List.take_add_one, List.getElem?_eq_getElem h]; rfl
   have hxm : p.rels[i] ∈ p.rels := List.getElem_mem _
   have hrw : nfRows p i = ((p.rels.take i).map nfR).map Rl.enc ++ (p.rels[i]).enc :: (p.rels.drop (i + 1)).map Rl.enc := by unfold nfRows; rw [hd]; rfl
   have hrn : nfRows p (i + 1) = ((p.rels.take i).map nfR).map Rl.enc ++ (nfR p.rels[i]).enc :: (p.rels.drop (i + 1)).map Rl.enc := by unfold nfRows; rw [hnxt]; simp only [List.map_append, List.map_cons, List.map_nil, List.append_assoc, List.cons_append, List.nil_append]
   have hai : (((p.rels.take i).map nfR).map Rl.enc).length = i := by simp; omega
   have hll : (((p.rels.take i).map nfR).map Rl.enc ++ (p.rels[i]).enc :: (p.rels.drop (i + 1)).map Rl.enc).length = p.rels.length := by rw [← hrw, nfRows_len]
   have hnx := fun B' s' => hnext (i + 1, B') s'
   clear hnext
   simp only [hnxt, hrn, List.all_append, hall, List.all_cons, List.all_nil, Bool.and_true, Bool.true_and] at hnx
   have hbd : nfO p.rels[i] = false → nfB p = false := fun h0 => by
    rw [hnf]
    have : p.rels.all nfO = false := by
     rw [List.all_eq_false]
     exact ⟨_, hxm, by rw [h0]; simp⟩
    rw [this]; rfl
   rw [hrw]
   clear hrw hrn hnxt hd hr0
   generalize hx : p.rels[i] = x at *
   generalize hA : ((p.rels.take i).map nfR).map Rl.enc = A at *
   generalize hZ : (p.rels.drop (i + 1)).map Rl.enc = Z at *
   have hcl := iClausesOf_fn x.body (hwr x hxm)
   have hcg := clauseGoal_T (clsV x.body) (fun c hc y hy => by
    have h1 := clsV_wt c hc
    have h2 := wtR_mem (List.mem_map.2 ⟨y, hy, rfl⟩ : y.enc ∈ c.map Gl.enc)
    have h3 := hwr x hxm
    omega)
   rw [Gl.enc_eq] at hcl
   have s1 := fun (y : List D) => set_split (x := x.enc) (y := y) (r := Z) hai
   have s2 := fun (y y' : List D) => set_split (x := y) (y := y') (r := Z) hai
   have g1 := fun (y : List D) => at_split (x := y) (r := Z) hai
   have xe := Rl.enc_eq x
   rw [xe] at hll ⊢
   have g2 := fun (y : List D) (Q : List D → Prop) => idx_of (g1 y) Q
   refine AW.hole ?_
   refine run_sound Tryz.func9 mixed 10 _ _ (by kernel_rfl) ?_
   simp only [go_sem, seval, run.eq_1, hlt, hll, s2, g1, g2]
   repeat' (first
    | ((first | (refine br_n (fun hq => ?_) (fun hq => ?_)) | (refine idx_intro (fun x hx => have hq := hx; ?_))) <;> (try simp only [go_sem, seval, hlt, hll, s2, g1, g2, run.eq_1, hq]))
    | (simp (disch := omega) only [wrap_ok])
    | ((first
     | (refine (iProgramOk_fn _ sd).calls rfl ?_)
     | (refine ⟨sd, ?_⟩)
     | (refine ⟨by assumption, ?_⟩)) <;> (try simp only [go_sem, seval, hlt, hll, s2, g1, g2, run.eq_1]))
    | assumption)
   refine AW.regT ?_
   simp only [go_sem, seval]
   repeat' (first
    | ((first | (refine br_n (fun hq => ?_) (fun hq => ?_)) | (refine idx_intro (fun x hx => have hq := hx; ?_))) <;> (try simp only [go_sem, seval, hlt, hll, s2, g1, g2, hq]))
    | (simp (disch := omega) only [wrap_ok])
    | ((first
     | (refine all_intro (fun Bz => ?_))
     | (refine hcl.calls rfl ?_)
     | (refine (iProgramOk_fn _ sd).calls rfl ?_)
     | (refine ⟨sd, ?_⟩)
     | (refine ⟨by assumption, ?_⟩)) <;> (try simp only [go_sem, seval, hlt, hll, s2, g1, g2]))
    | assumption)
   by_cases hcb : clsB x.body = true
   ·by_cases hco : cgOk (clsV x.body) = true
    ·have hox : nfO x = true := by unfold nfO; rw [hcb, hco]; rfl
     have hrx : (nfR x).enc = [.str x.name, .int .i64 x.arity, .int .i64 x.locals, .int .i64 (cgK (clsV x.body)), .str [], .sl [], .sl (((cgV (clsV x.body)).map mkC).map Gl.enc)] := by rw [Rl.enc_eq]; rfl
     rw [hrx] at hnx
     rw [hco] at hcg
     refine run_sound Tryz.func9 mixed 200 _ _ (by kernel_rfl) ?_
     simp only [go_sem, seval, hcb, hlt, hll, s2, g1, g2]
     repeat' (first
      | ((first | (refine br_n (fun hq => ?_) (fun hq => ?_)) | (refine idx_intro (fun x hx => have hq := hx; ?_))) <;> (try simp only [go_sem, seval, hcb, hlt, hll, s2, g1, g2, hq]))
      | (simp (disch := omega) only [wrap_ok])
      | ((first
       | (refine ACalls.fresh (ds := [.sl ((clsV x.body).map encL)]) (m := 1) hcg [5] rfl rfl (by simp) (by simp) ?_ <;> (rintro c H' ⟨rfl, e3, B3, rfl⟩ _; refine ⟨rfl, rfl, ?_⟩))
       | (refine all_intro (fun Bz => ?_))
       | (refine (iProgramOk_fn _ sd).calls rfl ?_)
       | (refine ⟨sd, ?_⟩)
       | (refine ⟨by assumption, ?_⟩)) <;> (try simp only [go_sem, seval, hcb, hlt, hll, s2, g1, g2]))
      | assumption)
     try simp (disch := omega) only [wrap_ok]
     refine hnx Bz _ ⟨by omega, hox⟩ (by omega) (by refine ⟨by simp [mkS, s2], by simp [mkS, s2], by simp only [mkS, List.all_cons, List.all_nil, O.refsLt, C.refsLt, C.refsLt1, all_dmap]; first | done | rfl | (simp; done), ?_⟩; simp [mkS, Abs.get, C.refsLtT, C.refsLt, C.refsLt1, s2])
    ·simp only [Bool.not_eq_true] at hco
     have hbad := hbd (by unfold nfO; rw [hco]; simp)
     rw [hco] at hcg
     refine run_sound Tryz.func9 mixed 13 _ _ (by kernel_rfl) ?_
     simp only [go_sem, seval, run.eq_1, hcb]
     repeat' (first
      | ((first | (refine br_n (fun hq => ?_) (fun hq => ?_)) | (refine idx_intro (fun x hx => have hq := hx; ?_))) <;> (try simp only [go_sem, seval, hcb, run.eq_1, hq]))
      | (simp (disch := omega) only [wrap_ok])
      | ((first
       | (refine ACalls.fresh (ds := [.sl ((clsV x.body).map encL)]) (m := 1) hcg [5] rfl rfl (by simp) (by simp) ?_ <;> (rintro c H' ⟨rfl, e3, B3, rfl⟩ _; refine ⟨rfl, rfl, ?_⟩))
       | (refine (iProgramOk_fn _ sd).calls rfl ?_)
       | (refine ⟨sd, ?_⟩)
       | (refine ⟨by assumption, ?_⟩)) <;> (try simp only [go_sem, seval, hcb, run.eq_1]))
      | assumption)
     rw [hbad]
     simp only [Bool.false_eq_true, if_false, List.map_nil]
     refine AW.adoptTB 3 0 7 82 (by decide) rfl rfl ?_
     refine AW.placeB 3 0 7 0 rfl rfl rfl rfl (by decide) ?_
     refine run_sound Tryz.func9 mixed 200 _ _ (by kernel_rfl) ?_
     simp only [go_sem, seval]
     repeat' (first
      | (exact ⟨_, _, rfl⟩)
      | ((first | (refine br_n (fun hq => ?_) (fun hq => ?_)) | (refine idx_intro (fun x hx => have hq := hx; ?_))) <;> (try simp only [go_sem, seval, hq]))
      | (simp (disch := omega) only [wrap_ok])
      | ((first
       | (refine (iProgramOk_fn _ sd).calls rfl ?_)
       | (refine ⟨sd, ?_⟩)
       | (refine ⟨by assumption, ?_⟩)) <;> (try simp only [go_sem, seval]))
      | assumption)
   ·simp only [Bool.not_eq_true] at hcb
    have hbad := hbd (by unfold nfO; rw [hcb]; rfl)
    refine run_sound Tryz.func9 mixed 6 _ _ (by kernel_rfl) ?_
    simp only [go_sem, seval, run.eq_1, hcb]
    repeat' (first
     | ((first | (refine br_n (fun hq => ?_) (fun hq => ?_)) | (refine idx_intro (fun x hx => have hq := hx; ?_))) <;> (try simp only [go_sem, seval, hcb, run.eq_1, hq]))
     | (simp (disch := omega) only [wrap_ok])
     | ((first
      | (refine (iProgramOk_fn _ sd).calls rfl ?_)
      | (refine ⟨sd, ?_⟩)
      | (refine ⟨by assumption, ?_⟩)) <;> (try simp only [go_sem, seval, hcb, run.eq_1]))
     | assumption)
    rw [hbad]
    simp only [Bool.false_eq_true, if_false, List.map_nil]
    refine AW.adoptTB 3 0 7 82 (by decide) rfl rfl ?_
    refine AW.placeB 3 0 6 0 rfl rfl rfl rfl (by decide) ?_
    refine run_sound Tryz.func9 mixed 200 _ _ (by kernel_rfl) ?_
    simp only [go_sem, seval]
    repeat' (first
     | (exact ⟨_, _, rfl⟩)
     | ((first | (refine br_n (fun hq => ?_) (fun hq => ?_)) | (refine idx_intro (fun x hx => have hq := hx; ?_))) <;> (try simp only [go_sem, seval, hq]))
     | (simp (disch := omega) only [wrap_ok])
     | ((first
      | (refine (iProgramOk_fn _ sd).calls rfl ?_)
      | (refine ⟨sd, ?_⟩)
      | (refine ⟨by assumption, ?_⟩)) <;> (try simp only [go_sem, seval]))
     | assumption)
  ·obtain rfl : i = p.rels.length := by omega
   have hrw : nfRows p p.rels.length = (p.rels.map nfR).map Rl.enc := by simp only [nfRows, List.take_length, List.drop_length, List.map_nil, List.append_nil]
   rw [hrw]
   rw [List.take_length] at hall
   rw [hall, Bool.true_and] at hnf
   have hll : ((p.rels.map nfR).map Rl.enc).length = p.rels.length := by simp
   have hbo : ∀ e0 B0 X, borAll (.hole :: .tree 1 7 e0 ((p.rels.map nfR).map Rl.enc) B0 none :: X) [.agg [.own 1 1]] = some [.agg (Pg.enc ⟨p.rels.map nfR⟩)] := fun e0 B0 X => by
    rw [Pg.enc_eq]; rfl
   by_cases hk : pgOk ⟨p.rels.map nfR⟩ = true
   ·rw [hk] at hk2 hnf
    rw [hnf]
    simp only [if_true]
    refine run_sound Tryz.func9 mixed 12 _ _ (by kernel_rfl) ?_
    simp only [go_sem, seval, run.eq_1, hll]
    repeat' (first
     | ((first | (refine br_n (fun hq => ?_) (fun hq => ?_)) | (refine idx_intro (fun x hx => have hq := hx; ?_))) <;> (try simp only [go_sem, seval, hll, run.eq_1, hq]))
     | (simp (disch := omega) only [wrap_ok])
     | ((first
      | (refine hk2.lend rfl (hbo _ _ _) ?_)
      | (refine (iProgramOk_fn _ sd).calls rfl ?_)
      | (refine ⟨sd, ?_⟩)
      | (refine ⟨by assumption, ?_⟩)) <;> (try simp only [go_sem, seval, hll, run.eq_1]))
     | assumption)
    refine AW.placeB 3 0 1 0 rfl rfl rfl rfl (by decide) ?_
    refine run_sound Tryz.func9 mixed 200 _ _ (by kernel_rfl) ?_
    simp only [go_sem, seval]
    repeat' (first
     | (exact ⟨_, _, rfl⟩)
     | ((first | (refine br_n (fun hq => ?_) (fun hq => ?_)) | (refine idx_intro (fun x hx => have hq := hx; ?_))) <;> (try simp only [go_sem, seval, hq]))
     | (simp (disch := omega) only [wrap_ok])
     | ((first
      | (refine (iProgramOk_fn _ sd).calls rfl ?_)
      | (refine ⟨sd, ?_⟩)
      | (refine ⟨by assumption, ?_⟩)) <;> (try simp only [go_sem, seval]))
     | assumption)
   ·simp only [Bool.not_eq_true] at hk
    rw [hk] at hk2
    have hbad : nfB p = false := by rw [hnf, hk]
    refine run_sound Tryz.func9 mixed 11 _ _ (by kernel_rfl) ?_
    simp only [go_sem, seval, run.eq_1, hll]
    repeat' (first
     | ((first | (refine br_n (fun hq => ?_) (fun hq => ?_)) | (refine idx_intro (fun x hx => have hq := hx; ?_))) <;> (try simp only [go_sem, seval, hll, run.eq_1, hq]))
     | (simp (disch := omega) only [wrap_ok])
     | ((first
      | (refine hk2.lend rfl (hbo _ _ _) ?_)
      | (refine (iProgramOk_fn _ sd).calls rfl ?_)
      | (refine ⟨sd, ?_⟩)
      | (refine ⟨by assumption, ?_⟩)) <;> (try simp only [go_sem, seval, hll, run.eq_1]))
     | assumption)
    rw [hbad]
    simp only [Bool.false_eq_true, if_false, List.map_nil]
    refine AW.adoptTB 3 0 7 82 (by decide) rfl rfl ?_
    refine AW.placeB 3 0 5 0 rfl rfl rfl rfl (by decide) ?_
    refine run_sound Tryz.func9 mixed 200 _ _ (by kernel_rfl) ?_
    simp only [go_sem, seval]
    repeat' (first
     | (exact ⟨_, _, rfl⟩)
     | ((first | (refine br_n (fun hq => ?_) (fun hq => ?_)) | (refine idx_intro (fun x hx => have hq := hx; ?_))) <;> (try simp only [go_sem, seval, hq]))
     | (simp (disch := omega) only [wrap_ok])
     | ((first
      | (refine (iProgramOk_fn _ sd).calls rfl ?_)
      | (refine ⟨sd, ?_⟩)
      | (refine ⟨by assumption, ?_⟩)) <;> (try simp only [go_sem, seval]))
     | assumption)
 ·simp only [Bool.not_eq_true] at hp
  rw [hp] at hpk
  have hbad : nfB p = false := by unfold nfB; rw [hp]; rfl
  refine ACalls.enter (fn := Tryz.f9) Tryz.func9 rfl (by show 1 ≤ _; decide) ?_
  refine AW.hole ?_
  refine run_sound Tryz.func9 mixed 8 _ _ (by kernel_rfl) ?_
  simp only [go_sem, seval, run.eq_1]
  repeat' (first
   | ((first | (refine br_n (fun hq => ?_) (fun hq => ?_)) | (refine idx_intro (fun x hx => have hq := hx; ?_))) <;> (try simp only [go_sem, seval, run.eq_1, hq]))
   | (simp (disch := omega) only [wrap_ok])
   | ((first
    | (refine hpk.calls rfl ?_)
    | (refine (iProgramOk_fn _ sd).calls rfl ?_)
    | (refine ⟨sd, ?_⟩)
    | (refine ⟨by assumption, ?_⟩)) <;> (try simp only [go_sem, seval, run.eq_1]))
   | assumption)
  rw [hbad]
  simp only [Bool.false_eq_true, if_false, List.map_nil]
  refine AW.adoptTB 3 0 7 82 (by decide) rfl rfl ?_
  refine AW.placeB 3 0 4 0 rfl rfl rfl rfl (by decide) ?_
  refine run_sound Tryz.func9 mixed 200 _ _ (by kernel_rfl) ?_
  simp only [go_sem, seval]
  repeat' (first
   | (exact ⟨_, _, rfl⟩)
   | ((first | (refine br_n (fun hq => ?_) (fun hq => ?_)) | (refine idx_intro (fun x hx => have hq := hx; ?_))) <;> (try simp only [go_sem, seval, hq]))
   | (simp (disch := omega) only [wrap_ok])
   | ((first
    | (refine (iProgramOk_fn _ sd).calls rfl ?_)
    | (refine ⟨sd, ?_⟩)
    | (refine ⟨by assumption, ?_⟩)) <;> (try simp only [go_sem, seval]))
   | assumption)
end Go.Proofs.YtbncaodnnbldmaaGreat
