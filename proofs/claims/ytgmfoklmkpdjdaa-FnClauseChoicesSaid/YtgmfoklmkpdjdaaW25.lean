import Derived.Test.YtgmfoklmkpdjdaaW17
import Derived.Test.YtgmfoklmkpdjdaaP3
namespace Go.Proofs.Ytgmfoklmkpdjdaa
open Go.Abs
set_option maxRecDepth 100000
set_option maxHeartbeats 4000000
set_option linter.unusedSimpArgs false
set_option linter.unusedVariables false
theorem intsD_fl (l : List Int) : ∀ x, x ∈ intsD l → ∀ d, d ∈ x → d.flat = true := fun x hx d hd => by
 obtain ⟨n, _, rfl⟩ := List.mem_map.1 hx
 simp at hd; subst hd; rfl
theorem intsD_app (a b : List Int) : intsD (a ++ b) = intsD a ++ intsD b := by simp [intsD]
theorem intsD_nl : intsD [] = [] := rfl
def encP (l : List Int) : List D := [.sl (intsD l)]
theorem encP_eq (l : List Int) : encP l = [.sl (intsD l)] := rfl
def partRow (l : List Gl) (i p : Nat) : List (List D) := List.replicate p [.sl []] ++ (Gl.chParts (l.drop p) i).map encP
theorem partRow_len {l : List Gl} {i p : Nat} (hp : p ≤ l.length) : (partRow l i p).length = l.length := by
 simp [partRow, Gl.chParts_len]; omega
theorem partRow_set {l : List Gl} {i p : Nat} {x : Gl} (hx : l[p]? = some x) : (partRow l i (p + 1)).set p [.sl (intsD (x.chI (i / Gl.prd (l.drop (p + 1)) % x.clsS.length)))] = partRow l i p := by
 obtain ⟨h1, h2⟩ := List.getElem?_eq_some_iff.1 hx
 unfold partRow
 rw [List.drop_eq_getElem_cons h1, h2]
 simp only [Gl.chParts, List.map_cons, encP_eq]
 rw [List.replicate_succ', List.append_assoc, List.set_append_right _ _ (by simp)]
 simp
def ctT (t : Gl) : Prop := ∀ i : Nat, i < t.clsS.length → t.clsS.length ≤ 64 → ACalls Try.prog 19 [.d (.agg t.enc), .d (.int .i64 i)] [.hole] fun c H' => c = .own 0 1 ∧ ∃ e B, H' = [.tree 1 1 e (intsD (t.chI i)) B none]
theorem ctT_gives {t : Gl} (h : ctT t) {i : Nat} (hi : i < t.clsS.length) (hl : t.clsS.length ≤ 64) : Gives Try.prog 19 [.agg t.enc, .int .i64 i] (.d (.sl (intsD (t.chI i)))) := by
 refine ACalls.frozen (m := 1) (h i hi hl) (fun c H' ⟨h1, e, B, h2⟩ _ => ?_)
 subst h1 h2; rfl
theorem choicesTo_T : ∀ t : Gl, wtL t.enc ≤ 1048576 → ctT t := by
 intro t
 induction t using Gl.ind' with
 | h t ih =>
  intro hw i hi hl
  have hmx : maxLen = 9223372036854775807 := rfl
  have hcw := Gl.cnt_le_wt t
  have hch := t.chI_len i
  rw [Gl.chI_eq] at hch ⊢
  by_cases h8 : t.kind = 8
  ·obtain ⟨hs1, hs2, hs3⟩ := Gl.or_parts h8 hi hl
   simp only [if_pos h8] at hch ⊢
   generalize hT : Gl.chOr t.goals 0 i = T at hch ⊢
   refine ACalls.enter (fn := Try.f19) Try.func19 rfl (by show 2 ≤ _; decide) ?_
   refine run_sound Try.func19 mixed 200 _ _ (by kernel_rfl) ?_
   simp only [go_sem, seval, h8]
   repeat' (first
    | ((first | (refine br_n (fun hq => ?_) (fun hq => ?_)) | (refine idx_intro (fun x hx => have hq := hx; ?_))) <;> (try simp only [go_sem, seval, h8, hq]))
    | (simp (disch := omega) only [wrap_ok])
    | ((first
     | (refine ⟨sd, ?_⟩)
     | (refine ⟨by assumption, ?_⟩)) <;> (try simp only [go_sem, seval, h8]))
    | assumption)
   refine AW.rng t.goals [5, 22, 23] 24 22 (fun p : Nat => [(1, .d (.int .i64 p))]) (fun _ p => [.hole, .box (t.enc.map .d)]) (fun r p => Gl.chOr r (t.goals.length - r.length) p = T ∧ p < (r.map fun x => x.clsS.length).sum ∧ p < 64) i rfl (by simp) ⟨by simpa using hT, hs1, by omega⟩ (by refine ⟨by simp [mkS], by simp [mkS], by simp only [mkS, List.all_cons, List.all_nil, O.refsLt, C.refsLt, C.refsLt1, all_dmap]; first | done | rfl | (simp; done), ?_⟩; simp [mkS, Abs.get, C.refsLtT, C.refsLt, C.refsLt1]) (fun j x r p hxj hdr hlt hm hinv hnext => ?_) (fun p hinv => ?_)
   ·have hxm := List.mem_of_getElem? hxj
    have hxw : wtL x.enc ≤ 1048576 := by have := Gl.wt_goals hxm; omega
    have hxl := hs3 x hxm
    have hcl := clausesOf_fn x hxw
    rw [Gl.cls_same, if_pos hxl] at hcl
    obtain ⟨hi1, hi2, hi3⟩ := hinv
    have hrl : (x :: r).length = t.goals.length - j := by rw [← hdr]; simp
    simp only [List.length_cons] at hrl
    have hpos : t.goals.length - (x :: r).length = j := by simp only [List.length_cons]; omega
    rw [hpos] at hi1
    simp only [Gl.chOr] at hi1
    simp only [List.map_cons, List.sum_cons] at hi2
    by_cases hb : p < x.clsS.length
    ·rw [if_pos hb] at hi1
     have hx := ih x hxm hxw p hb hxl
     have hlb : (p : Int) < (x.clsS.length : Int) := by omega
     refine AW.hole ?_
     refine run_sound Try.func19 mixed 16 _ _ (by kernel_rfl) ?_
     simp only [go_sem, seval, run.eq_1, hlt, idx_of hxj]
     repeat' (first
      | ((first | (refine br_n (fun hq => ?_) (fun hq => ?_)) | (refine idx_intro (fun x hx => have hq := hx; ?_))) <;> (try simp only [go_sem, seval, hlt, idx_of hxj, clsR, Option.getD_some, hlb, run.eq_1, hq]))
      | (simp (disch := omega) only [wrap_ok])
      | ((first
       | (refine hcl.calls rfl ?_)
       | (refine ⟨sd, ?_⟩)
       | (refine ⟨by assumption, ?_⟩)) <;> (try simp only [go_sem, seval, hlt, idx_of hxj, clsR, Option.getD_some, hlb, run.eq_1]))
      | assumption)
     refine AW.regL ?_
     simp only [go_sem, seval]
     repeat' (first
      | ((first | (refine br_n (fun hq => ?_) (fun hq => ?_)) | (refine idx_intro (fun x hx => have hq := hx; ?_))) <;> (try simp only [go_sem, seval, hq]))
      | (simp (disch := omega) only [wrap_ok])
      | ((first
       | (refine ACalls.fresh (ds := [.agg x.enc, .int .i64 p]) (m := 1) hx [2] rfl rfl (by simp) (by simp) ?_ <;> (rintro c H' ⟨rfl, e1, B1, rfl⟩ _; refine ⟨rfl, rfl, ?_⟩))
       | (refine all_intro (fun Bz => ?_))
       | (refine ⟨sd, ?_⟩)
       | (refine ⟨by assumption, ?_⟩)) <;> (try simp only [go_sem, seval]))
      | assumption)
     have hTl := congrArg List.length hi1
     simp only [List.length_cons] at hTl
     refine ⟨by omega, by omega, fun Bz => ?_⟩
     refine AW.place 4 4 0 rfl rfl rfl (by decide) ?_
     refine run_sound Try.func19 mixed 200 _ _ (by kernel_rfl) ?_
     simp only [go_sem, seval]
     repeat' (first
      | (exact ⟨3, Bz, by rw [← hi1]; rfl⟩)
      | ((first | (refine br_n (fun hq => ?_) (fun hq => ?_)) | (refine idx_intro (fun x hx => have hq := hx; ?_))) <;> (try simp only [go_sem, seval, hq]))
      | (simp (disch := omega) only [wrap_ok])
      | ((first
       | (refine ⟨sd, ?_⟩)
       | (refine ⟨by assumption, ?_⟩)) <;> (try simp only [go_sem, seval]))
      | assumption)
    ·rw [if_neg hb] at hi1
     have hlb : ¬ (p : Int) < (x.clsS.length : Int) := by omega
     have hsub : (p : Int) - (x.clsS.length : Int) = ((p - x.clsS.length : Nat) : Int) := by omega
     have hwr : IntKind.i64.wrap ((p - x.clsS.length : Nat) : Int) = ((p - x.clsS.length : Nat) : Int) := wrap_ok (by omega) (by omega)
     refine run_sound Try.func19 mixed 200 _ _ (by kernel_rfl) ?_
     simp only [go_sem, seval, hlt, idx_of hxj]
     repeat' (first
      | ((first | (refine br_n (fun hq => ?_) (fun hq => ?_)) | (refine idx_intro (fun x hx => have hq := hx; ?_))) <;> (try simp only [go_sem, seval, hlt, idx_of hxj, clsR, Option.getD_some, hlb, hsub, hwr, hq]))
      | (simp (disch := omega) only [wrap_ok])
      | ((first
       | (refine hcl.calls rfl ?_)
       | (refine ⟨sd, ?_⟩)
       | (refine ⟨by assumption, ?_⟩)) <;> (try simp only [go_sem, seval, hlt, idx_of hxj, clsR, Option.getD_some, hlb, hsub, hwr]))
      | assumption)
     refine hnext (p - x.clsS.length) _ ⟨by rw [← hi1]; congr 1; omega, by omega, by omega⟩ (by refine ⟨by simp [mkS], by simp [mkS], by simp only [mkS, List.all_cons, List.all_nil, O.refsLt, C.refsLt, C.refsLt1, all_dmap]; first | done | rfl | (simp; done), ?_⟩; simp [mkS, Abs.get, C.refsLtT, C.refsLt, C.refsLt1])
   ·obtain ⟨_, hi2, _⟩ := hinv
    simp at hi2
  ·simp only [if_neg h8] at hch ⊢
   by_cases h7 : t.kind = 7
   ·obtain ⟨hs1, hs2, hs3⟩ := Gl.and_parts h7 hi hl
    have hgl : t.goals.length ≤ 1048576 := by
     have hwg : wtR (t.goals.map Gl.enc) ≤ 1048576 := by simp only [Gl.enc_eq t, wtL, D.wt] at hw; omega
     have := sumW_le (t.goals.map Gl.enc) 0; simp [sumW] at this; omega
    simp only [if_pos h7] at hch ⊢
    refine ACalls.enter (fn := Try.f19) Try.func19 rfl (by show 2 ≤ _; decide) ?_
    refine run_sound Try.func19 mixed 200 _ _ (by kernel_rfl) ?_
    simp only [go_sem, seval, h8, h7]
    repeat' (first
     | ((first | (refine br_n (fun hq => ?_) (fun hq => ?_)) | (refine idx_intro (fun x hx => have hq := hx; ?_))) <;> (try simp only [go_sem, seval, h8, h7, hq]))
     | (simp (disch := omega) only [wrap_ok])
     | ((first
      | (refine ⟨sd, ?_⟩)
      | (refine ⟨by assumption, ?_⟩)) <;> (try simp only [go_sem, seval, h8, h7]))
     | assumption)
    refine AW.adoptB 5 1 3 (by decide) rfl ?_
    refine AW.lp [2, 5, 10] (fun p : Nat => [(11, .d (.int .i64 ((p : Int) - 1))), (1, .d (.int .i64 (i / Gl.prd (t.goals.drop p) : Nat)))]) (fun _ p => [.hole, .box (t.enc.map .d), .row 1 36 (partRow t.goals i p), .buf 0 1 3 []]) (fun p => p ≤ t.goals.length) (fun p => p) t.goals.length (Nat.le_refl _) (by refine ⟨by simp [mkS], by simp [mkS, partRow, Gl.chParts], by simp only [mkS, List.all_cons, List.all_nil, O.refsLt, C.refsLt, C.refsLt1, all_dmap]; first | done | rfl | (simp; done), ?_⟩; simp [mkS, Abs.get, C.refsLtT, C.refsLt, C.refsLt1, Gl.prd]) ?_
    intro p1 hp1 hnext
    cases p1 with
    | zero =>
     refine run_sound Try.func19 mixed 200 _ _ (by kernel_rfl) ?_
     simp only [go_sem, seval]
     repeat' (first
      | ((first | (refine br_n (fun hq => ?_) (fun hq => ?_)) | (refine idx_intro (fun x hx => have hq := hx; ?_))) <;> (try simp only [go_sem, seval, hq]))
      | (simp (disch := omega) only [wrap_ok])
      | ((first
       | (refine ⟨sd, ?_⟩)
       | (refine ⟨by assumption, ?_⟩)) <;> (try simp only [go_sem, seval]))
      | assumption)
     all_goals first | (exfalso; omega) | skip
     refine AW.freeze 89 2 rfl rfl ?_ ?_
     ·exact (partRow_len (Nat.zero_le _)).symm
     have hpr0 : partRow t.goals i 0 = (Gl.chParts t.goals i).map encP := by simp [partRow]
     have hcl0 := Gl.chParts_len t.goals i
     have hfl := Gl.chParts_flat t.goals i
     have hal := Gl.chAnd_len t.goals i
     have hcn := Gl.cnt_eq t
     rw [hpr0]
     generalize Gl.chParts t.goals i = Q at *
     refine AW.rng Q [89, 90] 91 89 (fun p : Nat × List Int => [(5, .own 3 p.1)]) (fun _ p => [.hole, .box (t.enc.map .d), .dead, .buf p.1 1 3 (intsD p.2)]) (fun r p => p.2 ++ r.flatten = Q.flatten) (0, []) rfl (by simp) rfl (by refine ⟨by simp [mkS, intsD_nl], by simp [mkS, intsD_nl], by simp only [mkS, List.all_cons, List.all_nil, O.refsLt, C.refsLt, C.refsLt1, all_dmap]; first | done | rfl | (simp; done), ?_⟩; simp [mkS, Abs.get, C.refsLtT, C.refsLt, C.refsLt1, intsD_nl]) (fun j x r p hxj hdr hlt hm hinv hnext => ?_) (fun p hinv => ?_)
     ·have hvl := congrArg List.length hinv
      rw [hfl] at hvl
      simp only [List.length_append, List.flatten_cons] at hvl
      have hlt2 : (j : Int) < (t.goals.length : Int) := by omega
      refine run_sound Try.func19 mixed 200 _ _ (by kernel_rfl) ?_
      simp only [go_sem, seval, hlt2, idx_of hxj, encP_eq]
      repeat' (first
       | ((first | (refine br_n (fun hq => ?_) (fun hq => ?_)) | (refine idx_intro (fun x hx => have hq := hx; ?_))) <;> (try simp only [go_sem, seval, hlt2, idx_of hxj, encP_eq, hq]))
       | (simp (disch := omega) only [wrap_ok])
       | ((first
        | (refine ⟨sd, ?_⟩)
        | (refine ⟨by assumption, ?_⟩)) <;> (try simp only [go_sem, seval, hlt2, idx_of hxj, encP_eq]))
       | assumption)
      refine hnext (p.1 + 1, p.2 ++ x) _ (by rw [← hinv]; simp) (by refine ⟨by simp [mkS, intsD_app], by simp [mkS, intsD_app], by simp only [mkS, List.all_cons, List.all_nil, O.refsLt, C.refsLt, C.refsLt1, all_dmap]; first | done | rfl | (simp; done), ?_⟩; simp [mkS, Abs.get, C.refsLtT, C.refsLt, C.refsLt1, intsD_app])
     ·simp only [List.flatten_nil, List.append_nil] at hinv
      refine AW.bufT 5 3 rfl rfl (intsD_fl _) ?_
      refine AW.place 5 3 0 rfl rfl rfl (by decide) ?_
      rw [hinv, hfl, hcl0]
      refine run_sound Try.func19 mixed 200 _ _ (by kernel_rfl) ?_
      simp only [go_sem, seval]
      repeat' (first
       | (exact ⟨_, _, rfl⟩)
       | ((first | (refine br_n (fun hq => ?_) (fun hq => ?_)) | (refine idx_intro (fun x hx => have hq := hx; ?_))) <;> (try simp only [go_sem, seval, hq]))
       | (simp (disch := omega) only [wrap_ok])
       | ((first
        | (refine ⟨sd, ?_⟩)
        | (refine ⟨by assumption, ?_⟩)) <;> (try simp only [go_sem, seval]))
       | assumption)
    | succ p =>
     have e1 : ((p + 1 : Nat) : Int) - 1 = (p : Int) := by omega
     have hpl : p < t.goals.length := by omega
     obtain ⟨x, hx⟩ : ∃ x, t.goals[p]? = some x := ⟨_, List.getElem?_eq_getElem hpl⟩
     have hxm := List.mem_of_getElem? hx
     have hxw : wtL x.enc ≤ 1048576 := by have := Gl.wt_goals hxm; omega
     have hxl := hs3 x hxm
     have hx0 := Gl.prd_pos (by omega) x hxm
     have hcl := clausesOf_fn x hxw
     rw [Gl.cls_same, if_pos hxl] at hcl
     have hprl := partRow_len (l := t.goals) (i := i) hp1
     have hset := partRow_set (i := i) hx
     have hRp : (partRow t.goals i (p + 1))[p]? = some [D.sl []] := by
      unfold partRow
      rw [List.getElem?_append_left (by simp)]
      simp
     rw [e1]
     generalize hI : i / Gl.prd (t.goals.drop (p + 1)) = I at *
     have hI2 : i / Gl.prd (t.goals.drop p) = I / x.clsS.length := by
      obtain ⟨k1, k2⟩ := List.getElem?_eq_some_iff.1 hx
      rw [List.drop_eq_getElem_cons k1, k2, ← hI, Gl.prd, Nat.div_div_eq_div_mul, Nat.mul_comm]
     have hgi := ctT_gives (ih x hxm hxw) (i := I % x.clsS.length) (Nat.mod_lt _ hx0) hxl
     generalize hR : partRow t.goals i (p + 1) = R at *
     have hpp : (p : Int) < (t.goals.length : Int) := by omega
     have hne : ¬ (x.clsS.length : Int) = 0 := by omega
     have hwq : IntKind.i64.wrap ((I / x.clsS.length : Nat) : Int) = ((I / x.clsS.length : Nat) : Int) := by
      have h1 := Nat.div_le_self I x.clsS.length
      have h2 : I ≤ i := by rw [← hI]; exact Nat.div_le_self _ _
      generalize I / x.clsS.length = Q at *
      exact wrap_ok (by omega) (by omega)
     have hrem : ((I : Nat) : Int).tmod (x.clsS.length : Int) = ((I % x.clsS.length : Nat) : Int) := rfl
     have hquo : ((I : Nat) : Int).tdiv (x.clsS.length : Int) = ((I / x.clsS.length : Nat) : Int) := rfl
     refine run_sound Try.func19 mixed 10 _ _ (by kernel_rfl) ?_
     simp only [go_sem, seval, run.eq_1, hpp, idx_of hx, hne, hrem]
     repeat' (first
      | ((first | (refine br_n (fun hq => ?_) (fun hq => ?_)) | (refine idx_intro (fun x hx => have hq := hx; ?_))) <;> (try simp only [go_sem, seval, hpp, idx_of hx, clsR, Option.getD_some, run.eq_1, hq]))
      | (simp (disch := omega) only [wrap_ok])
      | ((first
       | (refine hcl.calls rfl ?_)
       | (refine ⟨sd, ?_⟩)
       | (refine ⟨by assumption, ?_⟩)) <;> (try simp only [go_sem, seval, hpp, idx_of hx, clsR, Option.getD_some, run.eq_1]))
      | assumption)
     refine AW.drawA mixed #[true, true, true, true, true, true, true, true, true, true, true, true, false, false] [(1, .box (t.enc.map .d))] [] [0, 1, 2, 3, 4, 5, 6, 7, 8, 9, 10, 11] [12, 13] none (by kernel_rfl) trivial (by simp [holdsB]) ?_
     simp only [go_sem, seval, idx_of hx, hpp, hne, hrem]
     repeat' (first
      | ((first | (refine br_n (fun hq => ?_) (fun hq => ?_)) | (refine idx_intro (fun x hx => have hq := hx; ?_))) <;> (try simp only [go_sem, seval, idx_of hx, hpp, hne, hprl, hq]))
      | (simp (disch := omega) only [wrap_ok])
      | ((first
       | (refine hgi.calls rfl ?_)
       | (refine ⟨sd, ?_⟩)
       | (refine ⟨by assumption, ?_⟩)) <;> (try simp only [go_sem, seval, idx_of hx, hpp, hne, hprl]))
      | assumption)
     rw [hRp, Option.getD_some, show List.drop 1 [D.sl []] = [] from rfl, hset]
     refine run_sound Try.func19 mixed 200 _ _ (by kernel_rfl) ?_
     simp only [go_sem, seval, hne, hquo, hwq]
     repeat' (first
      | ((first | (refine br_n (fun hq => ?_) (fun hq => ?_)) | (refine idx_intro (fun x hx => have hq := hx; ?_))) <;> (try simp only [go_sem, seval, hne, hquo, hwq, hq]))
      | (simp (disch := omega) only [wrap_ok])
      | ((first
       | (refine ⟨sd, ?_⟩)
       | (refine ⟨by assumption, ?_⟩)) <;> (try simp only [go_sem, seval, hne, hquo, hwq]))
      | assumption)
     refine hnext p _ (by omega) (by omega) ?_
     exact (by refine ⟨by simp [mkS, hI2], by simp [mkS, hI2], by simp only [mkS, List.all_cons, List.all_nil, O.refsLt, C.refsLt, C.refsLt1, all_dmap]; first | done | rfl | (simp; done), ?_⟩; simp [mkS, Abs.get, C.refsLtT, C.refsLt, C.refsLt1, hI2])
   ·simp only [if_neg h7] at hch ⊢
    refine ACalls.enter (fn := Try.f19) Try.func19 rfl (by show 2 ≤ _; decide) ?_
    refine run_sound Try.func19 mixed 5 _ _ (by kernel_rfl) ?_
    simp only [go_sem, seval, run.eq_1, h8, h7]
    repeat' (first
     | ((first | (refine br_n (fun hq => ?_) (fun hq => ?_)) | (refine idx_intro (fun x hx => have hq := hx; ?_))) <;> (try simp only [go_sem, seval, h8, h7, run.eq_1, hq]))
     | (simp (disch := omega) only [wrap_ok])
     | ((first
      | (refine ⟨sd, ?_⟩)
      | (refine ⟨by assumption, ?_⟩)) <;> (try simp only [go_sem, seval, h8, h7, run.eq_1]))
     | assumption)
    refine AW.adoptT 5 1 3 (by decide) rfl ?_
    refine AW.place 5 2 0 rfl rfl rfl (by decide) ?_
    refine run_sound Try.func19 mixed 200 _ _ (by kernel_rfl) ?_
    simp only [go_sem, seval, h8, h7]
    repeat' (first
     | (exact ⟨_, _, rfl⟩)
     | ((first | (refine br_n (fun hq => ?_) (fun hq => ?_)) | (refine idx_intro (fun x hx => have hq := hx; ?_))) <;> (try simp only [go_sem, seval, h8, h7, hq]))
     | (simp (disch := omega) only [wrap_ok])
     | ((first
      | (refine ⟨sd, ?_⟩)
      | (refine ⟨by assumption, ?_⟩)) <;> (try simp only [go_sem, seval, h8, h7]))
     | assumption)
def ccV (t : Gl) (i : Int) : List Int := if glOk t = true ∧ t.clsS.length ≤ 64 ∧ 0 ≤ i ∧ i < t.clsS.length then t.chI i.toNat else []
def ccB (t : Gl) (i : Int) : Bool := decide (glOk t = true ∧ t.clsS.length ≤ 64 ∧ 0 ≤ i ∧ i < t.clsS.length)
theorem iClauseChoices_T (t : Gl) (i : Int) (hw : wtL t.enc ≤ 1048576) : ACalls Try.prog 6 [.d (.agg t.enc), .d (.int .i64 i)] [.hole] (fun c H' => c = .tup [.own 0 1, .d (.bool (ccB t i))] ∧ ∃ e B, H' = [.tree 1 1 e (intsD (ccV t i)) B none]) := by
 unfold ccV ccB
 by_cases hc : glOk t = true ∧ t.clsS.length ≤ 64 ∧ 0 ≤ i ∧ i < t.clsS.length
 ·simp only [if_pos hc, decide_eq_true hc]
  obtain ⟨hok, hl, h0, h1⟩ := hc
  obtain ⟨n, rfl⟩ : ∃ n : Nat, i = n := ⟨i.toNat, by omega⟩
  have hcl := clausesOf_fn t hw
  rw [Gl.cls_same, if_pos hl] at hcl
  have e1 := choicesTo_T t hw n (by omega) hl
  refine ACalls.enter (fn := Try.f6) Try.func6 rfl (by show 2 ≤ _; decide) ?_
  refine run_sound Try.func6 mixed 200 _ _ (by kernel_rfl) ?_
  simp only [go_sem, seval, hok]
  repeat' (first
   | (exact ⟨_, _, rfl⟩)
   | ((first | (refine br_n (fun hq => ?_) (fun hq => ?_)) | (refine idx_intro (fun x hx => have hq := hx; ?_))) <;> (try simp only [go_sem, seval, hok, clsR, Option.getD_some, Option.isSome_some, Int.toNat_natCast, hq]))
   | (simp (disch := omega) only [wrap_ok])
   | ((first
    | (refine hcl.calls rfl ?_)
    | (refine ACalls.fresh (ds := [.agg t.enc, .int .i64 n]) (m := 1) e1 [0] rfl rfl (by simp) (by simp) ?_ <;> (rintro c H' ⟨rfl, e, B1, rfl⟩ _; refine ⟨rfl, rfl, ?_⟩))
    | (refine (iGoalOk_fn _ sd).calls rfl ?_)
    | (refine ⟨sd, ?_⟩)
    | (refine ⟨by assumption, ?_⟩)) <;> (try simp only [go_sem, seval, hok, clsR, Option.getD_some, Option.isSome_some, Int.toNat_natCast]))
   | assumption)
  all_goals first | (exfalso; omega) | skip
 ·simp only [if_neg hc, decide_eq_false hc]
  by_cases hok : glOk t = true
  ·have hcl := clausesOf_fn t hw
   by_cases hl : t.clsS.length ≤ 64
   ·rw [Gl.cls_same, if_pos hl] at hcl
    have hbd : i < 0 ∨ (t.clsS.length : Int) ≤ i := by
     rcases Int.lt_or_le i 0 with h | h
     ·exact .inl h
     ·rcases Int.lt_or_le i (t.clsS.length : Int) with h2 | h2
      ·exact absurd ⟨hok, hl, h, h2⟩ hc
      ·exact .inr h2
    refine ACalls.enter (fn := Try.f6) Try.func6 rfl (by show 2 ≤ _; decide) ?_
    refine run_sound Try.func6 mixed 15 _ _ (by kernel_rfl) ?_
    simp only [go_sem, seval, run.eq_1, hok]
    repeat' (first
     | ((first | (refine br_n (fun hq => ?_) (fun hq => ?_)) | (refine idx_intro (fun x hx => have hq := hx; ?_))) <;> (try simp only [go_sem, seval, hok, clsR, Option.getD_some, Option.isSome_some, run.eq_1, hq]))
     | (simp (disch := omega) only [wrap_ok])
     | ((first
      | (refine hcl.calls rfl ?_)
      | (refine (iGoalOk_fn _ sd).calls rfl ?_)
      | (refine ⟨sd, ?_⟩)
      | (refine ⟨by assumption, ?_⟩)) <;> (try simp only [go_sem, seval, hok, clsR, Option.getD_some, Option.isSome_some, run.eq_1]))
     | assumption)
    all_goals first | (exfalso; omega) | skip
    ·refine AW.adoptT 4 1 3 (by decide) rfl ?_
     refine AW.place 4 2 0 rfl rfl rfl (by decide) ?_
     refine run_sound Try.func6 mixed 200 _ _ (by kernel_rfl) ?_
     simp only [go_sem, seval]
     repeat' (first
      | (exact ⟨_, _, rfl⟩)
      | ((first | (refine br_n (fun hq => ?_) (fun hq => ?_)) | (refine idx_intro (fun x hx => have hq := hx; ?_))) <;> (try simp only [go_sem, seval, hq]))
      | (simp (disch := omega) only [wrap_ok])
      | ((first
       | (refine (iGoalOk_fn _ sd).calls rfl ?_)
       | (refine ⟨sd, ?_⟩)
       | (refine ⟨by assumption, ?_⟩)) <;> (try simp only [go_sem, seval]))
      | assumption)
    ·refine AW.adoptT 4 1 3 (by decide) rfl ?_
     refine AW.place 4 2 0 rfl rfl rfl (by decide) ?_
     refine run_sound Try.func6 mixed 200 _ _ (by kernel_rfl) ?_
     simp only [go_sem, seval]
     repeat' (first
      | (exact ⟨_, _, rfl⟩)
      | ((first | (refine br_n (fun hq => ?_) (fun hq => ?_)) | (refine idx_intro (fun x hx => have hq := hx; ?_))) <;> (try simp only [go_sem, seval, hq]))
      | (simp (disch := omega) only [wrap_ok])
      | ((first
       | (refine (iGoalOk_fn _ sd).calls rfl ?_)
       | (refine ⟨sd, ?_⟩)
       | (refine ⟨by assumption, ?_⟩)) <;> (try simp only [go_sem, seval]))
      | assumption)
   ·rw [Gl.cls_same, if_neg hl] at hcl
    refine ACalls.enter (fn := Try.f6) Try.func6 rfl (by show 2 ≤ _; decide) ?_
    refine run_sound Try.func6 mixed 15 _ _ (by kernel_rfl) ?_
    simp only [go_sem, seval, run.eq_1, hok]
    repeat' (first
     | ((first | (refine br_n (fun hq => ?_) (fun hq => ?_)) | (refine idx_intro (fun x hx => have hq := hx; ?_))) <;> (try simp only [go_sem, seval, hok, clsR, Option.getD_none, Option.isSome_none, run.eq_1, hq]))
     | (simp (disch := omega) only [wrap_ok])
     | ((first
      | (refine hcl.calls rfl ?_)
      | (refine (iGoalOk_fn _ sd).calls rfl ?_)
      | (refine ⟨sd, ?_⟩)
      | (refine ⟨by assumption, ?_⟩)) <;> (try simp only [go_sem, seval, hok, clsR, Option.getD_none, Option.isSome_none, run.eq_1]))
     | assumption)
    refine AW.adoptT 4 1 3 (by decide) rfl ?_
    refine AW.place 4 2 0 rfl rfl rfl (by decide) ?_
    refine run_sound Try.func6 mixed 200 _ _ (by kernel_rfl) ?_
    simp only [go_sem, seval]
    repeat' (first
     | (exact ⟨_, _, rfl⟩)
     | ((first | (refine br_n (fun hq => ?_) (fun hq => ?_)) | (refine idx_intro (fun x hx => have hq := hx; ?_))) <;> (try simp only [go_sem, seval, hq]))
     | (simp (disch := omega) only [wrap_ok])
     | ((first
      | (refine (iGoalOk_fn _ sd).calls rfl ?_)
      | (refine ⟨sd, ?_⟩)
      | (refine ⟨by assumption, ?_⟩)) <;> (try simp only [go_sem, seval]))
     | assumption)
  ·simp only [Bool.not_eq_true] at hok
   refine ACalls.enter (fn := Try.f6) Try.func6 rfl (by show 2 ≤ _; decide) ?_
   refine run_sound Try.func6 mixed 8 _ _ (by kernel_rfl) ?_
   simp only [go_sem, seval, run.eq_1, hok]
   repeat' (first
    | ((first | (refine br_n (fun hq => ?_) (fun hq => ?_)) | (refine idx_intro (fun x hx => have hq := hx; ?_))) <;> (try simp only [go_sem, seval, hok, run.eq_1, hq]))
    | (simp (disch := omega) only [wrap_ok])
    | ((first
     | (refine (iGoalOk_fn _ sd).calls rfl ?_)
     | (refine ⟨sd, ?_⟩)
     | (refine ⟨by assumption, ?_⟩)) <;> (try simp only [go_sem, seval, hok, run.eq_1]))
    | assumption)
   refine AW.adoptT 4 1 3 (by decide) rfl ?_
   refine AW.place 4 2 0 rfl rfl rfl (by decide) ?_
   refine run_sound Try.func6 mixed 200 _ _ (by kernel_rfl) ?_
   simp only [go_sem, seval]
   repeat' (first
    | (exact ⟨_, _, rfl⟩)
    | ((first | (refine br_n (fun hq => ?_) (fun hq => ?_)) | (refine idx_intro (fun x hx => have hq := hx; ?_))) <;> (try simp only [go_sem, seval, hq]))
    | (simp (disch := omega) only [wrap_ok])
    | ((first
     | (refine (iGoalOk_fn _ sd).calls rfl ?_)
     | (refine ⟨sd, ?_⟩)
     | (refine ⟨by assumption, ?_⟩)) <;> (try simp only [go_sem, seval]))
    | assumption)
end Go.Proofs.Ytgmfoklmkpdjdaa
