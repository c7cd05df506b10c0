import Derived.Test.YtfniakcjekooiaaGreatW4
import Derived.Test.YtfniakcjekooiaaGreatA7
import Derived.Test.YtfniakcjekooiaaGreatP2
namespace Go.Proofs.YtfniakcjekooiaaGreat
open Go.Abs
set_option maxRecDepth 100000
set_option maxHeartbeats 4000000
set_option linter.unusedSimpArgs false
set_option linter.unusedVariables false
def cSt (t : Gl) : Prop := ∀ (neg : Bool) (q : Nat) (l : List (List UInt8)) (B : Nat → Prop), l.length + t.cnt ≤ 100000000 →
 ACalls Tryz.prog 45 [.d (.agg t.enc), .d (.bool neg), .own 0 q] [.tree q 1 9 (strD l) B none] fun c H' => ∃ q' B', c = .own 0 q' ∧ H' = [.tree q' 1 9 (strD (l ++ t.callsS neg)) B' none]
theorem l13Calls_T : ∀ t : Gl, t.shape = true → cSt t := by
 intro t
 induction t using Gl.ind' with
 | h t ih =>
  intro hs neg q l B hl
  have hmx : maxLen = 9223372036854775807 := rfl
  have hcn := Gl.cnt_eq t
  have hs' := hs
  rw [Gl.shape_eq] at hs'
  simp only [Bool.and_eq_true, List.all_eq_true] at hs'
  have hgs := hs'.2
  have hfm := Gl.form_inv hs'.1.1
  rw [Gl.callsS_eq]
  by_cases h10 : t.kind = 10
  ·obtain ⟨x, hx⟩ : ∃ x, t.goals = [x] := by
    rcases hfm with h | h | h | h
    ·omega
    ·omega
    ·omega
    ·obtain ⟨_, _, _, h4, _⟩ := h
     match he : t.goals, h4 with
     | [x], _ => exact ⟨x, rfl⟩
     | [], h4 => simp at h4
     | x :: y :: r, h4 => simp at h4; omega
   have h9 : ¬ t.kind = 9 := by omega
   simp only [h10, if_true, hx, List.take_succ_cons, List.take_zero, List.map_cons, List.map_nil]
   cases neg
   ·refine ACalls.enter (fn := Tryz.f45) Tryz.func45 rfl (by show 3 ≤ _; decide) ?_
    refine run_sound Tryz.func45 mixed 200 _ _ (by kernel_rfl) ?_
    simp only [go_sem, seval, h10, hx]
    repeat' (first
     | (exact ⟨_, _, rfl, rfl⟩)
     | ((first | (refine br_n (fun hq => ?_) (fun hq => ?_)) | (refine idx_intro (fun x hx => have hq := hx; ?_))) <;> (try simp only [go_sem, seval, h10, hx, hq]))
     | (simp (disch := omega) only [wrap_ok])
     | ((first
      | (refine ⟨sd, ?_⟩)
      | (refine ⟨by assumption, ?_⟩)) <;> (try simp only [go_sem, seval, h10, hx]))
     | assumption)
   ·have e1 : strD (l ++ [x.name]) = strD l ++ [[.str x.name]] := by rw [strD_append]; rfl
    refine ACalls.enter (fn := Tryz.f45) Tryz.func45 rfl (by show 3 ≤ _; decide) ?_
    refine run_sound Tryz.func45 mixed 15 _ _ (by kernel_rfl) ?_
    simp only [go_sem, seval, run.eq_1, h10, hx]
    repeat' (first
     | ((first | (refine br_n (fun hq => ?_) (fun hq => ?_)) | (refine idx_intro (fun x hx => have hq := hx; ?_))) <;> (try simp only [go_sem, seval, h10, hx, run.eq_1, hq]))
     | (simp (disch := omega) only [wrap_ok])
     | ((first
      | (refine ⟨sd, ?_⟩)
      | (refine ⟨by assumption, ?_⟩)) <;> (try simp only [go_sem, seval, h10, hx, run.eq_1]))
     | assumption)
    refine AW.regT ?_
    simp only [go_sem, seval, h10, hx, strD_len]
    repeat' (first
     | ((first | (refine br_n (fun hq => ?_) (fun hq => ?_)) | (refine idx_intro (fun x hx => have hq := hx; ?_))) <;> (try simp only [go_sem, seval, h10, hx, strD_len, hq]))
     | (simp (disch := omega) only [wrap_ok])
     | ((first
      | (refine all_intro (fun Bz => ?_))
      | (refine ⟨sd, ?_⟩)
      | (refine ⟨by assumption, ?_⟩)) <;> (try simp only [go_sem, seval, h10, hx, strD_len]))
     | assumption)
    refine run_sound Tryz.func45 mixed 200 _ _ (by kernel_rfl) ?_
    simp only [go_sem, seval, h10, hx, e1]
    repeat' (first
     | (exact ⟨_, _, rfl, rfl⟩)
     | ((first | (refine br_n (fun hq => ?_) (fun hq => ?_)) | (refine idx_intro (fun x hx => have hq := hx; ?_))) <;> (try simp only [go_sem, seval, h10, hx, hq]))
     | (simp (disch := omega) only [wrap_ok])
     | ((first
      | (refine ⟨sd, ?_⟩)
      | (refine ⟨by assumption, ?_⟩)) <;> (try simp only [go_sem, seval, h10, hx]))
     | assumption)
  ·simp only [if_neg h10]
   by_cases h9 : t.kind = 9
   ·have hg0 : t.goals = [] := by
     rcases hfm with h | h | h | h
     ·exact List.length_eq_zero_iff.1 (by omega)
     ·omega
     ·omega
     ·omega
    cases neg
    ·have hT : (if t.kind = 9 ∧ false = false then [t.name] else []) = [t.name] := by simp [h9]
     rw [hT]
     refine ACalls.enter (fn := Tryz.f45) Tryz.func45 rfl (by show 3 ≤ _; decide) ?_
     refine run_sound Tryz.func45 mixed 6 _ _ (by kernel_rfl) ?_
     simp only [go_sem, seval, run.eq_1, h9]
     repeat' (first
      | ((first | (refine br_n (fun hq => ?_) (fun hq => ?_)) | (refine idx_intro (fun x hx => have hq := hx; ?_))) <;> (try simp only [go_sem, seval, h9, run.eq_1, hq]))
      | (simp (disch := omega) only [wrap_ok])
      | ((first
       | (refine ⟨sd, ?_⟩)
       | (refine ⟨by assumption, ?_⟩)) <;> (try simp only [go_sem, seval, h9, run.eq_1]))
      | assumption)
     refine AW.regT ?_
     simp only [go_sem, seval, h9, strD_len]
     repeat' (first
      | ((first | (refine br_n (fun hq => ?_) (fun hq => ?_)) | (refine idx_intro (fun x hx => have hq := hx; ?_))) <;> (try simp only [go_sem, seval, h9, strD_len, hq]))
      | (simp (disch := omega) only [wrap_ok])
      | ((first
       | (refine all_intro (fun Bz => ?_))
       | (refine ⟨sd, ?_⟩)
       | (refine ⟨by assumption, ?_⟩)) <;> (try simp only [go_sem, seval, h9, strD_len]))
      | assumption)
     refine run_sound Tryz.func45 mixed 200 _ _ (by kernel_rfl) ?_
     simp only [go_sem, seval, h9]
     repeat' (first
      | ((first | (refine br_n (fun hq => ?_) (fun hq => ?_)) | (refine idx_intro (fun x hx => have hq := hx; ?_))) <;> (try simp only [go_sem, seval, h9, hq]))
      | (simp (disch := omega) only [wrap_ok])
      | ((first
       | (refine ⟨sd, ?_⟩)
       | (refine ⟨by assumption, ?_⟩)) <;> (try simp only [go_sem, seval, h9]))
      | assumption)
     refine AW.rng t.goals [1, 35, 36] 37 35 (fun p : Nat × List (List UInt8) × (Nat → Prop) => [(2, .own 0 p.1)]) (fun _ p => [.tree p.1 1 9 (strD p.2.1) p.2.2 none, .box (t.enc.map .d)]) (fun r p => p.2.1 ++ Gl.callsSs false r = l ++ ([t.name] ++ Gl.callsSs false t.goals) ∧ p.2.1.length + Gl.cnts r ≤ l.length + t.cnt) (q + 1, l ++ [t.name], Bz) rfl (by simp) ⟨by simp, by simp; omega⟩ (by refine ⟨by simp [mkS, strD_append, strD_one], by simp [mkS, strD_append, strD_one], by simp only [mkS, List.all_cons, List.all_nil, O.refsLt, C.refsLt, C.refsLt1, all_dmap]; first | done | rfl | (simp; done), ?_⟩; simp [mkS, Abs.get, C.refsLtT, C.refsLt, C.refsLt1]) (fun i x r p hxi hdr hlt hm hinv hnext => ?_) (fun p hinv => ?_)
     ·have hxm := List.mem_of_getElem? hxi
      obtain ⟨hi1, hi2⟩ := hinv
      simp only [Gl.callsSs, Gl.cnts] at hi1 hi2
      have hxc := ih x hxm (hgs x hxm) false p.1 p.2.1 p.2.2 (by omega)
      have hxl := Gl.callsS_len x false
      refine run_sound Tryz.func45 mixed 200 _ _ (by kernel_rfl) ?_
      simp only [go_sem, seval, hlt, idx_of hxi]
      repeat' (first
       | ((first | (refine br_n (fun hq => ?_) (fun hq => ?_)) | (refine idx_intro (fun x hx => have hq := hx; ?_))) <;> (try simp only [go_sem, seval, hlt, idx_of hxi, C.at1, hq]))
       | (simp (disch := omega) only [wrap_ok])
       | ((first
        | (refine hxc.at1 rfl 0 rfl rfl ?_ <;> (rintro c o' ⟨q', B', rfl, ho⟩; cases ho; refine ⟨rfl, rfl, ?_⟩))
        | (refine ⟨sd, ?_⟩)
        | (refine ⟨by assumption, ?_⟩)) <;> (try simp only [go_sem, seval, hlt, idx_of hxi, C.at1]))
       | assumption)
      refine hnext (q', p.2.1 ++ x.callsS false, B') _ ⟨by rw [List.append_assoc]; exact hi1, by simp only [List.length_append]; omega⟩ (by refine ⟨by simp [mkS, strD_append], by simp [mkS, strD_append], by simp only [mkS, List.all_cons, List.all_nil, O.refsLt, C.refsLt, C.refsLt1, all_dmap]; first | done | rfl | (simp; done), ?_⟩; simp [mkS, Abs.get, C.refsLtT, C.refsLt, C.refsLt1])
     ·obtain ⟨hi1, _⟩ := hinv
      simp only [Gl.callsSs, List.append_nil] at hi1
      refine run_sound Tryz.func45 mixed 200 _ _ (by kernel_rfl) ?_
      simp only [go_sem, seval]
      repeat' (first
       | (exact ⟨_, p.2.2, rfl, by simp [hi1]⟩)
       | ((first | (refine br_n (fun hq => ?_) (fun hq => ?_)) | (refine idx_intro (fun x hx => have hq := hx; ?_))) <;> (try simp only [go_sem, seval, hq]))
       | (simp (disch := omega) only [wrap_ok])
       | ((first
        | (refine ⟨sd, ?_⟩)
        | (refine ⟨by assumption, ?_⟩)) <;> (try simp only [go_sem, seval]))
       | assumption)
    ·have hT : (if t.kind = 9 ∧ true = false then [t.name] else []) = [] := by simp
     rw [hT]
     refine ACalls.enter (fn := Tryz.f45) Tryz.func45 rfl (by show 3 ≤ _; decide) ?_
     refine run_sound Tryz.func45 mixed 200 _ _ (by kernel_rfl) ?_
     simp only [go_sem, seval, h9]
     repeat' (first
      | ((first | (refine br_n (fun hq => ?_) (fun hq => ?_)) | (refine idx_intro (fun x hx => have hq := hx; ?_))) <;> (try simp only [go_sem, seval, h9, hq]))
      | (simp (disch := omega) only [wrap_ok])
      | ((first
       | (refine ⟨sd, ?_⟩)
       | (refine ⟨by assumption, ?_⟩)) <;> (try simp only [go_sem, seval, h9]))
      | assumption)
     refine AW.rng t.goals [1, 35, 36] 37 35 (fun p : Nat × List (List UInt8) × (Nat → Prop) => [(2, .own 0 p.1)]) (fun _ p => [.tree p.1 1 9 (strD p.2.1) p.2.2 none, .box (t.enc.map .d)]) (fun r p => p.2.1 ++ Gl.callsSs true r = l ++ ([] ++ Gl.callsSs true t.goals) ∧ p.2.1.length + Gl.cnts r ≤ l.length + t.cnt) (q, l, B) rfl (by simp) ⟨by simp, by dsimp only; omega⟩ (by refine ⟨by simp [mkS, strD_append, strD_one], by simp [mkS, strD_append, strD_one], by simp only [mkS, List.all_cons, List.all_nil, O.refsLt, C.refsLt, C.refsLt1, all_dmap]; first | done | rfl | (simp; done), ?_⟩; simp [mkS, Abs.get, C.refsLtT, C.refsLt, C.refsLt1]) (fun i x r p hxi hdr hlt hm hinv hnext => ?_) (fun p hinv => ?_)
     ·have hxm := List.mem_of_getElem? hxi
      obtain ⟨hi1, hi2⟩ := hinv
      simp only [Gl.callsSs, Gl.cnts] at hi1 hi2
      have hxc := ih x hxm (hgs x hxm) true p.1 p.2.1 p.2.2 (by omega)
      have hxl := Gl.callsS_len x true
      refine run_sound Tryz.func45 mixed 200 _ _ (by kernel_rfl) ?_
      simp only [go_sem, seval, hlt, idx_of hxi]
      repeat' (first
       | ((first | (refine br_n (fun hq => ?_) (fun hq => ?_)) | (refine idx_intro (fun x hx => have hq := hx; ?_))) <;> (try simp only [go_sem, seval, hlt, idx_of hxi, C.at1, hq]))
       | (simp (disch := omega) only [wrap_ok])
       | ((first
        | (refine hxc.at1 rfl 0 rfl rfl ?_ <;> (rintro c o' ⟨q', B', rfl, ho⟩; cases ho; refine ⟨rfl, rfl, ?_⟩))
        | (refine ⟨sd, ?_⟩)
        | (refine ⟨by assumption, ?_⟩)) <;> (try simp only [go_sem, seval, hlt, idx_of hxi, C.at1]))
       | assumption)
      refine hnext (q', p.2.1 ++ x.callsS true, B') _ ⟨by rw [List.append_assoc]; exact hi1, by simp only [List.length_append]; omega⟩ (by refine ⟨by simp [mkS, strD_append], by simp [mkS, strD_append], by simp only [mkS, List.all_cons, List.all_nil, O.refsLt, C.refsLt, C.refsLt1, all_dmap]; first | done | rfl | (simp; done), ?_⟩; simp [mkS, Abs.get, C.refsLtT, C.refsLt, C.refsLt1])
     ·obtain ⟨hi1, _⟩ := hinv
      simp only [Gl.callsSs, List.append_nil] at hi1
      refine run_sound Tryz.func45 mixed 200 _ _ (by kernel_rfl) ?_
      simp only [go_sem, seval]
      repeat' (first
       | (exact ⟨_, p.2.2, rfl, by simp [hi1]⟩)
       | ((first | (refine br_n (fun hq => ?_) (fun hq => ?_)) | (refine idx_intro (fun x hx => have hq := hx; ?_))) <;> (try simp only [go_sem, seval, hq]))
       | (simp (disch := omega) only [wrap_ok])
       | ((first
        | (refine ⟨sd, ?_⟩)
        | (refine ⟨by assumption, ?_⟩)) <;> (try simp only [go_sem, seval]))
       | assumption)
   ·have hT : ∀ b : Bool, (if t.kind = 9 ∧ b = false then [t.name] else []) = [] := fun b => by simp [h9]
    rw [hT]
    cases neg
    ·refine ACalls.enter (fn := Tryz.f45) Tryz.func45 rfl (by show 3 ≤ _; decide) ?_
     refine run_sound Tryz.func45 mixed 200 _ _ (by kernel_rfl) ?_
     simp only [go_sem, seval, h9, h10]
     repeat' (first
      | ((first | (refine br_n (fun hq => ?_) (fun hq => ?_)) | (refine idx_intro (fun x hx => have hq := hx; ?_))) <;> (try simp only [go_sem, seval, h9, h10, hq]))
      | (simp (disch := omega) only [wrap_ok])
      | ((first
       | (refine ⟨sd, ?_⟩)
       | (refine ⟨by assumption, ?_⟩)) <;> (try simp only [go_sem, seval, h9, h10]))
      | assumption)
     refine AW.rng t.goals [1, 35, 36] 37 35 (fun p : Nat × List (List UInt8) × (Nat → Prop) => [(2, .own 0 p.1)]) (fun _ p => [.tree p.1 1 9 (strD p.2.1) p.2.2 none, .box (t.enc.map .d)]) (fun r p => p.2.1 ++ Gl.callsSs false r = l ++ ([] ++ Gl.callsSs false t.goals) ∧ p.2.1.length + Gl.cnts r ≤ l.length + t.cnt) (q, l, B) rfl (by simp) ⟨by simp, by dsimp only; omega⟩ (by refine ⟨by simp [mkS, strD_append, strD_one], by simp [mkS, strD_append, strD_one], by simp only [mkS, List.all_cons, List.all_nil, O.refsLt, C.refsLt, C.refsLt1, all_dmap]; first | done | rfl | (simp; done), ?_⟩; simp [mkS, Abs.get, C.refsLtT, C.refsLt, C.refsLt1]) (fun i x r p hxi hdr hlt hm hinv hnext => ?_) (fun p hinv => ?_)
     ·have hxm := List.mem_of_getElem? hxi
      obtain ⟨hi1, hi2⟩ := hinv
      simp only [Gl.callsSs, Gl.cnts] at hi1 hi2
      have hxc := ih x hxm (hgs x hxm) false p.1 p.2.1 p.2.2 (by omega)
      have hxl := Gl.callsS_len x false
      refine run_sound Tryz.func45 mixed 200 _ _ (by kernel_rfl) ?_
      simp only [go_sem, seval, hlt, idx_of hxi]
      repeat' (first
       | ((first | (refine br_n (fun hq => ?_) (fun hq => ?_)) | (refine idx_intro (fun x hx => have hq := hx; ?_))) <;> (try simp only [go_sem, seval, hlt, idx_of hxi, C.at1, hq]))
       | (simp (disch := omega) only [wrap_ok])
       | ((first
        | (refine hxc.at1 rfl 0 rfl rfl ?_ <;> (rintro c o' ⟨q', B', rfl, ho⟩; cases ho; refine ⟨rfl, rfl, ?_⟩))
        | (refine ⟨sd, ?_⟩)
        | (refine ⟨by assumption, ?_⟩)) <;> (try simp only [go_sem, seval, hlt, idx_of hxi, C.at1]))
       | assumption)
      refine hnext (q', p.2.1 ++ x.callsS false, B') _ ⟨by rw [List.append_assoc]; exact hi1, by simp only [List.length_append]; omega⟩ (by refine ⟨by simp [mkS, strD_append], by simp [mkS, strD_append], by simp only [mkS, List.all_cons, List.all_nil, O.refsLt, C.refsLt, C.refsLt1, all_dmap]; first | done | rfl | (simp; done), ?_⟩; simp [mkS, Abs.get, C.refsLtT, C.refsLt, C.refsLt1])
     ·obtain ⟨hi1, _⟩ := hinv
      simp only [Gl.callsSs, List.append_nil] at hi1
      refine run_sound Tryz.func45 mixed 200 _ _ (by kernel_rfl) ?_
      simp only [go_sem, seval]
      repeat' (first
       | (exact ⟨_, p.2.2, rfl, by simp [hi1]⟩)
       | ((first | (refine br_n (fun hq => ?_) (fun hq => ?_)) | (refine idx_intro (fun x hx => have hq := hx; ?_))) <;> (try simp only [go_sem, seval, hq]))
       | (simp (disch := omega) only [wrap_ok])
       | ((first
        | (refine ⟨sd, ?_⟩)
        | (refine ⟨by assumption, ?_⟩)) <;> (try simp only [go_sem, seval]))
       | assumption)
    ·refine ACalls.enter (fn := Tryz.f45) Tryz.func45 rfl (by show 3 ≤ _; decide) ?_
     refine run_sound Tryz.func45 mixed 200 _ _ (by kernel_rfl) ?_
     simp only [go_sem, seval, h9, h10]
     repeat' (first
      | ((first | (refine br_n (fun hq => ?_) (fun hq => ?_)) | (refine idx_intro (fun x hx => have hq := hx; ?_))) <;> (try simp only [go_sem, seval, h9, h10, hq]))
      | (simp (disch := omega) only [wrap_ok])
      | ((first
       | (refine ⟨sd, ?_⟩)
       | (refine ⟨by assumption, ?_⟩)) <;> (try simp only [go_sem, seval, h9, h10]))
      | assumption)
     refine AW.rng t.goals [1, 35, 36] 37 35 (fun p : Nat × List (List UInt8) × (Nat → Prop) => [(2, .own 0 p.1)]) (fun _ p => [.tree p.1 1 9 (strD p.2.1) p.2.2 none, .box (t.enc.map .d)]) (fun r p => p.2.1 ++ Gl.callsSs true r = l ++ ([] ++ Gl.callsSs true t.goals) ∧ p.2.1.length + Gl.cnts r ≤ l.length + t.cnt) (q, l, B) rfl (by simp) ⟨by simp, by dsimp only; omega⟩ (by refine ⟨by simp [mkS, strD_append, strD_one], by simp [mkS, strD_append, strD_one], by simp only [mkS, List.all_cons, List.all_nil, O.refsLt, C.refsLt, C.refsLt1, all_dmap]; first | done | rfl | (simp; done), ?_⟩; simp [mkS, Abs.get, C.refsLtT, C.refsLt, C.refsLt1]) (fun i x r p hxi hdr hlt hm hinv hnext => ?_) (fun p hinv => ?_)
     ·have hxm := List.mem_of_getElem? hxi
      obtain ⟨hi1, hi2⟩ := hinv
      simp only [Gl.callsSs, Gl.cnts] at hi1 hi2
      have hxc := ih x hxm (hgs x hxm) true p.1 p.2.1 p.2.2 (by omega)
      have hxl := Gl.callsS_len x true
      refine run_sound Tryz.func45 mixed 200 _ _ (by kernel_rfl) ?_
      simp only [go_sem, seval, hlt, idx_of hxi]
      repeat' (first
       | ((first | (refine br_n (fun hq => ?_) (fun hq => ?_)) | (refine idx_intro (fun x hx => have hq := hx; ?_))) <;> (try simp only [go_sem, seval, hlt, idx_of hxi, C.at1, hq]))
       | (simp (disch := omega) only [wrap_ok])
       | ((first
        | (refine hxc.at1 rfl 0 rfl rfl ?_ <;> (rintro c o' ⟨q', B', rfl, ho⟩; cases ho; refine ⟨rfl, rfl, ?_⟩))
        | (refine ⟨sd, ?_⟩)
        | (refine ⟨by assumption, ?_⟩)) <;> (try simp only [go_sem, seval, hlt, idx_of hxi, C.at1]))
       | assumption)
      refine hnext (q', p.2.1 ++ x.callsS true, B') _ ⟨by rw [List.append_assoc]; exact hi1, by simp only [List.length_append]; omega⟩ (by refine ⟨by simp [mkS, strD_append], by simp [mkS, strD_append], by simp only [mkS, List.all_cons, List.all_nil, O.refsLt, C.refsLt, C.refsLt1, all_dmap]; first | done | rfl | (simp; done), ?_⟩; simp [mkS, Abs.get, C.refsLtT, C.refsLt, C.refsLt1])
     ·obtain ⟨hi1, _⟩ := hinv
      simp only [Gl.callsSs, List.append_nil] at hi1
      refine run_sound Tryz.func45 mixed 200 _ _ (by kernel_rfl) ?_
      simp only [go_sem, seval]
      repeat' (first
       | (exact ⟨_, p.2.2, rfl, by simp [hi1]⟩)
       | ((first | (refine br_n (fun hq => ?_) (fun hq => ?_)) | (refine idx_intro (fun x hx => have hq := hx; ?_))) <;> (try simp only [go_sem, seval, hq]))
       | (simp (disch := omega) only [wrap_ok])
       | ((first
        | (refine ⟨sd, ?_⟩)
        | (refine ⟨by assumption, ?_⟩)) <;> (try simp only [go_sem, seval]))
       | assumption)
end Go.Proofs.YtfniakcjekooiaaGreat
