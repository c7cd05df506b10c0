import Derived.Test.YtfniakcjekooiaaGreatW32
import Derived.Test.YtfniakcjekooiaaGreatW66
namespace Go.Proofs.YtfniakcjekooiaaGreat
open Go.Abs
set_option maxRecDepth 100000
set_option maxHeartbeats 4000000
set_option linter.unusedSimpArgs false
set_option linter.unusedVariables false
theorem l17Calls_B (p : Pg) (hw : wtL p.enc ≤ 1048576) (hs : ∀ r, r ∈ p.rels → r.body.shape = true) : ACalls Tryz.prog 26 [.d (.agg p.enc)] [.hole] (fun c H' => c = .own 0 1 ∧ H' = [.buf 1 1 37 ((p.rels.map fun r => p.rowS r.body).map encI2)]) := by
 have hmx : maxLen = 9223372036854775807 := rfl
 have hwr : wtR (p.rels.map Rl.enc) ≤ 1048576 := by simpa only [Pg.enc_eq, wtL, D.wt, Nat.add_zero] using hw
 have hlen : p.rels.length ≤ 1048576 := by
  have := sumW_le (p.rels.map Rl.enc) 0; simp [sumW] at this; omega
 refine ACalls.enter (fn := Tryz.f26) Tryz.func26 rfl (by show 1 ≤ _; decide) ?_
 refine run_sound Tryz.func26 mixed 200 _ _ (by kernel_rfl) ?_
 simp only [go_sem, seval]
 repeat' (first
  | ((first | (refine br_n (fun hq => ?_) (fun hq => ?_)) | (refine idx_intro (fun x hx => have hq := hx; ?_))) <;> (try simp only [go_sem, seval, hq]))
  | (simp (disch := omega) only [wrap_ok])
  | ((first
   | (refine (l14Find_fn _ _).calls rfl ?_)
   | (refine (l14Find_fn _ _).callQ rfl ?_)
   | (refine (l02Insert_fn _ _ (by assumption) sd).calls rfl ?_)
   | (refine (l02Insert_fn _ _ (by assumption) sd).callQ rfl ?_)
   | (refine ⟨sd, ?_⟩)
   | (refine ⟨by assumption, ?_⟩)) <;> (try simp only [go_sem, seval]))
  | assumption)
 refine AW.adoptB 3 1 37 (by decide) rfl ?_
 refine AW.rng p.rels [1, 11, 12] 13 11 (fun u : Nat × List (List Int) => [(3, .own 2 u.1)]) (fun _ u => [.hole, .box (p.enc.map .d), .buf u.1 1 37 (u.2.map encI2)]) (fun r u => u.2 ++ r.map (fun r => p.rowS r.body) = p.rels.map fun r => p.rowS r.body) (0, []) rfl (by simp) rfl (by refine ⟨by simp [mkS], by simp [mkS], by simp only [mkS, List.all_cons, List.all_nil, O.refsLt, C.refsLt, C.refsLt1, all_dmap]; first | done | rfl | (simp; done), ?_⟩; simp [mkS, Abs.get, C.refsLtT, C.refsLt, C.refsLt1]) (fun i x r u hxi hdr hlt hm hinv hnext => ?_) (fun u hinv => ?_)
 ·have hxm := List.mem_of_getElem? hxi
  have hul := congrArg List.length hinv
  simp only [List.length_append, List.length_map, List.length_cons] at hul
  simp only [List.map_cons] at hinv
  have hcw := Gl.cnt_le_wt x.body
  have hbw := Rl.wt_body x
  have hrw := Pg.wt_rels hxm
  have c1 := l13Calls_H x.body false (hs x hxm) (by omega)
  have c2 := l13Calls_H x.body true (hs x hxm) (by omega)
  have n1 := Gl.callsS_len x.body false
  have n2 := Gl.callsS_len x.body true
  have hrow : p.rowS x.body = ((x.body.callsS false ++ x.body.callsS true).map p.find).foldl insA [] := rfl
  refine AW.hole ?_
  refine AW.hole ?_
  refine run_sound Tryz.func26 mixed 13 _ _ (by kernel_rfl) ?_
  simp only [go_sem, seval, run.eq_1, hlt, idx_of hxi]
  repeat' (first
   | ((first | (refine br_n (fun hq => ?_) (fun hq => ?_)) | (refine idx_intro (fun x hx => have hq := hx; ?_))) <;> (try simp only [go_sem, seval, hlt, idx_of hxi, run.eq_1, hq]))
   | (simp (disch := omega) only [wrap_ok])
   | ((first
    | (refine (l14Find_fn _ _).calls rfl ?_)
    | (refine (l14Find_fn _ _).callQ rfl ?_)
    | (refine (l02Insert_fn _ _ (by assumption) sd).calls rfl ?_)
    | (refine (l02Insert_fn _ _ (by assumption) sd).callQ rfl ?_)
    | (refine ⟨sd, ?_⟩)
    | (refine ⟨by assumption, ?_⟩)) <;> (try simp only [go_sem, seval, hlt, idx_of hxi, run.eq_1]))
   | assumption)
  refine AW.drawA mixed #[true, true, true, true, true, true, true, true, true] [(1, .box (p.enc.map .d)), (5, .box (x.enc.map .d))] [7] [0, 1, 3, 4, 8, 2, 5, 6, 7] [] none (by kernel_rfl) trivial (by simp [holdsB]) ?_
  simp only [go_sem, seval]
  repeat' (first
   | ((first | (refine br_n (fun hq => ?_) (fun hq => ?_)) | (refine idx_intro (fun x hx => have hq := hx; ?_))) <;> (try simp only [go_sem, seval, C.at1, strD_len, hq]))
   | (simp (disch := omega) only [wrap_ok])
   | ((first
    | (refine c1.at1 rfl 3 rfl rfl ?_ <;> (rintro c o' ⟨q1, xs1, B1, rfl, ho, rfl⟩; cases ho; refine ⟨rfl, rfl, ?_⟩))
    | (refine c2.at1 rfl 4 rfl rfl ?_ <;> (rintro c o' ⟨q1, xs1, B1, rfl, ho, rfl⟩; cases ho; refine ⟨rfl, rfl, ?_⟩))
    | (refine all_intro (fun Bz => ?_))
    | (refine (l14Find_fn _ _).calls rfl ?_)
    | (refine (l14Find_fn _ _).callQ rfl ?_)
    | (refine (l02Insert_fn _ _ (by assumption) sd).calls rfl ?_)
    | (refine (l02Insert_fn _ _ (by assumption) sd).callQ rfl ?_)
    | (refine ⟨sd, ?_⟩)
    | (refine ⟨by assumption, ?_⟩)) <;> (try simp only [go_sem, seval, C.at1, strD_len]))
   | assumption)
  refine run_sound Tryz.func26 mixed 200 _ _ (by kernel_rfl) ?_
  simp only [go_sem, seval]
  repeat' (first
   | ((first | (refine br_n (fun hq => ?_) (fun hq => ?_)) | (refine idx_intro (fun x hx => have hq := hx; ?_))) <;> (try simp only [go_sem, seval, hq]))
   | (simp (disch := omega) only [wrap_ok])
   | ((first
    | (refine (l14Find_fn _ _).calls rfl ?_)
    | (refine (l14Find_fn _ _).callQ rfl ?_)
    | (refine (l02Insert_fn _ _ (by assumption) sd).calls rfl ?_)
    | (refine (l02Insert_fn _ _ (by assumption) sd).callQ rfl ?_)
    | (refine ⟨sd, ?_⟩)
    | (refine ⟨by assumption, ?_⟩)) <;> (try simp only [go_sem, seval]))
   | assumption)
  refine AW.freezeT 24 3 rfl rfl ?_
  refine AW.nilG 6 rfl ?_
  rw [← strD_append]
  have hLl : (x.body.callsS false ++ x.body.callsS true).length ≤ 2 * x.body.cnt := by rw [List.length_append]; omega
  have hln2 : ((x.body.callsS false).length : Int) + ((x.body.callsS true).length : Int) = ((x.body.callsS false ++ x.body.callsS true).length : Int) := by rw [List.length_append]; omega
  generalize x.body.callsS false ++ x.body.callsS true = L at *
  refine AW.rng L [1, 3, 11, 12, 13, 24, 25] 26 24 (fun w : List Int => [(6, .d (.sl (intsD w)))]) (fun _ w => [.hole, .box (p.enc.map .d), .buf u.1 1 37 (u.2.map encI2), .dead, .dead, .box (x.enc.map .d)]) (fun s w => (s.map p.find).foldl insA w = p.rowS x.body ∧ Asc w ∧ w.length + s.length ≤ L.length) [] rfl (by simp [strD_len]) ⟨hrow.symm, by simp [Asc], by simp⟩ (by refine ⟨by simp [mkS, intsD_nl2], by simp [mkS, intsD_nl2], by simp only [mkS, List.all_cons, List.all_nil, O.refsLt, C.refsLt, C.refsLt1, all_dmap]; first | done | rfl | (simp; done), ?_⟩; simp [mkS, Abs.get, C.refsLtT, C.refsLt, C.refsLt1, intsD_nl2]) (fun j nm s w hnj hds hjt hmj hinw hnxw => ?_) (fun w hinw => ?_)
  ·obtain ⟨w1, w2, w3⟩ := hinw
   simp only [List.length_cons] at w3
   simp only [List.map_cons, List.foldl_cons] at w1
   have hat := strD_at hnj
   refine run_sound Tryz.func26 mixed 200 _ _ (by kernel_rfl) ?_
   simp only [go_sem, seval, hjt, idx_of hat, hln2, strD_len]
   repeat' (first
    | ((first | (refine br_n (fun hq => ?_) (fun hq => ?_)) | (refine idx_intro (fun x hx => have hq := hx; ?_))) <;> (try simp only [go_sem, seval, hjt, idx_of hat, hln2, strD_len, hq]))
    | (simp (disch := omega) only [wrap_ok])
    | ((first
     | (refine (l14Find_fn p _).calls rfl ?_)
     | (refine (l02Insert_fn w (p.find nm) w2 (by omega)).calls rfl ?_)
     | (refine (l14Find_fn _ _).calls rfl ?_)
     | (refine (l14Find_fn _ _).callQ rfl ?_)
     | (refine (l02Insert_fn _ _ (by assumption) sd).calls rfl ?_)
     | (refine (l02Insert_fn _ _ (by assumption) sd).callQ rfl ?_)
     | (refine ⟨sd, ?_⟩)
     | (refine ⟨by assumption, ?_⟩)) <;> (try simp only [go_sem, seval, hjt, idx_of hat, hln2, strD_len]))
    | assumption)
   have hil := insA_len (n := p.find nm) (l := w)
   refine hnxw (insA w (p.find nm)) _ ⟨w1, insA_asc w2, by omega⟩ (by refine ⟨by simp [mkS, hln2], by simp [mkS, hln2], by simp only [mkS, List.all_cons, List.all_nil, O.refsLt, C.refsLt, C.refsLt1, all_dmap]; first | done | rfl | (simp; done), ?_⟩; simp [mkS, Abs.get, C.refsLtT, C.refsLt, C.refsLt1, hln2])
  ·obtain ⟨w1, w2, w3⟩ := hinw
   simp only [List.map_nil, List.foldl_nil] at w1
   subst w1
   refine run_sound Tryz.func26 mixed 200 _ _ (by kernel_rfl) ?_
   simp only [go_sem, seval, hln2]
   repeat' (first
    | ((first | (refine br_n (fun hq => ?_) (fun hq => ?_)) | (refine idx_intro (fun x hx => have hq := hx; ?_))) <;> (try simp only [go_sem, seval, hln2, hq]))
    | (simp (disch := omega) only [wrap_ok])
    | ((first
     | (refine (l14Find_fn _ _).calls rfl ?_)
     | (refine (l14Find_fn _ _).callQ rfl ?_)
     | (refine (l02Insert_fn _ _ (by assumption) sd).calls rfl ?_)
     | (refine (l02Insert_fn _ _ (by assumption) sd).callQ rfl ?_)
     | (refine ⟨sd, ?_⟩)
     | (refine ⟨by assumption, ?_⟩)) <;> (try simp only [go_sem, seval, hln2]))
    | assumption)
   refine hnext (u.1 + 1, u.2 ++ [p.rowS x.body]) _ (by rw [← hinv]; simp) (by refine ⟨by simp [mkS, encI2_eq], by simp [mkS, encI2_eq], by simp only [mkS, List.all_cons, List.all_nil, O.refsLt, C.refsLt, C.refsLt1, all_dmap]; first | done | rfl | (simp; done), ?_⟩; simp [mkS, Abs.get, C.refsLtT, C.refsLt, C.refsLt1, encI2_eq])
 ·simp only [List.map_nil, List.append_nil] at hinv
  rw [← hinv]
  refine AW.placeBuf 3 2 0 rfl rfl rfl (by decide) ?_
  refine run_sound Tryz.func26 mixed 200 _ _ (by kernel_rfl) ?_
  simp only [go_sem, seval]
  repeat' (first
   | ((first | (refine br_n (fun hq => ?_) (fun hq => ?_)) | (refine idx_intro (fun x hx => have hq := hx; ?_))) <;> (try simp only [go_sem, seval, hq]))
   | (simp (disch := omega) only [wrap_ok])
   | ((first
    | (refine (l14Find_fn _ _).calls rfl ?_)
    | (refine (l14Find_fn _ _).callQ rfl ?_)
    | (refine (l02Insert_fn _ _ (by assumption) sd).calls rfl ?_)
    | (refine (l02Insert_fn _ _ (by assumption) sd).callQ rfl ?_)
    | (refine ⟨sd, ?_⟩)
    | (refine ⟨by assumption, ?_⟩)) <;> (try simp only [go_sem, seval]))
   | assumption)
end Go.Proofs.YtfniakcjekooiaaGreat
