import Derived.Test.YtccphilpfmfagaaDoorFx
import Derived.Test.YtccphilpfmfagaaDoorP8
namespace Go.Proofs.YtccphilpfmfagaaDoor
open Go.Abs
set_option maxRecDepth 100000
set_option maxHeartbeats 4000000
set_option linter.unusedSimpArgs false
set_option linter.unusedVariables false
theorem impl_Join_fn (l : List (List UInt8)) (by_ : List UInt8) (hb : (joinS by_ l).length ≤ 1000000000) : Gives Tryd.prog 31 [.sl (strD l), .str by_] (.d (.str (joinS by_ l))) := by
 have hmx : maxLen = 9223372036854775807 := rfl
 refine ACalls.enter (fn := Tryd.f31) Tryd.func31 rfl (by show 2 ≤ _; decide) ?_
 refine run_sound Tryd.func31 mixed 200 _ _ (by kernel_rfl) ?_
 simp only [go_sem, seval, strD_len]
 repeat' (first
  | ((first | (refine br_n (fun hq => ?_) (fun hq => ?_)) | (refine idx_intro (fun x hx => have hq := hx; ?_))) <;> (try simp only [go_sem, seval, strD_len, hq]))
  | (simp (disch := omega) only [wrap_ok])
  | ((first
   | (refine ⟨sd, ?_⟩)
   | (refine ⟨by assumption, ?_⟩)) <;> (try simp only [go_sem, seval, strD_len]))
  | assumption)
 refine AW.adopt 5 1 5 (by decide) rfl ?_
 refine AW.rng l [1, 9, 10] 11 9 (fun p : Nat × List UInt8 => [(5, .own 0 p.1)]) (fun _ p => [.grow p.1 1 5 (bytesD p.2)]) (fun r p => JoinI by_ l r p.2) (0, []) rfl (by simp [strD]) ⟨fun _ => rfl, fun h => by simp at h⟩ (by refine ⟨by simp [mkS, bytesD], by simp [mkS, bytesD], by simp only [mkS, List.all_cons, List.all_nil, O.refsLt, C.refsLt, C.refsLt1, all_dmap]; first | done | rfl | (simp; done), ?_⟩; simp [mkS, Abs.get, C.refsLtT, C.refsLt, C.refsLt1]) (fun i x r p hxi hdr hlt hm hinv hnext => ?_) (fun p hinv => ?_)
 ·obtain ⟨q, acc⟩ := p
  dsimp only at hinv ⊢
  obtain ⟨j1, j2⟩ := joinI_step hdr hinv
  have j3 := joinI_len hdr hinv
  by_cases hi : 0 < i
  ·rw [if_pos hi] at j3
   have hi' : (0 : Int) < i := by omega
   refine run_sound Tryd.func31 mixed 200 _ _ (by kernel_rfl) ?_
   simp only [go_sem, seval, hlt, hi', idx_of (strD_at hxi), strD_len, bytesD_app, bytesD_len]
   repeat' (first
    | ((first | (refine br_n (fun hq => ?_) (fun hq => ?_)) | (refine idx_intro (fun x hx => have hq := hx; ?_))) <;> (try simp only [go_sem, seval, hlt, hi', bytesD_app, bytesD_len, hq]))
    | (simp (disch := omega) only [wrap_ok])
    | (refine hnext (q + 1 + 1, acc ++ by_ ++ x) _ (j2 hi) (by refine ⟨by simp [mkS], by simp [mkS], by simp [mkS, O.refsLt, C.refsLt, C.refsLt1], ?_⟩; simp [mkS, Abs.get, C.refsLtT, C.refsLt, C.refsLt1]))
    | ((first
     | (refine ⟨sd, ?_⟩)
     | (refine ⟨by assumption, ?_⟩)) <;> (try simp only [go_sem, seval, hlt, hi', bytesD_app, bytesD_len]))
    | assumption)
  ·rw [if_neg hi] at j3
   obtain ⟨rfl, j4⟩ := j1 (by omega)
   have hi' : ¬ (0 : Int) < i := by omega
   refine run_sound Tryd.func31 mixed 200 _ _ (by kernel_rfl) ?_
   simp only [go_sem, seval, hlt, hi', idx_of (strD_at hxi), strD_len, bytesD_app, bytesD_len]
   repeat' (first
    | ((first | (refine br_n (fun hq => ?_) (fun hq => ?_)) | (refine idx_intro (fun x hx => have hq := hx; ?_))) <;> (try simp only [go_sem, seval, hlt, hi', bytesD_app, bytesD_len, hq]))
    | (simp (disch := omega) only [wrap_ok])
    | (refine hnext (q + 1, x) _ j4 (by refine ⟨by simp [mkS], by simp [mkS], by simp [mkS, O.refsLt, C.refsLt, C.refsLt1], ?_⟩; simp [mkS, Abs.get, C.refsLtT, C.refsLt, C.refsLt1]))
    | ((first
     | (refine ⟨sd, ?_⟩)
     | (refine ⟨by assumption, ?_⟩)) <;> (try simp only [go_sem, seval, hlt, hi', bytesD_app, bytesD_len]))
    | assumption)
 ·rw [← joinI_end hinv]
  refine run_sound Tryd.func31 mixed 200 _ _ (by kernel_rfl) ?_
  simp only [go_sem, seval, bytesOf_bytesD, bytes_back]
  repeat' (first
   | ((first | (refine br_n (fun hq => ?_) (fun hq => ?_)) | (refine idx_intro (fun x hx => have hq := hx; ?_))) <;> (try simp only [go_sem, seval, bytesOf_bytesD, bytes_back, hq]))
   | (simp (disch := omega) only [wrap_ok])
   | ((first
    | (refine ⟨sd, ?_⟩)
    | (refine ⟨by assumption, ?_⟩)) <;> (try simp only [go_sem, seval, bytesOf_bytesD, bytes_back]))
   | assumption)
end Go.Proofs.YtccphilpfmfagaaDoor
