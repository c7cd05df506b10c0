import Derived.Test.YtccphilpfmfagaaDoorW90
import Derived.Test.YtccphilpfmfagaaDoorW52
namespace Go.Proofs.YtccphilpfmfagaaDoor
open Go.Abs
set_option maxRecDepth 100000
set_option maxHeartbeats 4000000
set_option linter.unusedSimpArgs false
set_option linter.unusedVariables false
theorem FormatTermsV_fn (l : List V) (hl : l.all V.ok = true) (h40 : l.length ≤ 40) (hj : (joinS [32] (l.map V.txt)).length ≤ 1000000000) : ACalls Tryd.prog 10 [.d (.sl (l.map V.enc))] [tabO] (fun c H' => c = .d (.str (joinS [32] (l.map V.txt))) ∧ H' = [tabO]) := by
 have hmx : maxLen = 9223372036854775807 := rfl
 have hmap : ∀ x : List V, (x.map V.enc).length = x.length := fun x => List.length_map _
 have n1 : ¬ (40 : Int) < (l.length : Int) := by omega
 have hto : Gives Tryd.prog 30 [.sl (l.map V.enc)] (.d (.bool true)) := by
  have h := itermsOk_fn (l.map V.tm) (fun t ht => by
   obtain ⟨v, hv, rfl⟩ := List.mem_map.1 ht
   have := ok_wtV (List.all_eq_true.1 hl v hv)
   unfold V.enc at this
   omega)
  rw [enc_tms] at h
  rw [show (l.map V.tm).all tmOk = true from by
   rw [List.all_eq_true]
   intro t ht
   obtain ⟨v, hv, rfl⟩ := List.mem_map.1 ht
   rw [tmOk_V]
   exact List.all_eq_true.1 hl v hv] at h
  exact h
 have hjn := impl_Join_fn (l.map V.txt) [32] hj
 refine ACalls.enter (fn := Tryd.f10) Tryd.func10 rfl (by show 1 ≤ _; decide) ?_
 refine run_sound Tryd.func10 mixed 200 _ _ (by kernel_rfl) ?_
 simp only [go_sem, seval, hmap, n1]
 repeat' (first
  | ((first | (refine br_n (fun hq => ?_) (fun hq => ?_)) | (refine idx_intro (fun x hx => have hq := hx; ?_))) <;> (try simp only [go_sem, seval, hmap, n1, hq]))
  | (simp (disch := omega) only [wrap_ok])
  | ((first
   | (refine hto.calls rfl ?_)
   | (refine hto.callQ rfl ?_)
   | (refine (itermsOk_fn _ sd).calls rfl ?_)
   | (refine ⟨sd, ?_⟩)
   | (refine ⟨by assumption, ?_⟩)) <;> (try simp only [go_sem, seval, hmap, n1]))
  | assumption)
 refine AW.adopt 3 1 9 (by decide) rfl ?_
 refine AW.rng l [15, 16] 17 15 (fun p : Nat × List (List UInt8) => [(3, .own 1 p.1)]) (fun H p => [tabO, .grow p.1 1 9 (strD p.2)]) (fun r p => p.2 ++ r.map V.txt = l.map V.txt) (0, []) rfl (by simp) (by simp) (by refine ⟨by simp [mkS, strD], by simp [mkS, strD], by simp only [mkS, List.all_cons, List.all_nil, O.refsLt, C.refsLt, C.refsLt1, all_dmap]; first | done | rfl | (simp; done), ?_⟩; simp [mkS, Abs.get, C.refsLtT, C.refsLt, C.refsLt1]) (fun i x r p hxi hdr hlt hm hinv hnext => ?_) (fun p hinv => ?_)
 ·obtain ⟨q, acc⟩ := p
  dsimp only at hinv ⊢
  have hok := List.all_eq_true.1 hl x (List.mem_of_getElem? hxi)
  have hft := FormatTermV_fn x hok
  have hal := congrArg List.length hinv
  simp only [List.length_append, List.length_map, List.length_cons] at hal
  refine run_sound Tryd.func10 mixed 200 _ _ (by kernel_rfl) ?_
  simp only [go_sem, seval, hlt, idx_of hxi, strD_len]
  repeat' (first
   | ((first | (refine br_n (fun hq => ?_) (fun hq => ?_)) | (refine idx_intro (fun x hx => have hq := hx; ?_))) <;> (try simp only [go_sem, seval, hlt, strD_len, hq]))
   | (simp (disch := omega) only [wrap_ok])
   | ((first
    | (refine (ACalls.emb hft [0] rfl rfl rfl (by decide) rfl ?_) <;> (rintro c H' ⟨rfl, rfl⟩ _; refine ⟨rfl, rfl, ?_⟩))
    | (refine (itermsOk_fn _ sd).calls rfl ?_)
    | (refine ⟨sd, ?_⟩)
    | (refine ⟨by assumption, ?_⟩)) <;> (try simp only [go_sem, seval, hlt, strD_len]))
   | assumption)
  refine hnext (q + 1, acc ++ [x.txt]) _ (by rw [← hinv, List.map_cons]; simp) (by refine ⟨by simp [mkS, strD_append, strD_one], by simp [mkS, strD_append, strD_one], by simp only [mkS, List.all_cons, List.all_nil, O.refsLt, C.refsLt, C.refsLt1, all_dmap]; first | done | rfl | (simp; done), ?_⟩; simp [mkS, Abs.get, C.refsLtT, C.refsLt, C.refsLt1])
 ·obtain ⟨q, acc⟩ := p
  simp only [List.map_nil, List.append_nil] at hinv
  subst hinv
  refine run_sound Tryd.func10 mixed 200 _ _ (by kernel_rfl) ?_
  simp only [go_sem, seval]
  repeat' (first
   | ((first | (refine br_n (fun hq => ?_) (fun hq => ?_)) | (refine idx_intro (fun x hx => have hq := hx; ?_))) <;> (try simp only [go_sem, seval, hq]))
   | (simp (disch := omega) only [wrap_ok])
   | ((first
    | (refine hjn.calls rfl ?_)
    | (refine (itermsOk_fn _ sd).calls rfl ?_)
    | (refine ⟨sd, ?_⟩)
    | (refine ⟨by assumption, ?_⟩)) <;> (try simp only [go_sem, seval]))
   | assumption)
end Go.Proofs.YtccphilpfmfagaaDoor
