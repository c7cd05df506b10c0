import Derived.Test.YtccphilpfmfagaaDoorW87
import Derived.Test.YtccphilpfmfagaaDoorW91
import Derived.Test.YtccphilpfmfagaaDoorW92
import Derived.Test.YtccphilpfmfagaaDoorW93
namespace Go.Proofs.YtccphilpfmfagaaDoor
open Go.Abs
set_option maxRecDepth 100000
set_option maxHeartbeats 4000000
set_option linter.unusedSimpArgs false
set_option linter.unusedVariables false
theorem four {l : List V} (h : l.length = 4) : ∃ a b c d, l = [a, b, c, d] := by
 match l, h with
 | [a, b, c, d], _ => exact ⟨a, b, c, d, rfl⟩
theorem lawFnTermText (B : List UInt8) (te tr : TypeId) (pe pr : Value) : ACalls Tryd.prog 3 [.d (.sl (bytesD B))] [tabO, synO te pe, ranO tr pr] (fun c H' => c = .d (.bool true) ∧ H' = [tabO, synO te pe, ranO tr pr]) := by
 have hmx : maxLen = 9223372036854775807 := rfl
 refine ACalls.enter (fn := Tryd.f3) Tryd.func3 rfl (by show 1 ≤ _; decide) ?_
 refine AW.hole ?_
 refine AW.hole ?_
 refine AW.hole ?_
 refine run_sound Tryd.func3 mixed 14 _ _ (by kernel_rfl) ?_
 simp only [go_sem, seval, run.eq_1, bytesD_len]
 refine br_intro (fun hq => ?_) (fun hq => ?_)
 ·simp only [go_sem, seval]
 simp only [decide_eq_false_iff_not, Int.not_lt] at hq
 have hB : B.length ≤ 1048576 := by omega
 clear hq
 have hmk := MakeTerms_R B hB 0 4 3 (by decide) (by decide) (by decide)
 simp only [go_sem, seval, bytesD_len]
 refine ACalls.emb hmk [] rfl rfl rfl (by decide) rfl ?_
 rintro c H' ⟨L, rfl, rfl, hL, hall⟩ _
 refine ⟨rfl, rfl, ?_⟩
 obtain ⟨a, b, c, d, rfl⟩ := four hL
 simp only [List.mem_cons, List.not_mem_nil, or_false, forall_eq_or_imp, forall_eq] at hall
 obtain ⟨ha, hb, hc, hd⟩ := hall
 have oa := drawn_ok ha (by decide)
 have ob := drawn_ok hb (by decide)
 have oc := drawn_ok hc (by decide)
 have od := drawn_ok hd (by decide)
 have la := (V.txs_len a ha.1).1
 have lb := (V.txs_len b hb.1).1
 have lc := (V.txs_len c hc.1).1
 have ld := (V.txs_len d hd.1).1
 have sa := ha.2.1
 have sb := hb.2.1
 have sc := hc.2.1
 have sd' := hd.2.1
 have hfa := FormatTermV_fn a oa
 have hfb := FormatTermV_fn b ob
 have hfc := FormatTermV_fn c oc
 have hall2 : [a, b, c, d].all V.ok = true := by simp [oa, ob, oc, od]
 have hjl : (joinS [32] ([a, b, c, d].map V.txt)).length ≤ 20000 := by
  show (a.txt ++ ([32] ++ b.txt ++ ([32] ++ c.txt ++ ([32] ++ d.txt ++ [])))).length ≤ 20000
  simp only [List.length_append, List.length_cons, List.length_nil]
  omega
 have hfl := FormatTermsV_fn [a, b, c, d] hall2 (by simp) (by omega)
 have hps := iParseTerms_T (joinS [32] ([a, b, c, d].map V.txt)) (by omega) te tr pe pr
 rw [ptV_join hall2 (by simp) hjl] at hps
 have hp1 := iParseTerm_T ([32, 32] ++ a.txt ++ [32, 59, 32, 110, 111, 116, 101]) (by simp only [List.length_append, List.length_cons, List.length_nil]; omega) te tr pe pr
 rw [p1V_note oa (by omega)] at hp1
 have hp2 := iParseTerm_T (b.txt ++ [32] ++ c.txt) (by simp only [List.length_append, List.length_cons, List.length_nil]; omega) te tr pe pr
 rw [p1V_two ob oc (by omega)] at hp2
 have hsm : Gives Tryd.prog 11 [.agg [.int .i64 a.kind, .int .i64 a.int, .str a.name, .sl (a.kids.map V.enc)], .agg a.enc] (.d (.bool true)) := by
  have h : ∀ X, X = V.enc a → Gives Tryd.prog 11 [.agg X, .agg a.enc] (.d (.bool true)) := by
   rintro X rfl
   have h := same_fn a a
   rw [show decide (a = a) = true from by simp] at h
   exact h
  exact h _ (V.enc_eq a).symm
 have hls := list_fn [a, b, c, d] [a, b, c, d]
 rw [show decide ([a, b, c, d] = [a, b, c, d]) = true from by simp] at hls
 unfold plR at hp1 hp2
 unfold tmO tmP tmW tmF at hp1
 unfold psR at hps
 dsimp only at hp1 hp2 hps
 generalize joinS [32] ([a, b, c, d].map V.txt) = J at hjl hfl hps
 simp only [List.map_cons, List.map_nil] at hfl hps hls ⊢
 clear hall2
 simp only [go_sem, seval]
 repeat' (first
  | ((first | (refine br_n (fun hq => ?_) (fun hq => ?_)) | (refine idx_intro (fun x hx => have hq := hx; ?_))) <;> (try simp only [go_sem, seval, run.eq_1, hq]))
  | (simp (disch := omega) only [wrap_ok])
  | ((first
   | (refine (ACalls.emb hfa [0] rfl rfl rfl (by decide) rfl ?_) <;> (rintro c H' ⟨rfl, rfl⟩ _; refine ⟨rfl, rfl, ?_⟩))
   | (refine (ACalls.emb hp1 [3, 0, 1, 2] rfl rfl rfl (by decide) rfl ?_) <;> (rintro c H' (⟨e1, B1, rfl, rfl⟩ | ⟨kz, rfl, rfl⟩) _ <;> refine ⟨rfl, rfl, ?_⟩))
   | (refine (ACalls.emb hfl [0] rfl rfl rfl (by decide) rfl ?_) <;> (rintro c H' ⟨rfl, rfl⟩ _; refine ⟨rfl, rfl, ?_⟩))
   | (refine (ACalls.emb hps [4, 0, 1, 2] rfl rfl rfl (by decide) rfl ?_) <;> (rintro c H' ⟨e2, B2, rfl, rfl⟩ _; refine ⟨rfl, rfl, ?_⟩))
   | (refine (same_fn _ _).calls rfl ?_)
   | (refine (same_fn _ _).callQ rfl ?_)
   | (refine (list_fn _ _).calls rfl ?_)
   | (refine (list_fn _ _).callQ rfl ?_)
   | (refine ⟨sd, ?_⟩)
   | (refine ⟨by assumption, ?_⟩)) <;> (try simp only [go_sem, seval, run.eq_1]))
  | assumption)
 ·skip
  refine AW.drawA mixed #[true, true, true, true, true, true, true, true, true, true, true, true, true, true, true, false, false] [] [] [0, 1, 2, 5, 6, 7, 14, 3, 4, 8, 9, 10, 11, 12, 13] [15, 16] (some (14, 8, 26, [.int .i64 0, .int .i64 0, .string ⟨#[]⟩, .slice none 0 0])) (by kernel_rfl) tz26 (by simp [holdsB]) ?_
  simp only [go_sem, seval]
  repeat' (first
   | ((first | (refine br_n (fun hq => ?_) (fun hq => ?_)) | (refine idx_intro (fun x hx => have hq := hx; ?_))) <;> (try simp only [go_sem, seval, hq]))
   | (simp (disch := omega) only [wrap_ok])
   | ((first
    | (refine (ACalls.emb hfb [0] rfl rfl rfl (by decide) rfl ?_) <;> (rintro c H' ⟨rfl, rfl⟩ _; refine ⟨rfl, rfl, ?_⟩))
    | (refine (ACalls.emb hfc [0] rfl rfl rfl (by decide) rfl ?_) <;> (rintro c H' ⟨rfl, rfl⟩ _; refine ⟨rfl, rfl, ?_⟩))
    | (refine (ACalls.emb hp2 [5, 0, 1, 2] rfl rfl rfl (by decide) rfl ?_) <;> (rintro c H' ⟨rfl, rfl⟩ _; refine ⟨rfl, rfl, ?_⟩))
    | (refine (same_fn _ _).calls rfl ?_)
    | (refine (same_fn _ _).callQ rfl ?_)
    | (refine (list_fn _ _).calls rfl ?_)
    | (refine (list_fn _ _).callQ rfl ?_)
    | (refine ⟨sd, ?_⟩)
    | (refine ⟨by assumption, ?_⟩)) <;> (try simp only [go_sem, seval]))
   | assumption)

  refine run_sound Tryd.func3 mixed 200 _ _ (by kernel_rfl) ?_
  simp only [go_sem, seval]
  repeat' (first
   | ((first | (refine br_n (fun hq => ?_) (fun hq => ?_)) | (refine idx_intro (fun x hx => have hq := hx; ?_))) <;> (try simp only [go_sem, seval, hq]))
   | (simp (disch := omega) only [wrap_ok])
   | ((first
    | (refine hsm.callQ rfl ?_)
    | (refine hsm.lendQ rfl (by simp only [go_sem, seval]) ?_)
    | (refine hls.callQ rfl ?_)
    | (refine hls.lendQ rfl (by simp only [go_sem, seval]) ?_)
    | (refine (same_fn _ _).calls rfl ?_)
    | (refine (same_fn _ _).callQ rfl ?_)
    | (refine (list_fn _ _).calls rfl ?_)
    | (refine (list_fn _ _).callQ rfl ?_)
    | (refine ⟨sd, ?_⟩)
    | (refine ⟨by assumption, ?_⟩)) <;> (try simp only [go_sem, seval]))
   | assumption)
 ·rw [kz, List.map_nil] at hsm
  refine AW.drawA mixed #[true, true, true, true, true, true, true, true, true, true, true, true, true, true, true, false, false] [] [] [0, 1, 2, 5, 6, 7, 14, 3, 4, 8, 9, 10, 11, 12, 13] [15, 16] (some (14, 8, 26, [.int .i64 0, .int .i64 0, .string ⟨#[]⟩, .slice none 0 0])) (by kernel_rfl) tz26 (by simp [holdsB]) ?_
  simp only [go_sem, seval]
  repeat' (first
   | ((first | (refine br_n (fun hq => ?_) (fun hq => ?_)) | (refine idx_intro (fun x hx => have hq := hx; ?_))) <;> (try simp only [go_sem, seval, hq]))
   | (simp (disch := omega) only [wrap_ok])
   | ((first
    | (refine (ACalls.emb hfb [0] rfl rfl rfl (by decide) rfl ?_) <;> (rintro c H' ⟨rfl, rfl⟩ _; refine ⟨rfl, rfl, ?_⟩))
    | (refine (ACalls.emb hfc [0] rfl rfl rfl (by decide) rfl ?_) <;> (rintro c H' ⟨rfl, rfl⟩ _; refine ⟨rfl, rfl, ?_⟩))
    | (refine (ACalls.emb hp2 [5, 0, 1, 2] rfl rfl rfl (by decide) rfl ?_) <;> (rintro c H' ⟨rfl, rfl⟩ _; refine ⟨rfl, rfl, ?_⟩))
    | (refine (same_fn _ _).calls rfl ?_)
    | (refine (same_fn _ _).callQ rfl ?_)
    | (refine (list_fn _ _).calls rfl ?_)
    | (refine (list_fn _ _).callQ rfl ?_)
    | (refine ⟨sd, ?_⟩)
    | (refine ⟨by assumption, ?_⟩)) <;> (try simp only [go_sem, seval]))
   | assumption)

  refine run_sound Tryd.func3 mixed 200 _ _ (by kernel_rfl) ?_
  simp only [go_sem, seval]
  repeat' (first
   | ((first | (refine br_n (fun hq => ?_) (fun hq => ?_)) | (refine idx_intro (fun x hx => have hq := hx; ?_))) <;> (try simp only [go_sem, seval, hq]))
   | (simp (disch := omega) only [wrap_ok])
   | ((first
    | (refine hsm.callQ rfl ?_)
    | (refine hsm.lendQ rfl (by simp only [go_sem, seval]) ?_)
    | (refine hls.callQ rfl ?_)
    | (refine hls.lendQ rfl (by simp only [go_sem, seval]) ?_)
    | (refine (same_fn _ _).calls rfl ?_)
    | (refine (same_fn _ _).callQ rfl ?_)
    | (refine (list_fn _ _).calls rfl ?_)
    | (refine (list_fn _ _).callQ rfl ?_)
    | (refine ⟨sd, ?_⟩)
    | (refine ⟨by assumption, ?_⟩)) <;> (try simp only [go_sem, seval]))
   | assumption)
end Go.Proofs.YtccphilpfmfagaaDoor
