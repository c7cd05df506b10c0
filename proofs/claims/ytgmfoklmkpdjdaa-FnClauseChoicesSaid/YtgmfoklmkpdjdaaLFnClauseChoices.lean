import Derived.Test.YtgmfoklmkpdjdaaW148
import Derived.Test.YtgmfoklmkpdjdaaW18
import Derived.Test.YtgmfoklmkpdjdaaW23
import Derived.Test.YtgmfoklmkpdjdaaW25
namespace Go.Proofs.Ytgmfoklmkpdjdaa
open Go.Abs
set_option maxRecDepth 100000
set_option maxHeartbeats 4000000
set_option linter.unusedSimpArgs false
set_option linter.unusedVariables false
theorem clsD (t : Gl) (hw : wtL t.enc ≤ 1048576) (hok : glOk t = true) (hl : t.clsS.length ≤ 64) : Gives Try.prog 5 [.agg t.enc] (.tup [.d (.sl (t.clsS.map encC)), .d (.bool true)]) := by
 have h := iClausesOf_T t hw
 have e1 : clsV t = t.clsS := by unfold clsV; rw [if_pos ⟨hok, hl⟩]
 have e2 : clsB t = true := by unfold clsB; exact decide_eq_true ⟨hok, hl⟩
 rw [e1, e2] at h
 refine ACalls.frozen (ds := [.agg t.enc]) (m := 1) h (fun c H' ⟨h1, e, B, h2⟩ _ => ?_)
 subst h1 h2; rfl
theorem ccD (t : Gl) (i : Int) (hw : wtL t.enc ≤ 1048576) : Gives Try.prog 6 [.agg t.enc, .int .i64 i] (.tup [.d (.sl (intsD (ccV t i))), .d (.bool (ccB t i))]) := by
 refine ACalls.frozen (ds := [.agg t.enc, .int .i64 i]) (m := 1) (iClauseChoices_T t i hw) (fun c H' ⟨h1, e, B, h2⟩ _ => ?_)
 subst h1 h2; rfl
theorem body_glOk {p : Pg} (h : pgOk p = true) {r : Rl} (hr : r ∈ p.rels) : glOk r.body = true := by
 unfold pgOk at h
 rw [Bool.and_eq_true] at h
 obtain ⟨i, hi⟩ := okL_mem h.2 r hr
 unfold Pg.relOk at hi
 simp only [Bool.and_eq_true, decide_eq_true_eq] at hi
 have hc := hi.1.1.1.2
 have hs := hi.1.1.2
 unfold glOk
 rw [Bool.and_eq_true, decide_eq_true_eq]
 exact ⟨by omega, hs⟩
theorem lawFnClauseChoices_R (B : List UInt8) : ACalls Try.prog 3 [.d (.sl (bytesD B))] [] (fun c H' => c = .d (.bool true) ∧ H' = []) := by
 have hmx : maxLen = 9223372036854775807 := rfl
 refine ACalls.enter (fn := Try.f3) Try.func3 rfl (by show 1 ≤ _; decide) ?_
 refine run_sound Try.func3 mixed 10 _ _ (by kernel_rfl) ?_
 simp only [go_sem, seval, run.eq_1, bytesD_len]
 refine br_intro (fun hq => ?_) (fun hq => ?_)
 ·simp only [go_sem, seval]
 simp only [decide_eq_false_iff_not, Int.not_lt] at hq
 have hB : B.length ≤ 1048576 := by omega
 clear hq
 have hmk := MakeProgram_R B hB
 simp only [go_sem, seval, bytesD_len]
 refine ACalls.emb hmk [] rfl rfl rfl (by decide) rfl ?_
 rintro c H' ⟨p, rfl, rfl, hf⟩ _
 refine ⟨rfl, rfl, ?_⟩
 have hPe := Pg.enc_eq p
 have hml : ∀ l : List Rl, (l.map Rl.enc).length = l.length := fun l => List.length_map _
 simp only [go_sem, seval, hPe, run.eq_1]
 repeat' (first
  | ((first | (refine br_n (fun hq => ?_) (fun hq => ?_)) | (refine idx_intro (fun x hx => have hq := hx; ?_))) <;> (try simp only [go_sem, seval, hPe, run.eq_1, hq]))
  | (simp (disch := omega) only [wrap_ok])
  | ((first
   | (refine (iClauseIndex_fn _ _ sd sd).calls rfl ?_)
   | (refine ⟨sd, ?_⟩)
   | (refine ⟨by assumption, ?_⟩)) <;> (try simp only [go_sem, seval, hPe, run.eq_1]))
  | assumption)
 refine run_sound Try.func3 mixed 200 _ _ (by kernel_rfl) ?_
 simp only [go_sem, seval, hml]
 repeat' (first
  | ((first | (refine br_n (fun hq => ?_) (fun hq => ?_)) | (refine idx_intro (fun x hx => have hq := hx; ?_))) <;> (try simp only [go_sem, seval, hml, hq]))
  | (simp (disch := omega) only [wrap_ok])
  | ((first
   | (refine (iClauseIndex_fn _ _ sd sd).calls rfl ?_)
   | (refine ⟨sd, ?_⟩)
   | (refine ⟨by assumption, ?_⟩)) <;> (try simp only [go_sem, seval, hml]))
  | assumption)
 refine AW.rng p.rels [19, 20] 21 19 (fun _ : Unit => []) (fun _ _ => [.box [.d (.sl (p.rels.map Rl.enc))]]) (fun _ _ => True) () rfl (by simp) trivial (by refine ⟨by simp [mkS, hPe], by simp [mkS, hPe], by simp only [mkS, List.all_cons, List.all_nil, O.refsLt, C.refsLt, C.refsLt1, all_dmap]; first | done | rfl | (simp; done), ?_⟩; simp [mkS, Abs.get, C.refsLtT, C.refsLt, C.refsLt1]) (fun ii r rest u hxi hdr hlt hm hinv hnext => ?_) (fun u hinv => ?_)
 ·have hmem := List.mem_of_getElem? hxi
  have hok := body_glOk hf.ok hmem
  have hcl := hf.cls r hmem
  have hw : wtL r.body.enc ≤ 1048576 := by
   have h1 := (Rl.wt_body r).1
   have h2 := Pg.wt_rels hmem
   have h3 := hf.wt
   omega
  have hcd := clsD r.body hw hok (by omega)
  have hxx : (p.rels.map Rl.enc)[ii]? = some r.enc := by rw [List.getElem?_map, hxi]; rfl
  generalize hn : r.body.clsS.length = n at hcl
  have hmc : (r.body.clsS.map encC).length = n := by rw [List.length_map]; exact hn
  have n64 : ¬ (64 : Int) < (n : Int) := by omega
  refine run_sound Try.func3 mixed 200 _ _ (by kernel_rfl) ?_
  simp only [go_sem, seval, hlt, idx_of hxx, hml, hmc, n64]
  repeat' (first
   | ((first | (refine br_n (fun hq => ?_) (fun hq => ?_)) | (refine idx_intro (fun x hx => have hq := hx; ?_))) <;> (try simp only [go_sem, seval, hlt, idx_of hxx, hml, hmc, n64, hq]))
   | (simp (disch := omega) only [wrap_ok])
   | ((first
    | (refine hcd.calls rfl ?_)
    | (refine (iClauseIndex_fn _ _ sd sd).calls rfl ?_)
    | (refine ⟨sd, ?_⟩)
    | (refine ⟨by assumption, ?_⟩)) <;> (try simp only [go_sem, seval, hlt, idx_of hxx, hml, hmc, n64]))
   | assumption)
  refine AW.lp [5, 6, 19, 20, 21, 39] (fun u : Nat => [(40, .d (.int .i64 (u : Int)))]) (fun _ _ => [.box [.d (.sl (p.rels.map Rl.enc))], .box (r.enc.map .d)]) (fun u => u ≤ n) (fun u => n - u) 0 (Nat.zero_le _) (by refine ⟨by simp [mkS], by simp [mkS], by simp only [mkS, List.all_cons, List.all_nil, O.refsLt, C.refsLt, C.refsLt1, all_dmap]; first | done | rfl | (simp; done), ?_⟩; simp [mkS, Abs.get, C.refsLtT, C.refsLt, C.refsLt1]) ?_
  intro k hkn hny
  by_cases hk : k = n
  ·have n1 : ¬ (k : Int) < (n : Int) := by omega
   have hcc := ccD r.body (n : Int) hw
   have hb : ccB r.body (n : Int) = false := by unfold ccB; rw [hn]; exact decide_eq_false (fun h => by omega)
   rw [hb] at hcc
   have wi : IntKind.i64.wrap ((ii : Int) + 1) = ((ii + 1 : Nat) : Int) := by rw [wrap_ok (by omega) (by omega)]; omega
   refine run_sound Try.func3 mixed 200 _ _ (by kernel_rfl) ?_
   simp only [go_sem, seval, n1, hmc]
   repeat' (first
    | ((first | (refine br_n (fun hq => ?_) (fun hq => ?_)) | (refine idx_intro (fun x hx => have hq := hx; ?_))) <;> (try simp only [go_sem, seval, n1, hmc, hq]))
    | (simp (disch := omega) only [wrap_ok])
    | ((first
     | (refine hcc.calls rfl ?_)
     | (refine (iClauseIndex_fn _ _ sd sd).calls rfl ?_)
     | (refine ⟨sd, ?_⟩)
     | (refine ⟨by assumption, ?_⟩)) <;> (try simp only [go_sem, seval, n1, hmc]))
    | assumption)
   refine hnext () _ trivial (by refine ⟨by simp [mkS, wi, hPe], by simp [mkS, wi, hPe], by simp only [mkS, List.all_cons, List.all_nil, O.refsLt, C.refsLt, C.refsLt1, all_dmap]; first | done | rfl | (simp; done), ?_⟩; simp [mkS, Abs.get, C.refsLtT, C.refsLt, C.refsLt1])
  ·have n1 : (k : Int) < (n : Int) := by omega
   have hcc := ccD r.body (k : Int) hw
   have hb : ccB r.body (k : Int) = true := by unfold ccB; rw [hn]; exact decide_eq_true ⟨hok, by omega, by omega, by omega⟩
   have hv : ccV r.body (k : Int) = r.body.chI k := by unfold ccV; rw [hn, if_pos ⟨hok, by omega, by omega, by omega⟩]; rfl
   rw [hb, hv] at hcc
   have hci := iClauseIndex_fn r.body (r.body.chI k) hw (by have h1 := r.body.chI_len k; have h2 := hok; unfold glOk at h2; rw [Bool.and_eq_true, decide_eq_true_eq] at h2; have h3 := h2.1; omega)
   rw [Gl.cidx_ch hok (by omega) (by omega)] at hci
   have wk : IntKind.i64.wrap ((k : Int) + 1) = ((k + 1 : Nat) : Int) := by rw [wrap_ok (by omega) (by omega)]; omega
   refine run_sound Try.func3 mixed 200 _ _ (by kernel_rfl) ?_
   simp only [go_sem, seval, n1, wk]
   repeat' (first
    | ((first | (refine br_n (fun hq => ?_) (fun hq => ?_)) | (refine idx_intro (fun x hx => have hq := hx; ?_))) <;> (try simp only [go_sem, seval, n1, wk, hq]))
    | (simp (disch := omega) only [wrap_ok])
    | ((first
     | (refine hcc.calls rfl ?_)
     | (refine hci.calls rfl ?_)
     | (refine (iClauseIndex_fn _ _ sd sd).calls rfl ?_)
     | (refine ⟨sd, ?_⟩)
     | (refine ⟨by assumption, ?_⟩)) <;> (try simp only [go_sem, seval, n1, wk]))
    | assumption)
   refine hny (k + 1) _ (by omega) (by omega) (by refine ⟨by simp [mkS, wk], by simp [mkS, wk], by simp only [mkS, List.all_cons, List.all_nil, O.refsLt, C.refsLt, C.refsLt1, all_dmap]; first | done | rfl | (simp; done), ?_⟩; simp [mkS, Abs.get, C.refsLtT, C.refsLt, C.refsLt1])
 ·refine run_sound Try.func3 mixed 200 _ _ (by kernel_rfl) ?_
  simp only [go_sem, seval]
  repeat' (first
   | ((first | (refine br_n (fun hq => ?_) (fun hq => ?_)) | (refine idx_intro (fun x hx => have hq := hx; ?_))) <;> (try simp only [go_sem, seval, hq]))
   | (simp (disch := omega) only [wrap_ok])
   | ((first
    | (refine (iClauseIndex_fn _ _ sd sd).calls rfl ?_)
    | (refine ⟨sd, ?_⟩)
    | (refine ⟨by assumption, ?_⟩)) <;> (try simp only [go_sem, seval]))
   | assumption)
theorem lawFnClauseChoices (B : List UInt8) : Gives Try.prog 3 [.sl (bytesD B)] (.d (.bool true)) :=
 ACalls.frozen (ds := [.sl (bytesD B)]) (m := 0) (lawFnClauseChoices_R B) (fun c H' ⟨h1, h2⟩ _ => by subst h1 h2; rfl)
end Go.Proofs.Ytgmfoklmkpdjdaa
