import Derived.Test.YtccphilpfmfagaaDoorW95
import Derived.Test.YtccphilpfmfagaaDoorW82
namespace Go.Proofs.YtccphilpfmfagaaDoor
open Go.Abs
set_option maxRecDepth 100000
set_option maxHeartbeats 4000000
set_option linter.unusedSimpArgs false
set_option linter.unusedVariables false
def sbC (o : Option (List Bd)) : C := match o with | some l => .tup [.d (.sl (l.map Bd.enc)), .d (.bool true)] | none => .tup [.d (.sl []), .d (.bool false)]
theorem sbC_none : sbC none = .tup [.d (.sl []), .d (.bool false)] := rfl
theorem sbC_some (l : List Bd) : sbC (some l) = .tup [.d (.sl (l.map Bd.enc)), .d (.bool true)] := rfl
theorem prs_wt {l : List V} {b : List Bd} (hl : l.all V.ok = true) (h : prs l = some b) : ∀ x, x ∈ b → wtL x.to.enc ≤ 80000 := by
 intro x hx
 obtain ⟨v, h1, h2⟩ := prs_mem l b h x hx
 rw [h2]
 exact ok_wtV (List.all_eq_true.1 hl v h1)
def chkB (o : Option (List Bd)) : Option (List Bd) := match o with | some b => if substB b = true then some b else none | none => none
theorem sParseSubst_fn (s : List UInt8) (hm : s.length ≤ 1048576) : Gives Tryd.prog 17 [.str s] (sbC (psubV s)) := by
 have hmx : maxLen = 9223372036854775807 := rfl
 have ht := sTokens_fn s hm
 unfold psubV
 cases hT : tokV s with
 | none =>
  rw [hT] at ht
  unfold tkC at ht
  dsimp only at ht ⊢
  rw [sbC_none]
  refine ACalls.enter (fn := Tryd.f17) Tryd.func17 rfl (by show 1 ≤ _; decide) ?_
  refine run_sound Tryd.func17 mixed 200 _ _ (by kernel_rfl) ?_
  simp only [go_sem, seval]
  repeat' (first
   | ((first | (refine br_n (fun hq => ?_) (fun hq => ?_)) | (refine idx_intro (fun x hx => have hq := hx; ?_))) <;> (try simp only [go_sem, seval, hq]))
   | (simp (disch := omega) only [wrap_ok])
   | ((first
    | (refine ht.calls rfl ?_)
    | (refine (l03ReadAll_fn _ sd sd).calls rfl ?_)
    | (refine (l03ReadAll_fn _ sd sd).callQ rfl ?_)
    | (refine (sSubstOk_fn _ (by assumption) sd).calls rfl ?_)
    | (refine (sSubstOk_fn _ (by assumption) sd).callQ rfl ?_)
    | (refine ⟨sd, ?_⟩)
    | (refine ⟨by assumption, ?_⟩)) <;> (try simp only [go_sem, seval]))
   | assumption)
 | some T =>
  rw [hT] at ht
  unfold tkC at ht
  dsimp only at ht ⊢
  obtain ⟨k1, k2⟩ := tokV_mem hT
  have ha := l03ReadAll_fn T k1 (fun t h => (k2 t h).2)
  unfold subT subL
  cases hA : rdA T (T.length + 1) 0 with
  | none =>
   rw [hA, ptC_none] at ha
   dsimp only
   rw [sbC_none]
   have z1 : IntKind.i64.wrap 1 = 1 := by decide
   refine ACalls.enter (fn := Tryd.f17) Tryd.func17 rfl (by show 1 ≤ _; decide) ?_
   refine run_sound Tryd.func17 mixed 200 _ _ (by kernel_rfl) ?_
   simp only [go_sem, seval, z1]
   repeat' (first
    | ((first | (refine br_n (fun hq => ?_) (fun hq => ?_)) | (refine idx_intro (fun x hx => have hq := hx; ?_))) <;> (try simp only [go_sem, seval, z1, hq]))
    | (simp (disch := omega) only [wrap_ok])
    | ((first
     | (refine ht.calls rfl ?_)
     | (refine ha.calls rfl ?_)
     | (refine AW.loop ?_ <;> (refine run_sound Tryd.func17 mixed 200 _ _ (by kernel_rfl) ?_))
     | (refine (l03ReadAll_fn _ sd sd).calls rfl ?_)
     | (refine (l03ReadAll_fn _ sd sd).callQ rfl ?_)
     | (refine (sSubstOk_fn _ (by assumption) sd).calls rfl ?_)
     | (refine (sSubstOk_fn _ (by assumption) sd).callQ rfl ?_)
     | (refine ⟨sd, ?_⟩)
     | (refine ⟨by assumption, ?_⟩)) <;> (try simp only [go_sem, seval, z1]))
    | assumption)
  | some l =>
   rw [hA, ptC_some] at ha
   dsimp only
   have hok := rdA_ok _ _ _ _ hA
   have hln := rdA_len _ _ _ _ hA
   have hmap : (l.map V.enc).length = l.length := List.length_map _
   show Gives Tryd.prog 17 [.str s] (sbC (chkB (prs l)))
   obtain ⟨R, hR⟩ : ∃ R, prs l = R := ⟨_, rfl⟩
   have hRw : ∀ b, R = some b → (∀ x, x ∈ b → wtL x.to.enc ≤ 8000000) ∧ b.length ≤ l.length := fun b hb => ⟨fun x hx => Nat.le_trans (prs_wt hok (hR.trans hb) x hx) (by decide), prs_len l b (hR.trans hb)⟩
   rw [hR]
   refine ACalls.enter (fn := Tryd.f17) Tryd.func17 rfl (by show 1 ≤ _; decide) ?_
   refine run_sound Tryd.func17 mixed 200 _ _ (by kernel_rfl) ?_
   simp only [go_sem, seval, hmap]
   repeat' (first
    | ((first | (refine br_n (fun hq => ?_) (fun hq => ?_)) | (refine idx_intro (fun x hx => have hq := hx; ?_))) <;> (try simp only [go_sem, seval, hmap, hq]))
    | (simp (disch := omega) only [wrap_ok])
    | ((first
     | (refine ht.calls rfl ?_)
     | (refine ha.calls rfl ?_)
     | (refine (l03ReadAll_fn _ sd sd).calls rfl ?_)
     | (refine (l03ReadAll_fn _ sd sd).callQ rfl ?_)
     | (refine (sSubstOk_fn _ (by assumption) sd).calls rfl ?_)
     | (refine (sSubstOk_fn _ (by assumption) sd).callQ rfl ?_)
     | (refine ⟨sd, ?_⟩)
     | (refine ⟨by assumption, ?_⟩)) <;> (try simp only [go_sem, seval, hmap]))
    | assumption)
   refine AW.adopt 8 5 65 (by decide) rfl ?_
   refine AW.lp [6, 7] (fun u : Nat × Nat × List Bd => [(9, .d (.int .i64 (u.1 : Int))), (8, .own 0 u.2.1)]) (fun _ u => [.grow u.2.1 5 65 (u.2.2.map Bd.enc)]) (fun u => u.1 ≤ l.length ∧ u.1 % 2 = 0 ∧ (match prs (l.drop u.1) with | some b => some (u.2.2 ++ b) | none => none) = R ∧ u.2.2.length ≤ u.1) (fun u => l.length - u.1) (0, 0, []) ⟨Nat.zero_le _, rfl, by simp only [List.drop_zero, List.nil_append]; rw [hR]; cases R <;> rfl, Nat.le_refl _⟩ (by refine ⟨by simp [mkS], by simp [mkS], by simp only [mkS, List.all_cons, List.all_nil, O.refsLt, C.refsLt, C.refsLt1, all_dmap]; first | done | rfl | (simp; done), ?_⟩; simp [mkS, Abs.get, C.refsLtT, C.refsLt, C.refsLt1]) ?_
   rintro ⟨i, q, acc⟩ ⟨hi, he, hinv, hacc⟩ hnext
   dsimp only at hi he hinv hacc hnext ⊢
   have w1 : IntKind.i64.wrap ((i : Int) + 1) = (i : Int) + 1 := wrap_ok (by omega) (by omega)
   have e1 : ((i : Int) + 1).toNat = i + 1 := by omega
   have hmapB : (acc.map Bd.enc).length = acc.length := List.length_map _
   by_cases h : i + 1 < l.length
   ·have n1 : (i : Int) + 1 < (l.length : Int) := by omega
    have n2 : (i : Int) < (l.length : Int) := by omega
    obtain ⟨x, hx⟩ : ∃ x, l[i]? = some x := ⟨_, List.getElem?_eq_getElem (by omega)⟩
    obtain ⟨t, htt⟩ : ∃ t, l[i + 1]? = some t := ⟨_, List.getElem?_eq_getElem h⟩
    have hd : l.drop i = x :: t :: l.drop (i + 2) := by
     rw [List.drop_eq_getElem_cons (by omega), List.drop_eq_getElem_cons h]
     rw [List.getElem?_eq_getElem (by omega)] at hx
     rw [List.getElem?_eq_getElem h] at htt
     rw [Option.some.inj hx, Option.some.inj htt]
    rw [hd] at hinv
    by_cases hk : x.kind = 1
    ·obtain ⟨n, rfl⟩ := var_of hk
     rw [prs_var] at hinv
     have kv : (V.var n).kind = 1 := rfl
     have iv : (V.var n).int = n := rfl
     have hrow : (Bd.mk n t.tm).enc = .int .i64 n :: t.enc := rfl
     refine run_sound Tryd.func17 mixed 12 _ _ (by kernel_rfl) ?_
     simp only [go_sem, seval, run.eq_1, n1, n2, idx_of hx, idx_of htt, w1, e1, hmap, hmapB, kv, iv]
     repeat' (first
      | ((first | (refine br_n (fun hq => ?_) (fun hq => ?_)) | (refine idx_intro (fun x hx => have hq := hx; ?_))) <;> (try simp only [go_sem, seval, n1, n2, idx_of hx, idx_of htt, w1, e1, hmap, hmapB, kv, iv, run.eq_1, hq]))
      | (simp (disch := omega) only [wrap_ok])
      | ((first
       | (refine (l03ReadAll_fn _ sd sd).calls rfl ?_)
       | (refine (l03ReadAll_fn _ sd sd).callQ rfl ?_)
       | (refine (sSubstOk_fn _ (by assumption) sd).calls rfl ?_)
       | (refine (sSubstOk_fn _ (by assumption) sd).callQ rfl ?_)
       | (refine ⟨sd, ?_⟩)
       | (refine ⟨by assumption, ?_⟩)) <;> (try simp only [go_sem, seval, n1, n2, idx_of hx, idx_of htt, w1, e1, hmap, hmapB, kv, iv, run.eq_1]))
      | assumption)
     refine AW.drawA mixed #[true, true, true, true, true, true, true, true, true, true, true, true, true, false, false] [] [] [0, 1, 2, 3, 4, 5, 6, 7, 8, 9, 10, 11, 12] [13, 14] none (by kernel_rfl) trivial (by simp [holdsB]) ?_
     simp only [go_sem, seval, idx_of hx, idx_of htt, w1, e1, hmap, hmapB, kv, iv, V.enc_eq t]
     refine ⟨by omega, by omega, by omega, by omega, by omega, ?_⟩
     have w2 : IntKind.i64.wrap ((i : Int) + 2) = (i : Int) + 2 := wrap_ok (by omega) (by omega)
     refine run_sound Tryd.func17 mixed 200 _ _ (by kernel_rfl) ?_
     simp only [go_sem, seval, w2]
     refine hnext (i + 2, q + 1, acc ++ [⟨n, t.tm⟩]) _ ⟨by dsimp only; omega, by dsimp only; omega, ?_, by simp; omega⟩ (by dsimp only; omega) (by refine ⟨by simp [mkS, hrow, V.enc_eq t], by simp [mkS, hrow, V.enc_eq t], by simp only [mkS, List.all_cons, List.all_nil, O.refsLt, C.refsLt, C.refsLt1, all_dmap]; first | done | rfl | (simp; done), ?_⟩; simp [mkS, Abs.get, C.refsLtT, C.refsLt, C.refsLt1])
     dsimp only
     rw [← hinv]
     cases prs (l.drop (i + 2)) <;> simp
    ·rw [prs_not hk] at hinv
     rw [← hinv]
     refine run_sound Tryd.func17 mixed 200 _ _ (by kernel_rfl) ?_
     simp only [go_sem, seval, n1, n2, idx_of hx, idx_of htt, w1, e1, hmap, hmapB, hk]
     repeat' (first
      | ((first | (refine br_n (fun hq => ?_) (fun hq => ?_)) | (refine idx_intro (fun x hx => have hq := hx; ?_))) <;> (try simp only [go_sem, seval, n1, n2, idx_of hx, idx_of htt, w1, e1, hmap, hmapB, hk, hq]))
      | (simp (disch := omega) only [wrap_ok])
      | ((first
       | (refine (l03ReadAll_fn _ sd sd).calls rfl ?_)
       | (refine (l03ReadAll_fn _ sd sd).callQ rfl ?_)
       | (refine (sSubstOk_fn _ (by assumption) sd).calls rfl ?_)
       | (refine (sSubstOk_fn _ (by assumption) sd).callQ rfl ?_)
       | (refine ⟨sd, ?_⟩)
       | (refine ⟨by assumption, ?_⟩)) <;> (try simp only [go_sem, seval, n1, n2, idx_of hx, idx_of htt, w1, e1, hmap, hmapB, hk]))
      | assumption)
     all_goals first | rfl | (exfalso; exact hk (by assumption))
   ·have n1 : ¬ (i : Int) + 1 < (l.length : Int) := by omega
    by_cases hl2 : i = l.length
    ·rw [hl2, List.drop_length, show prs [] = some [] from rfl] at hinv
     simp only [List.append_nil] at hinv
     have hev : (l.length : Int).tmod 2 = 0 := by rw [Int.tmod_eq_emod_of_nonneg (by omega)]; omega
     obtain ⟨b1, b2⟩ := hRw acc hinv.symm
     have hs := sSubstOk_fn acc b1 (by omega)
     rw [← hinv]
     unfold chkB
     dsimp only
     cases hb : substB acc with
     | true =>
      rw [hb] at hs
      rw [if_pos rfl, sbC_some]
      refine run_sound Tryd.func17 mixed 200 _ _ (by kernel_rfl) ?_
      simp only [go_sem, seval, n1, w1, hmap, hev]
      repeat' (first
       | ((first | (refine br_n (fun hq => ?_) (fun hq => ?_)) | (refine idx_intro (fun x hx => have hq := hx; ?_))) <;> (try simp only [go_sem, seval, n1, w1, hmap, hev, hq]))
       | (simp (disch := omega) only [wrap_ok])
       | ((first
        | (refine hs.calls rfl ?_)
        | (refine hs.callQ rfl ?_)
        | (refine (l03ReadAll_fn _ sd sd).calls rfl ?_)
        | (refine (l03ReadAll_fn _ sd sd).callQ rfl ?_)
        | (refine (sSubstOk_fn _ (by assumption) sd).calls rfl ?_)
        | (refine (sSubstOk_fn _ (by assumption) sd).callQ rfl ?_)
        | (refine ⟨sd, ?_⟩)
        | (refine ⟨by assumption, ?_⟩)) <;> (try simp only [go_sem, seval, n1, w1, hmap, hev]))
       | assumption)
     | false =>
      rw [hb] at hs
      rw [if_neg (by simp), sbC_none]
      refine run_sound Tryd.func17 mixed 200 _ _ (by kernel_rfl) ?_
      simp only [go_sem, seval, n1, w1, hmap, hev]
      repeat' (first
       | ((first | (refine br_n (fun hq => ?_) (fun hq => ?_)) | (refine idx_intro (fun x hx => have hq := hx; ?_))) <;> (try simp only [go_sem, seval, n1, w1, hmap, hev, hq]))
       | (simp (disch := omega) only [wrap_ok])
       | ((first
        | (refine hs.calls rfl ?_)
        | (refine hs.callQ rfl ?_)
        | (refine (l03ReadAll_fn _ sd sd).calls rfl ?_)
        | (refine (l03ReadAll_fn _ sd sd).callQ rfl ?_)
        | (refine (sSubstOk_fn _ (by assumption) sd).calls rfl ?_)
        | (refine (sSubstOk_fn _ (by assumption) sd).callQ rfl ?_)
        | (refine ⟨sd, ?_⟩)
        | (refine ⟨by assumption, ?_⟩)) <;> (try simp only [go_sem, seval, n1, w1, hmap, hev]))
       | assumption)
    ·obtain ⟨x, hx⟩ : ∃ x, l.drop i = [x] := by
      rw [List.drop_eq_getElem_cons (by omega), List.drop_eq_nil_of_le (by omega)]; exact ⟨_, rfl⟩
     rw [hx, prs_one] at hinv
     have hev : ¬ (l.length : Int).tmod 2 = 0 := by rw [Int.tmod_eq_emod_of_nonneg (by omega)]; omega
     rw [← hinv]
     refine run_sound Tryd.func17 mixed 200 _ _ (by kernel_rfl) ?_
     simp only [go_sem, seval, n1, w1, hmap, hev]
     repeat' (first
      | ((first | (refine br_n (fun hq => ?_) (fun hq => ?_)) | (refine idx_intro (fun x hx => have hq := hx; ?_))) <;> (try simp only [go_sem, seval, n1, w1, hmap, hev, hq]))
      | (simp (disch := omega) only [wrap_ok])
      | ((first
       | (refine (l03ReadAll_fn _ sd sd).calls rfl ?_)
       | (refine (l03ReadAll_fn _ sd sd).callQ rfl ?_)
       | (refine (sSubstOk_fn _ (by assumption) sd).calls rfl ?_)
       | (refine (sSubstOk_fn _ (by assumption) sd).callQ rfl ?_)
       | (refine ⟨sd, ?_⟩)
       | (refine ⟨by assumption, ?_⟩)) <;> (try simp only [go_sem, seval, n1, w1, hmap, hev]))
      | assumption)
     all_goals first | rfl | (exfalso; exact hev (by assumption))
end Go.Proofs.YtccphilpfmfagaaDoor
