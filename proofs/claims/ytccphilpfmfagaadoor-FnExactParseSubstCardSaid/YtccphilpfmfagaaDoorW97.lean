import Derived.Test.YtccphilpfmfagaaDoorW95
import Derived.Test.YtccphilpfmfagaaDoorW87
namespace Go.Proofs.YtccphilpfmfagaaDoor
open Go.Abs
set_option maxRecDepth 100000
set_option maxHeartbeats 4000000
set_option linter.unusedSimpArgs false
set_option linter.unusedVariables false
def chkS (o : Option (List Bd)) : Option (List Bd) := match o with | some b => if substB b = true then some b else none | none => none
def sbR (lo : List O) (o : Option (List Bd)) (c : C) (H : List O) : Prop := match o with
 | some l => ∃ e B, c = .tup [.own 0 1, .d (.bool true)] ∧ H = .tree 1 5 e (l.map Bd.enc) B none :: lo
 | none => c = .tup [.d (.sl []), .d (.bool false)] ∧ H = .hole :: lo
theorem subL_all (T : List (List UInt8)) (n i : Nat) (b : List Bd) (h : subL T n i = some b) : (∀ x, x ∈ b → wtL x.to.enc ≤ 80000) ∧ b.length ≤ T.length - i := by
 unfold subL at h
 cases hA : rdA T n i with
 | none => rw [hA] at h; cases h
 | some l =>
  rw [hA] at h
  dsimp only at h
  refine ⟨fun x hx => ?_, Nat.le_trans (prs_len l b h) (rdA_len _ _ _ _ hA)⟩
  obtain ⟨v, h1, h2⟩ := prs_mem l b h x hx
  rw [h2]
  exact ok_wtV (List.all_eq_true.1 (rdA_ok _ _ _ _ hA) v h1)
theorem iParseSubst_T (s : List UInt8) (hs : s.length ≤ 1048576) (te tr : TypeId) (pe pr : Value) : ACalls Tryd.prog 18 [.d (.str s)] [.hole, tabO, synO te pe, ranO tr pr] (sbR [tabO, synO te pe, ranO tr pr] (psubV s)) := by
 have hmx : maxLen = 9223372036854775807 := rfl
 have ht := iTokens_fn s hs
 unfold psubV
 cases hT : tokV s with
 | none =>
  rw [hT] at ht
  unfold tkC at ht
  dsimp only at ht ⊢
  refine ACalls.enter (fn := Tryd.f18) Tryd.func18 rfl (by show 1 ≤ _; decide) ?_
  refine run_sound Tryd.func18 mixed 200 _ _ (by kernel_rfl) ?_
  simp only [go_sem, seval]
  repeat' (first
   | (exact ⟨rfl, rfl⟩)
   | ((first | (refine br_n (fun hq => ?_) (fun hq => ?_)) | (refine idx_intro (fun x hx => have hq := hx; ?_))) <;> (try simp only [go_sem, seval, hq]))
   | (simp (disch := omega) only [wrap_ok])
   | ((first
    | (refine ht.calls rfl ?_)
    | (refine ⟨sd, ?_⟩)
    | (refine ⟨by assumption, ?_⟩)) <;> (try simp only [go_sem, seval]))
   | assumption)
 | some T =>
  rw [hT] at ht
  unfold tkC at ht
  dsimp only at ht ⊢
  obtain ⟨k1, k2⟩ := tokV_mem hT
  show ACalls Tryd.prog 18 [.d (.str s)] [.hole, tabO, synO te pe, ranO tr pr] (sbR [tabO, synO te pe, ranO tr pr] (chkS (subL T (T.length + 1) 0)))
  obtain ⟨R, hR⟩ : ∃ R, subL T (T.length + 1) 0 = R := ⟨_, rfl⟩
  have hRw : ∀ b, R = some b → (∀ x, x ∈ b → wtL x.to.enc ≤ 8000000) ∧ b.length ≤ 9000000 := fun b hb => by
   obtain ⟨h1, h2⟩ := subL_all _ _ _ _ (hR.trans hb)
   exact ⟨fun x hx => Nat.le_trans (h1 x hx) (by decide), by omega⟩
  rw [hR]
  refine ACalls.enter (fn := Tryd.f18) Tryd.func18 rfl (by show 1 ≤ _; decide) ?_
  refine run_sound Tryd.func18 mixed 200 _ _ (by kernel_rfl) ?_
  simp only [go_sem, seval]
  repeat' (first
   | ((first | (refine br_n (fun hq => ?_) (fun hq => ?_)) | (refine idx_intro (fun x hx => have hq := hx; ?_))) <;> (try simp only [go_sem, seval, hq]))
   | (simp (disch := omega) only [wrap_ok])
   | ((first
    | (refine ht.calls rfl ?_)
    | (refine ⟨sd, ?_⟩)
    | (refine ⟨by assumption, ?_⟩)) <;> (try simp only [go_sem, seval]))
   | assumption)
  refine AW.adoptT 7 5 65 (by decide) rfl ?_
  refine AW.lp [6] (fun u : Nat × Nat × Nat × List Bd × (Nat → Prop) => [(7, .own 5 u.2.2.1)]) (fun _ u => [.hole, tabO, synO te pe, ranO tr pr, .box [.d (.sl (strD T)), .d (.int .i64 (u.2.1 : Int))], .tree u.2.2.1 5 65 (u.2.2.2.1.map Bd.enc) u.2.2.2.2 none]) (fun u => u.2.1 ≤ T.length ∧ T.length - u.2.1 + 1 ≤ u.1 ∧ (match subL T u.1 u.2.1 with | some l => some (u.2.2.2.1 ++ l) | none => none) = R ∧ u.2.2.2.1.length ≤ u.2.1) (fun u => T.length - u.2.1) (T.length + 1, 0, 0, [], fun _ => False) ⟨Nat.zero_le _, by dsimp only; omega, by dsimp only; rw [hR]; cases R <;> rfl, by simp⟩ (by refine ⟨by simp [mkS], by simp [mkS], by simp only [mkS, List.all_cons, List.all_nil, O.refsLt, C.refsLt, C.refsLt1, all_dmap]; first | done | rfl | (simp; done), ?_⟩; simp [mkS, Abs.get, C.refsLtT, C.refsLt, C.refsLt1]) ?_
  rintro ⟨m, j, q, L, B⟩ ⟨hj, hf, hi2, hL⟩ hnext
  dsimp only at hj hf hi2 hL hnext ⊢
  obtain ⟨m, rfl⟩ : ∃ m', m = m' + 1 := ⟨m - 1, by omega⟩
  have hmap : ∀ x : List Bd, (x.map Bd.enc).length = x.length := fun x => List.length_map _
  have hdn := done_R T j k1
  have hnx := fun j2 L' q' B' m' s' => hnext (m', j2, q', L', B') s'
  clear hnext
  dsimp only at hnx
  by_cases h : j < T.length
  ·rw [show decide ((j : Int) = (T.length : Int)) = false from by simp; omega] at hdn
   obtain ⟨m, rfl⟩ : ∃ m', m = m' + 1 := ⟨m - 1, by omega⟩
   have hg := okTerm_R T k1 k2 j hj te tr pe pr
   rw [rdO_big] at hg
   cases hr : rdO false T j with
   | none =>
    rw [subL_none h hr] at hi2
    rw [hr] at hg
    unfold tmR at hg
    dsimp only at hg hi2
    rw [← hi2]
    have hg2 := fun k (hk : k ≤ T.length) => okTerm_R T k1 k2 k hk te tr pe pr
    refine AW.hole ?_
    refine AW.hole ?_
    refine run_sound Tryd.func18 mixed 200 _ _ (by kernel_rfl) ?_
    simp only [go_sem, seval]
    repeat' (first
     | (exact ⟨rfl, rfl⟩)
     | ((first | (refine br_n (fun hq => ?_) (fun hq => ?_)) | (refine idx_intro (fun x hx => have hq := hx; ?_))) <;> (try simp only [go_sem, seval, tmW, tmF, tmP, hq]))
     | (simp (disch := omega) only [wrap_ok])
     | ((first
      | (refine (ACalls.emb hdn [4] rfl rfl rfl (by decide) rfl ?_) <;> (rintro c H' ⟨rfl, rfl⟩ _; refine ⟨rfl, rfl, ?_⟩))
      | (refine (ACalls.emb hg [6, 4, 1, 2, 3] rfl rfl rfl (by decide) rfl ?_) <;> (rintro c H' ⟨v0, k0, rfl, rfl, hkb⟩ _; have hg3 := hg2 k0 hkb; rcases hrr : rdO true T k0 with _ | ⟨v', j'⟩ <;> (rw [hrr] at hg3; unfold tmR at hg3; dsimp only at hg3; refine ⟨rfl, rfl, ?_⟩)))
      | (refine (ACalls.emb hg3 [7, 4, 1, 2, 3] rfl rfl rfl (by decide) rfl ?_) <;> (rintro c H' (⟨ez, Bz, rfl, rfl⟩ | ⟨kz, rfl, rfl⟩) _ <;> refine ⟨rfl, rfl, ?_⟩))
      | (refine (ACalls.emb hg3 [7, 4, 1, 2, 3] rfl rfl rfl (by decide) rfl ?_) <;> (rintro c H' ⟨v1, k3, rfl, rfl, hkb3⟩ _; refine ⟨rfl, rfl, ?_⟩))
      | (refine ⟨sd, ?_⟩)
      | (refine ⟨by assumption, ?_⟩)) <;> (try simp only [go_sem, seval, tmW, tmF, tmP]))
     | assumption)
    all_goals fail "N"
   | some x =>
    obtain ⟨v, j2⟩ := x
    rw [hr] at hg
    unfold tmR tmP at hg
    dsimp only at hg
    have hb := rdO_len hr
    have hg2 := okTerm_R T k1 k2 j2 hb.2.1 te tr pe pr
    rw [rdO_big] at hg2
    cases hr2 : rdO false T j2 with
    | none =>
     rw [subL_odd h hr hr2] at hi2
     dsimp only at hi2
     rw [← hi2]
     rw [hr2] at hg2
     unfold tmR at hg2
     dsimp only at hg2
     refine AW.hole ?_
     refine AW.hole ?_
     refine run_sound Tryd.func18 mixed 200 _ _ (by kernel_rfl) ?_
     simp only [go_sem, seval]
     repeat' (first
      | (exact ⟨rfl, rfl⟩)
      | ((first | (refine br_n (fun hq => ?_) (fun hq => ?_)) | (refine idx_intro (fun x hx => have hq := hx; ?_))) <;> (try simp only [go_sem, seval, tmW, tmF, tmP, hq]))
      | (simp (disch := omega) only [wrap_ok])
      | ((first
       | (refine (ACalls.emb hdn [4] rfl rfl rfl (by decide) rfl ?_) <;> (rintro c H' ⟨rfl, rfl⟩ _; refine ⟨rfl, rfl, ?_⟩))
       | (refine (ACalls.emb hg [6, 4, 1, 2, 3] rfl rfl rfl (by decide) rfl ?_) <;> (rintro c H' (⟨ez, Bz, rfl, rfl⟩ | ⟨kz, rfl, rfl⟩) _ <;> refine ⟨rfl, rfl, ?_⟩))
       | (refine (ACalls.emb hg2 [7, 4, 1, 2, 3] rfl rfl rfl (by decide) rfl ?_) <;> (rintro c H' ⟨v1, k3, rfl, rfl, hkb3⟩ _; refine ⟨rfl, rfl, ?_⟩))
       | (refine ⟨sd, ?_⟩)
       | (refine ⟨by assumption, ?_⟩)) <;> (try simp only [go_sem, seval, tmW, tmF, tmP]))
      | assumption)
     all_goals fail "O"
    | some y =>
     obtain ⟨t, j3⟩ := y
     have hb2 := rdO_len hr2
     have hj2 : j2 < T.length := by omega
     rw [hr2] at hg2
     unfold tmR tmP at hg2
     dsimp only at hg2
     by_cases hk : v.kind = 1
     ·obtain ⟨n, rfl⟩ := var_of hk
      have kv : (V.var n).kind = 1 := rfl
      have iv : (V.var n).int = n := rfl
      have hrow : (Bd.mk n t.tm).enc = .int .i64 n :: t.enc := rfl
      rw [subL_var h hr hj2 hr2] at hi2
      refine AW.hole ?_
      refine AW.hole ?_
      refine run_sound Tryd.func18 mixed 15 _ _ (by kernel_rfl) ?_
      simp only [go_sem, seval, run.eq_1]
      refine (ACalls.emb hdn [4] rfl rfl rfl (by decide) rfl ?_)
      rintro c H' ⟨rfl, rfl⟩ _
      refine ⟨rfl, rfl, ?_⟩
      simp only [go_sem, seval, tmW, tmF, tmP, kv, iv, run.eq_1]
      repeat' (first
       | ((first | (refine br_n (fun hq => ?_) (fun hq => ?_)) | (refine idx_intro (fun x hx => have hq := hx; ?_))) <;> (try simp only [go_sem, seval, tmW, tmF, tmP, kv, iv, run.eq_1, hq]))
       | (simp (disch := omega) only [wrap_ok])
       | ((first
        | (refine (ACalls.emb hg [6, 4, 1, 2, 3] rfl rfl rfl (by decide) rfl ?_) <;> (rintro c H' (⟨ez, Bz, rfl, rfl⟩ | ⟨kz, rfl, rfl⟩) _ <;> refine ⟨rfl, rfl, ?_⟩))
        | (refine (ACalls.emb hg2 [7, 4, 1, 2, 3] rfl rfl rfl (by decide) rfl ?_) <;> (rintro c H' (⟨ey, By, rfl, rfl⟩ | ⟨ky, rfl, rfl⟩) _ <;> refine ⟨rfl, rfl, ?_⟩))
        | (refine ⟨sd, ?_⟩)
        | (refine ⟨by assumption, ?_⟩)) <;> (try simp only [go_sem, seval, tmW, tmF, tmP, kv, iv, run.eq_1]))
       | assumption)
      all_goals first | (exfalso; exact absurd hk (by assumption)) | skip
      ·refine AW.regT ?_
       simp only [go_sem, seval, hmap]
       repeat' (first
        | ((first | (refine br_n (fun hq => ?_) (fun hq => ?_)) | (refine idx_intro (fun x hx => have hq := hx; ?_))) <;> (try simp only [go_sem, seval, hmap, hq]))
        | (simp (disch := omega) only [wrap_ok])
        | ((first
         | (refine all_intro (fun Bq => ?_))
         | (refine ⟨sd, ?_⟩)
         | (refine ⟨by assumption, ?_⟩)) <;> (try simp only [go_sem, seval, hmap]))
        | assumption)
       refine run_sound Tryd.func18 mixed 200 _ _ (by kernel_rfl) ?_
       simp only [go_sem, seval]
       refine hnx j3 (L ++ [⟨n, t.tm⟩]) (q + 1) Bq m _ ⟨by omega, by omega, ?_, by simp; omega⟩ (by omega) (by refine ⟨by simp [mkS, hrow, V.enc_eq t], by simp [mkS, hrow, V.enc_eq t], by simp only [mkS, List.all_cons, List.all_nil, O.refsLt, C.refsLt, C.refsLt1, all_dmap]; first | done | rfl | (simp; done), ?_⟩; simp [mkS, Abs.get, C.refsLtT, C.refsLt, C.refsLt1])
       rw [← hi2]
       cases subL T m j3 <;> simp
      ·refine AW.regT ?_
       simp only [go_sem, seval, hmap]
       repeat' (first
        | ((first | (refine br_n (fun hq => ?_) (fun hq => ?_)) | (refine idx_intro (fun x hx => have hq := hx; ?_))) <;> (try simp only [go_sem, seval, hmap, hq]))
        | (simp (disch := omega) only [wrap_ok])
        | ((first
         | (refine all_intro (fun Bq => ?_))
         | (refine ⟨sd, ?_⟩)
         | (refine ⟨by assumption, ?_⟩)) <;> (try simp only [go_sem, seval, hmap]))
        | assumption)
       refine run_sound Tryd.func18 mixed 200 _ _ (by kernel_rfl) ?_
       simp only [go_sem, seval]
       refine hnx j3 (L ++ [⟨n, t.tm⟩]) (q + 1) Bq m _ ⟨by omega, by omega, ?_, by simp; omega⟩ (by omega) (by refine ⟨by simp [mkS, hrow, V.enc_eq t, ky], by simp [mkS, hrow, V.enc_eq t, ky], by simp only [mkS, List.all_cons, List.all_nil, O.refsLt, C.refsLt, C.refsLt1, all_dmap]; first | done | rfl | (simp; done), ?_⟩; simp [mkS, Abs.get, C.refsLtT, C.refsLt, C.refsLt1])
       rw [← hi2]
       cases subL T m j3 <;> simp
      ·refine AW.regT ?_
       simp only [go_sem, seval, hmap]
       repeat' (first
        | ((first | (refine br_n (fun hq => ?_) (fun hq => ?_)) | (refine idx_intro (fun x hx => have hq := hx; ?_))) <;> (try simp only [go_sem, seval, hmap, hq]))
        | (simp (disch := omega) only [wrap_ok])
        | ((first
         | (refine all_intro (fun Bq => ?_))
         | (refine ⟨sd, ?_⟩)
         | (refine ⟨by assumption, ?_⟩)) <;> (try simp only [go_sem, seval, hmap]))
        | assumption)
       refine run_sound Tryd.func18 mixed 200 _ _ (by kernel_rfl) ?_
       simp only [go_sem, seval]
       refine hnx j3 (L ++ [⟨n, t.tm⟩]) (q + 1) Bq m _ ⟨by omega, by omega, ?_, by simp; omega⟩ (by omega) (by refine ⟨by simp [mkS, hrow, V.enc_eq t], by simp [mkS, hrow, V.enc_eq t], by simp only [mkS, List.all_cons, List.all_nil, O.refsLt, C.refsLt, C.refsLt1, all_dmap]; first | done | rfl | (simp; done), ?_⟩; simp [mkS, Abs.get, C.refsLtT, C.refsLt, C.refsLt1])
       rw [← hi2]
       cases subL T m j3 <;> simp
      ·refine AW.regT ?_
       simp only [go_sem, seval, hmap]
       repeat' (first
        | ((first | (refine br_n (fun hq => ?_) (fun hq => ?_)) | (refine idx_intro (fun x hx => have hq := hx; ?_))) <;> (try simp only [go_sem, seval, hmap, hq]))
        | (simp (disch := omega) only [wrap_ok])
        | ((first
         | (refine all_intro (fun Bq => ?_))
         | (refine ⟨sd, ?_⟩)
         | (refine ⟨by assumption, ?_⟩)) <;> (try simp only [go_sem, seval, hmap]))
        | assumption)
       refine run_sound Tryd.func18 mixed 200 _ _ (by kernel_rfl) ?_
       simp only [go_sem, seval]
       refine hnx j3 (L ++ [⟨n, t.tm⟩]) (q + 1) Bq m _ ⟨by omega, by omega, ?_, by simp; omega⟩ (by omega) (by refine ⟨by simp [mkS, hrow, V.enc_eq t, ky], by simp [mkS, hrow, V.enc_eq t, ky], by simp only [mkS, List.all_cons, List.all_nil, O.refsLt, C.refsLt, C.refsLt1, all_dmap]; first | done | rfl | (simp; done), ?_⟩; simp [mkS, Abs.get, C.refsLtT, C.refsLt, C.refsLt1])
       rw [← hi2]
       cases subL T m j3 <;> simp
     ·rw [subL_bad h hr hj2 hr2 hk] at hi2
      dsimp only at hi2
      rw [← hi2]
      refine AW.hole ?_
      refine AW.hole ?_
      refine run_sound Tryd.func18 mixed 200 _ _ (by kernel_rfl) ?_
      simp only [go_sem, seval, hk]
      repeat' (first
       | (exact ⟨rfl, rfl⟩)
       | ((first | (refine br_n (fun hq => ?_) (fun hq => ?_)) | (refine idx_intro (fun x hx => have hq := hx; ?_))) <;> (try simp only [go_sem, seval, tmW, tmF, tmP, hk, hq]))
       | (simp (disch := omega) only [wrap_ok])
       | ((first
        | (refine (ACalls.emb hdn [4] rfl rfl rfl (by decide) rfl ?_) <;> (rintro c H' ⟨rfl, rfl⟩ _; refine ⟨rfl, rfl, ?_⟩))
        | (refine (ACalls.emb hg [6, 4, 1, 2, 3] rfl rfl rfl (by decide) rfl ?_) <;> (rintro c H' (⟨ez, Bz, rfl, rfl⟩ | ⟨kz, rfl, rfl⟩) _ <;> refine ⟨rfl, rfl, ?_⟩))
        | (refine (ACalls.emb hg2 [7, 4, 1, 2, 3] rfl rfl rfl (by decide) rfl ?_) <;> (rintro c H' (⟨ey, By, rfl, rfl⟩ | ⟨ky, rfl, rfl⟩) _ <;> refine ⟨rfl, rfl, ?_⟩))
        | (refine ⟨sd, ?_⟩)
        | (refine ⟨by assumption, ?_⟩)) <;> (try simp only [go_sem, seval, tmW, tmF, tmP, hk]))
       | assumption)
      all_goals (exfalso; exact hk (by assumption))
  ·rw [show decide ((j : Int) = (T.length : Int)) = true from by simp; omega] at hdn
   rw [subL_end (by omega)] at hi2
   simp only [List.append_nil] at hi2
   obtain ⟨b1, b2⟩ := hRw L hi2.symm
   have hso := iSubstOk_fn L b1 b2
   rw [← hi2]
   unfold chkS
   dsimp only
   cases hbs : substB L with
   | true =>
    rw [hbs] at hso
    rw [if_pos rfl]
    refine AW.place 7 5 0 rfl rfl rfl (by decide) ?_
    refine run_sound Tryd.func18 mixed 200 _ _ (by kernel_rfl) ?_
    simp only [go_sem, seval]
    repeat' (first
     | (exact ⟨_, _, rfl, rfl⟩)
     | ((first | (refine br_n (fun hq => ?_) (fun hq => ?_)) | (refine idx_intro (fun x hx => have hq := hx; ?_))) <;> (try simp only [go_sem, seval, hq]))
     | (simp (disch := omega) only [wrap_ok])
     | ((first
      | (refine (ACalls.emb hdn [4] rfl rfl rfl (by decide) rfl ?_) <;> (rintro c H' ⟨rfl, rfl⟩ _; refine ⟨rfl, rfl, ?_⟩))
      | (refine hso.lend rfl (by simp only [go_sem, seval]) ?_)
      | (refine ⟨sd, ?_⟩)
      | (refine ⟨by assumption, ?_⟩)) <;> (try simp only [go_sem, seval]))
     | assumption)
    all_goals fail "U"
   | false =>
    rw [hbs] at hso
    rw [if_neg (by simp)]
    refine run_sound Tryd.func18 mixed 200 _ _ (by kernel_rfl) ?_
    simp only [go_sem, seval]
    repeat' (first
     | (exact ⟨rfl, rfl⟩)
     | ((first | (refine br_n (fun hq => ?_) (fun hq => ?_)) | (refine idx_intro (fun x hx => have hq := hx; ?_))) <;> (try simp only [go_sem, seval, hq]))
     | (simp (disch := omega) only [wrap_ok])
     | ((first
      | (refine (ACalls.emb hdn [4] rfl rfl rfl (by decide) rfl ?_) <;> (rintro c H' ⟨rfl, rfl⟩ _; refine ⟨rfl, rfl, ?_⟩))
      | (refine hso.lend rfl (by simp only [go_sem, seval]) ?_)
      | (refine ⟨sd, ?_⟩)
      | (refine ⟨by assumption, ?_⟩)) <;> (try simp only [go_sem, seval]))
     | assumption)
    all_goals fail "W"
end Go.Proofs.YtccphilpfmfagaaDoor
