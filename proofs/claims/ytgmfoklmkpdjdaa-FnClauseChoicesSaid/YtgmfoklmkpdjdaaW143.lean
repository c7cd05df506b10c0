import Derived.Test.YtgmfoklmkpdjdaaW142
import Derived.Test.YtgmfoklmkpdjdaaW7
namespace Go.Proofs.Ytgmfoklmkpdjdaa
open Go.Abs
set_option maxRecDepth 100000
set_option maxHeartbeats 8000000
set_option linter.unusedSimpArgs false
set_option linter.unusedVariables false
theorem cur_snoc {T : List (List UInt8)} {i fr : Nat} {x : List UInt8} (hx : T[i]? = some x) (hf : fr ≤ i) : (T.take (i + 1)).drop fr = (T.take i).drop fr ++ [x] := by
 have hil := (List.getElem?_eq_some_iff.1 hx).1
 rw [List.take_add_one, hx, Option.toList_some, List.drop_append_of_le_length (by rw [List.length_take]; omega)]
theorem strD_one1 (T : List (List UInt8)) : ∀ x, x ∈ strD T → x.length = 1 := fun x hx => by
 unfold strD at hx
 obtain ⟨t, _, rfl⟩ := List.mem_map.1 hx
 rfl
theorem drop_take_self (T : List (List UInt8)) (k : Nat) : (T.take k).drop k = [] := List.drop_eq_nil_of_le (by rw [List.length_take]; omega)
theorem strD_sub (T : List (List UInt8)) (a b : Nat) : ((strD T).take b).drop a = strD ((T.take b).drop a) := by
 unfold strD; rw [List.map_drop, List.map_take]
theorem sParseProgram_fn (s : List UInt8) (hs : s.length ≤ 1048576) (T : List (List UInt8)) (rels : List Rl) (hT : tokV s = some T) (hl : T.length ≤ 20000) (hm : ∀ t, t ∈ T → t ≠ [] ∧ t.length ≤ 100000) (hp : ppT T [] 0 [] = some (rels, 0)) (hok : pgOk ⟨rels⟩ = true) (hw : wtL (Pg.mk rels).enc ≤ 9000000) : Gives Try.prog 9 [.str s] (.tup [.d (.agg (Pg.mk rels).enc), .d (.bool true)]) := by
 have hmx : maxLen = 9223372036854775807 := rfl
 have htk := sTokens_fn s hs
 rw [hT] at htk
 unfold tkC at htk
 dsimp only at htk
 have hPe : (Pg.mk rels).enc = [.sl (rels.map Rl.enc)] := Pg.enc_eq _
 have hpo := sProgramOk_fn ⟨rels⟩ hw
 rw [hok, hPe] at hpo
 rw [hPe]
 refine ACalls.enter (fn := Try.f9) Try.func9 rfl (by show 1 ≤ _; decide) ?_
 refine run_sound Try.func9 mixed 200 _ _ (by kernel_rfl) ?_
 simp only [go_sem, seval, strD_len]
 repeat' (first
  | ((first | (refine br_n (fun hq => ?_) (fun hq => ?_)) | (refine idx_intro (fun x hx => have hq := hx; ?_))) <;> (try simp only [go_sem, seval, strD_len, hq]))
  | (simp (disch := omega) only [wrap_ok])
  | ((first
   | (refine htk.calls rfl ?_)
   | (refine (sProgramOk_fn _ sd).calls rfl ?_)
   | (refine ⟨sd, ?_⟩)
   | (refine ⟨by assumption, ?_⟩)) <;> (try simp only [go_sem, seval, strD_len]))
  | assumption)
 refine AW.adoptGB 1 0 7 32 (by decide) rfl rfl ?_
 refine AW.rng T [2, 4, 6, 22, 23] 24 22 (fun u : Nat × Int × Nat × List Rl => [(7, .d (.int .i64 (u.1 : Int))), (8, .d (.int .i64 u.2.1))]) (fun _ u => [.box [.nil0], .box [.own 2 u.2.2.1], .grow u.2.2.1 7 32 (u.2.2.2.map Rl.enc)]) (fun r u => u.1 ≤ T.length - r.length ∧ (r.length : Int) ≤ u.2.1 + T.length ∧ u.2.1 + r.length ≤ T.length ∧ ppT r ((T.take (T.length - r.length)).drop u.1) u.2.1 u.2.2.2 = some (rels, 0) ∧ u.2.2.2.length ≤ T.length - r.length) (0, 0, 0, []) rfl (by simp [strD_len]) ⟨by simp, by dsimp only; omega, by dsimp only; omega, by simpa using hp, by simp⟩ (by refine ⟨by simp [mkS], by simp [mkS], by simp only [mkS, List.all_cons, List.all_nil, O.refsLt, C.refsLt, C.refsLt1, all_dmap]; first | done | rfl | (simp; done), ?_⟩; simp [mkS, Abs.get, C.refsLtT, C.refsLt, C.refsLt1]) (fun i x r u hxi hdr hlt hmm hinv hnext => ?_) (fun u hinv => ?_)
 ·obtain ⟨fr, d, q, L⟩ := u
  obtain ⟨i2, i3, i4, i1, i5⟩ := hinv
  dsimp only [List.length_cons] at i1 i2 i3 i4 i5 hnext ⊢
  have hnx := fun a b c e s' => hnext (a, b, c, e) s'
  clear hnext
  have hil := (List.getElem?_eq_some_iff.1 hxi).1
  have hrl := congrArg List.length hdr
  simp only [List.length_drop, List.length_cons] at hrl
  have hi : T.length - (r.length + 1) = i := by omega
  have hj : T.length - r.length = i + 1 := by omega
  rw [hi] at i1 i2
  have hfi : fr ≤ i := i2
  have hxx := strD_at hxi
  have wi : IntKind.i64.wrap ((i : Int) + 1) = (i : Int) + 1 := by simp (disch := omega) only [wrap_ok]
  have hfr : (fr : Int) ≤ (i : Int) + 1 := by omega
  have hil1 : (i : Int) + 1 ≤ (T.length : Int) := by omega
  have hin : ((i : Int) + 1).toNat = i + 1 := by omega
  simp only [ppT] at i1
  by_cases h40 : x = [40]
  ·rw [if_pos h40] at i1
   have wd : IntKind.i64.wrap (d + 1) = d + 1 := by simp (disch := omega) only [wrap_ok]
   have e1 : ¬ ([40] : List UInt8) = [41] := by decide
   have hnx' := hnx
   by_cases hd : 0 < d + 1
   ·rw [if_pos hd] at i1
    refine run_sound Try.func9 mixed 200 _ _ (by kernel_rfl) ?_
    simp only [go_sem, seval, hlt, strD_len, idx_of hxx, wi, hd, h40, wd, e1]
    repeat' (first
     | ((first | (refine br_n (fun hq => ?_) (fun hq => ?_)) | (refine idx_intro (fun x hx => have hq := hx; ?_))) <;> (try simp only [go_sem, seval, hlt, strD_len, idx_of hxx, wi, hd, h40, wd, e1, hq]))
     | (simp (disch := omega) only [wrap_ok])
     | ((first
      | (refine (sProgramOk_fn _ sd).calls rfl ?_)
      | (refine ⟨sd, ?_⟩)
      | (refine ⟨by assumption, ?_⟩)) <;> (try simp only [go_sem, seval, hlt, strD_len, idx_of hxx, wi, hd, h40, wd, e1]))
     | assumption)
    all_goals refine hnx fr (d + 1) q L _ ⟨by dsimp only; omega, by dsimp only; omega, by dsimp only; omega, by dsimp only; rw [hj]; rw [← cur_snoc hxi hfi] at i1; exact i1, by dsimp only; omega⟩ (by refine ⟨by simp [mkS], by simp [mkS], by simp only [mkS, List.all_cons, List.all_nil, O.refsLt, C.refsLt, C.refsLt1, all_dmap]; first | done | rfl | (simp; done), ?_⟩; simp [mkS, Abs.get, C.refsLtT, C.refsLt, C.refsLt1])
   ·rw [if_neg hd] at i1
    cases hdf : dfT ((T.take i).drop fr ++ [x]) with
    | none => rw [hdf] at i1; cases i1
    | some y =>
     rw [hdf] at i1
     dsimp only at i1
     have hdef := l15Define_fn ((T.take i).drop fr ++ [x]) y (by rw [← cur_snoc hxi hfi]; simp; omega) (fun t ht => hm t (by rw [← cur_snoc hxi hfi] at ht; exact List.mem_of_mem_take (List.mem_of_mem_drop ht))) hdf
     rw [← cur_snoc hxi hfi, ← strD_sub] at hdef
     have hye := Rl.enc_eq y
     refine run_sound Try.func9 mixed 200 _ _ (by kernel_rfl) ?_
     simp only [go_sem, seval, hlt, strD_len, idx_of hxx, wi, hd, hfr, hil1, hin, h40, wd, e1]
     repeat' (first
      | (refine ⟨strD_one1 T, ?_⟩ <;> (try simp only [go_sem, seval, hlt, strD_len, idx_of hxx, wi, hd, hfr, hil1, hin, h40, wd, e1]))
      | ((first | (refine br_n (fun hq => ?_) (fun hq => ?_)) | (refine idx_intro (fun x hx => have hq := hx; ?_))) <;> (try simp only [go_sem, seval, hlt, strD_len, idx_of hxx, wi, hd, hfr, hil1, hin, h40, wd, e1, hq]))
      | (simp (disch := omega) only [wrap_ok])
      | ((first
       | (refine hdef.calls rfl ?_)
       | (refine (sProgramOk_fn _ sd).calls rfl ?_)
       | (refine ⟨sd, ?_⟩)
       | (refine ⟨by assumption, ?_⟩)) <;> (try simp only [go_sem, seval, hlt, strD_len, idx_of hxx, wi, hd, hfr, hil1, hin, h40, wd, e1]))
      | assumption)
     all_goals refine hnx (i + 1) (d + 1) (q + 1) (L ++ [y]) _ ⟨by dsimp only; omega, by dsimp only; omega, by dsimp only; omega, by dsimp only; rw [hj, drop_take_self]; exact i1, by dsimp only; rw [List.length_append]; dsimp only [List.length_cons, List.length_nil]; omega⟩ (by refine ⟨by simp [mkS, hye], by simp [mkS, hye], by simp only [mkS, List.all_cons, List.all_nil, O.refsLt, C.refsLt, C.refsLt1, all_dmap]; first | done | rfl | (simp; done), ?_⟩; simp [mkS, Abs.get, C.refsLtT, C.refsLt, C.refsLt1])
  ·rw [if_neg h40] at i1
   by_cases h41 : x = [41]
   ·rw [if_pos h41] at i1
    have wd : IntKind.i64.wrap (d - 1) = d - 1 := by simp (disch := omega) only [wrap_ok]
    have e1 : ¬ ([41] : List UInt8) = [40] := by decide
    have hnx' := hnx
    by_cases hd : 0 < d - 1
    ·rw [if_pos hd] at i1
     refine run_sound Try.func9 mixed 200 _ _ (by kernel_rfl) ?_
     simp only [go_sem, seval, hlt, strD_len, idx_of hxx, wi, hd, h41, wd, e1]
     repeat' (first
      | ((first | (refine br_n (fun hq => ?_) (fun hq => ?_)) | (refine idx_intro (fun x hx => have hq := hx; ?_))) <;> (try simp only [go_sem, seval, hlt, strD_len, idx_of hxx, wi, hd, h41, wd, e1, hq]))
      | (simp (disch := omega) only [wrap_ok])
      | ((first
       | (refine (sProgramOk_fn _ sd).calls rfl ?_)
       | (refine ⟨sd, ?_⟩)
       | (refine ⟨by assumption, ?_⟩)) <;> (try simp only [go_sem, seval, hlt, strD_len, idx_of hxx, wi, hd, h41, wd, e1]))
      | assumption)
     all_goals refine hnx fr (d - 1) q L _ ⟨by dsimp only; omega, by dsimp only; omega, by dsimp only; omega, by dsimp only; rw [hj]; rw [← cur_snoc hxi hfi] at i1; exact i1, by dsimp only; omega⟩ (by refine ⟨by simp [mkS], by simp [mkS], by simp only [mkS, List.all_cons, List.all_nil, O.refsLt, C.refsLt, C.refsLt1, all_dmap]; first | done | rfl | (simp; done), ?_⟩; simp [mkS, Abs.get, C.refsLtT, C.refsLt, C.refsLt1])
    ·rw [if_neg hd] at i1
     cases hdf : dfT ((T.take i).drop fr ++ [x]) with
     | none => rw [hdf] at i1; cases i1
     | some y =>
      rw [hdf] at i1
      dsimp only at i1
      have hdef := l15Define_fn ((T.take i).drop fr ++ [x]) y (by rw [← cur_snoc hxi hfi]; simp; omega) (fun t ht => hm t (by rw [← cur_snoc hxi hfi] at ht; exact List.mem_of_mem_take (List.mem_of_mem_drop ht))) hdf
      rw [← cur_snoc hxi hfi, ← strD_sub] at hdef
      have hye := Rl.enc_eq y
      refine run_sound Try.func9 mixed 200 _ _ (by kernel_rfl) ?_
      simp only [go_sem, seval, hlt, strD_len, idx_of hxx, wi, hd, hfr, hil1, hin, h41, wd, e1]
      repeat' (first
       | (refine ⟨strD_one1 T, ?_⟩ <;> (try simp only [go_sem, seval, hlt, strD_len, idx_of hxx, wi, hd, hfr, hil1, hin, h41, wd, e1]))
       | ((first | (refine br_n (fun hq => ?_) (fun hq => ?_)) | (refine idx_intro (fun x hx => have hq := hx; ?_))) <;> (try simp only [go_sem, seval, hlt, strD_len, idx_of hxx, wi, hd, hfr, hil1, hin, h41, wd, e1, hq]))
       | (simp (disch := omega) only [wrap_ok])
       | ((first
        | (refine hdef.calls rfl ?_)
        | (refine (sProgramOk_fn _ sd).calls rfl ?_)
        | (refine ⟨sd, ?_⟩)
        | (refine ⟨by assumption, ?_⟩)) <;> (try simp only [go_sem, seval, hlt, strD_len, idx_of hxx, wi, hd, hfr, hil1, hin, h41, wd, e1]))
       | assumption)
      all_goals refine hnx (i + 1) (d - 1) (q + 1) (L ++ [y]) _ ⟨by dsimp only; omega, by dsimp only; omega, by dsimp only; omega, by dsimp only; rw [hj, drop_take_self]; exact i1, by dsimp only; rw [List.length_append]; dsimp only [List.length_cons, List.length_nil]; omega⟩ (by refine ⟨by simp [mkS, hye], by simp [mkS, hye], by simp only [mkS, List.all_cons, List.all_nil, O.refsLt, C.refsLt, C.refsLt1, all_dmap]; first | done | rfl | (simp; done), ?_⟩; simp [mkS, Abs.get, C.refsLtT, C.refsLt, C.refsLt1])
   ·rw [if_neg h41] at i1
    have hnx' := hnx
    by_cases hd : 0 < d
    ·rw [if_pos hd] at i1
     refine run_sound Try.func9 mixed 200 _ _ (by kernel_rfl) ?_
     simp only [go_sem, seval, hlt, strD_len, idx_of hxx, wi, hd, h40, h41]
     repeat' (first
      | ((first | (refine br_n (fun hq => ?_) (fun hq => ?_)) | (refine idx_intro (fun x hx => have hq := hx; ?_))) <;> (try simp only [go_sem, seval, hlt, strD_len, idx_of hxx, wi, hd, h40, h41, hq]))
      | (simp (disch := omega) only [wrap_ok])
      | ((first
       | (refine (sProgramOk_fn _ sd).calls rfl ?_)
       | (refine ⟨sd, ?_⟩)
       | (refine ⟨by assumption, ?_⟩)) <;> (try simp only [go_sem, seval, hlt, strD_len, idx_of hxx, wi, hd, h40, h41]))
      | assumption)
     all_goals refine hnx fr (d) q L _ ⟨by dsimp only; omega, by dsimp only; omega, by dsimp only; omega, by dsimp only; rw [hj]; rw [← cur_snoc hxi hfi] at i1; exact i1, by dsimp only; omega⟩ (by refine ⟨by simp [mkS], by simp [mkS], by simp only [mkS, List.all_cons, List.all_nil, O.refsLt, C.refsLt, C.refsLt1, all_dmap]; first | done | rfl | (simp; done), ?_⟩; simp [mkS, Abs.get, C.refsLtT, C.refsLt, C.refsLt1])
    ·rw [if_neg hd] at i1
     cases hdf : dfT ((T.take i).drop fr ++ [x]) with
     | none => rw [hdf] at i1; cases i1
     | some y =>
      rw [hdf] at i1
      dsimp only at i1
      have hdef := l15Define_fn ((T.take i).drop fr ++ [x]) y (by rw [← cur_snoc hxi hfi]; simp; omega) (fun t ht => hm t (by rw [← cur_snoc hxi hfi] at ht; exact List.mem_of_mem_take (List.mem_of_mem_drop ht))) hdf
      rw [← cur_snoc hxi hfi, ← strD_sub] at hdef
      have hye := Rl.enc_eq y
      refine run_sound Try.func9 mixed 200 _ _ (by kernel_rfl) ?_
      simp only [go_sem, seval, hlt, strD_len, idx_of hxx, wi, hd, hfr, hil1, hin, h40, h41]
      repeat' (first
       | (refine ⟨strD_one1 T, ?_⟩ <;> (try simp only [go_sem, seval, hlt, strD_len, idx_of hxx, wi, hd, hfr, hil1, hin, h40, h41]))
       | ((first | (refine br_n (fun hq => ?_) (fun hq => ?_)) | (refine idx_intro (fun x hx => have hq := hx; ?_))) <;> (try simp only [go_sem, seval, hlt, strD_len, idx_of hxx, wi, hd, hfr, hil1, hin, h40, h41, hq]))
       | (simp (disch := omega) only [wrap_ok])
       | ((first
        | (refine hdef.calls rfl ?_)
        | (refine (sProgramOk_fn _ sd).calls rfl ?_)
        | (refine ⟨sd, ?_⟩)
        | (refine ⟨by assumption, ?_⟩)) <;> (try simp only [go_sem, seval, hlt, strD_len, idx_of hxx, wi, hd, hfr, hil1, hin, h40, h41]))
       | assumption)
      all_goals refine hnx (i + 1) (d) (q + 1) (L ++ [y]) _ ⟨by dsimp only; omega, by dsimp only; omega, by dsimp only; omega, by dsimp only; rw [hj, drop_take_self]; exact i1, by dsimp only; rw [List.length_append]; dsimp only [List.length_cons, List.length_nil]; omega⟩ (by refine ⟨by simp [mkS, hye], by simp [mkS, hye], by simp only [mkS, List.all_cons, List.all_nil, O.refsLt, C.refsLt, C.refsLt1, all_dmap]; first | done | rfl | (simp; done), ?_⟩; simp [mkS, Abs.get, C.refsLtT, C.refsLt, C.refsLt1])
 ·obtain ⟨fr, d, q, L⟩ := u
  obtain ⟨i2, i3, i4, i1, i5⟩ := hinv
  dsimp only at i1 ⊢
  simp only [ppT] at i1
  cases i1
  refine run_sound Try.func9 mixed 200 _ _ (by kernel_rfl) ?_
  simp only [go_sem, seval, strD_len]
  repeat' (first
   | ((first | (refine br_n (fun hq => ?_) (fun hq => ?_)) | (refine idx_intro (fun x hx => have hq := hx; ?_))) <;> (try simp only [go_sem, seval, strD_len, hq]))
   | (simp (disch := omega) only [wrap_ok])
   | ((first
    | (refine hpo.callQ rfl ?_)
    | (refine hpo.calls rfl ?_)
    | (refine (sProgramOk_fn _ sd).calls rfl ?_)
    | (refine ⟨sd, ?_⟩)
    | (refine ⟨by assumption, ?_⟩)) <;> (try simp only [go_sem, seval, strD_len]))
   | assumption)
end Go.Proofs.Ytgmfoklmkpdjdaa
