import Derived.Test.YtccphilpfmfagaaDoorW50
import Derived.Test.YtccphilpfmfagaaDoorW79
import Derived.Test.YtccphilpfmfagaaDoorW2
import Derived.Test.YtccphilpfmfagaaDoorP8
import Derived.Test.YtccphilpfmfagaaDoorP11
namespace Go.Proofs.YtccphilpfmfagaaDoor
open Go.Abs
set_option maxRecDepth 100000
set_option maxHeartbeats 4000000
set_option linter.unusedSimpArgs false
set_option linter.unusedVariables false
theorem itoa_fn (n : Int) (h0 : -1000000000 ≤ n) (h1 : n ≤ 1000000000) : ACalls Tryd.prog 75 [.d (.int .i64 n)] [tabO] (fun c H' => c = .d (.str (dec n)) ∧ H' = [tabO]) :=
 itoa_calls (P := Tryd.prog) (tx := dec) (fun n a b w h => Tryd.strconv_Itoa n a b w h) (by kernel_rfl) (by decide) n (by omega) (by omega)
theorem impl_FormatInt_fn (n : Int) (h0 : -1000000000 ≤ n) (h1 : n ≤ 1000000000) : ACalls Tryd.prog 51 [.d (.int .i64 n)] [tabO] (fun c H' => c = .d (.str (dec n)) ∧ H' = [tabO]) := by
 refine ACalls.enter (fn := Tryd.f51) Tryd.func51 rfl (by show 1 ≤ _; decide) ?_
 refine run_sound Tryd.func51 mixed 200 _ _ (by kernel_rfl) ?_
 simp only [go_sem, seval]
 repeat' (first
  | ((first | (refine br_n (fun hq => ?_) (fun hq => ?_)) | (refine idx_intro (fun x hx => have hq := hx; ?_))) <;> (try simp only [go_sem, seval, hq]))
  | (simp (disch := omega) only [wrap_ok])
  | ((first
   | (refine (itoa_fn n h0 h1).mono ?_ <;> (rintro c H' ⟨rfl, rfl⟩))
   | (refine ⟨sd, ?_⟩)
   | (refine ⟨by assumption, ?_⟩)) <;> (try simp only [go_sem, seval]))
  | assumption)
theorem refs3 (m : Nat) (cs : List D) (T : Nat) (bs : List UInt8) : [tabO, .box (cs.map .d), .bld T 5 bs].all (O.refsLt m) = true := by
 show (tabO.refsLt m && ((cs.map C.d).all (C.refsLt m) && (true && true))) = true
 rw [all_dmap, tabO_refs]; rfl
theorem refs4 (m : Nat) (cs ds : List D) (T : Nat) (bs : List UInt8) : [tabO, .box (cs.map .d), .bld T 5 bs, .box (ds.map .d)].all (O.refsLt m) = true := by
 show (tabO.refsLt m && ((cs.map C.d).all (C.refsLt m) && (true && ((ds.map C.d).all (C.refsLt m) && true)))) = true
 rw [all_dmap, all_dmap, tabO_refs]; rfl
theorem writeTerm_fn : ∀ (k : Nat) (v : V), v.size ≤ k → k ≤ 5000 → v.fine = true → ∀ (cs : List D) (bs : List UInt8), bs.length + v.txt.length ≤ 1000000000 →
  ACalls Tryd.prog 28 [.ptr 2 0, .d (.agg v.enc)] [tabO, .box (cs.map .d), .bld 57 5 bs] (fun c H' => c = .tup [] ∧ H' = [tabO, .box (cs.map .d), .bld 57 5 (bs ++ v.txt)]) := by
 intro k
 induction k with
 | zero => intro v h; have := v.size_pos; omega
 | succ k ih =>
  intro v hs hk hf cs bs hbs
  have hmx : maxLen = 9223372036854775807 := rfl
  cases v with
  | nil =>
   refine ACalls.enter (fn := Tryd.f28) Tryd.func28 rfl (by show 2 ≤ _; decide) ?_
   refine run_sound Tryd.func28 mixed 200 _ _ (by kernel_rfl) ?_
   simp only [go_sem, seval, all_dmap, V.enc_nil]
   repeat' (first
    | ((first | (refine br_n (fun hq => ?_) (fun hq => ?_)) | (refine idx_intro (fun x hx => have hq := hx; ?_))) <;> (try simp only [go_sem, seval, all_dmap, V.enc_nil, hq]))
    | (simp (disch := omega) only [wrap_ok])
    | ((first
     | (refine bws_calls bws_exact rfl (by first | omega | (simp; omega)) (by first | omega | (simp; omega)) ?_)
     | (refine ⟨sd, ?_⟩)
     | (refine ⟨by assumption, ?_⟩)) <;> (try simp only [go_sem, seval, all_dmap, V.enc_nil]))
    | assumption)
   all_goals rfl
  | var n =>
   have hf' : 0 ≤ n ∧ n ≤ 100000 := by simpa [V.fine] using hf
   have hl := dec_len (n := n) (by omega) (by omega)
   refine ACalls.enter (fn := Tryd.f28) Tryd.func28 rfl (by show 2 ≤ _; decide) ?_
   refine run_sound Tryd.func28 mixed 200 _ _ (by kernel_rfl) ?_
   simp only [go_sem, seval, all_dmap, V.enc_var]
   repeat' (first
    | ((first | (refine br_n (fun hq => ?_) (fun hq => ?_)) | (refine idx_intro (fun x hx => have hq := hx; ?_))) <;> (try simp only [go_sem, seval, all_dmap, V.enc_var, hq]))
    | (simp (disch := omega) only [wrap_ok])
    | ((first
     | (refine bws_calls bws_exact rfl (by first | omega | (simp; omega)) (by first | omega | (simp; omega)) ?_)
     | (refine (impl_FormatInt_fn n (by omega) (by omega)).frame (X := [_, _, _]) rfl rfl ?_ <;> (rintro c H' ⟨rfl, rfl⟩ _))
     | (refine ⟨sd, ?_⟩)
     | (refine ⟨by assumption, ?_⟩)) <;> (try simp only [go_sem, seval, all_dmap, V.enc_var]))
    | assumption)
   all_goals rfl
  | sym s =>
   have := isName_len (s := s) hf
   refine ACalls.enter (fn := Tryd.f28) Tryd.func28 rfl (by show 2 ≤ _; decide) ?_
   refine run_sound Tryd.func28 mixed 200 _ _ (by kernel_rfl) ?_
   simp only [go_sem, seval, all_dmap, V.enc_sym]
   repeat' (first
    | ((first | (refine br_n (fun hq => ?_) (fun hq => ?_)) | (refine idx_intro (fun x hx => have hq := hx; ?_))) <;> (try simp only [go_sem, seval, all_dmap, V.enc_sym, hq]))
    | (simp (disch := omega) only [wrap_ok])
    | ((first
     | (refine bws_calls bws_exact rfl (by first | omega | (simp; omega)) (by first | omega | (simp; omega)) ?_)
     | (refine ⟨sd, ?_⟩)
     | (refine ⟨by assumption, ?_⟩)) <;> (try simp only [go_sem, seval, all_dmap, V.enc_sym]))
    | assumption)
   all_goals rfl
  | num n =>
   have hf' : -1000000000 ≤ n ∧ n ≤ 1000000000 := by simpa [V.fine] using hf
   have hl := dec_len (n := n) (by omega) (by omega)
   refine ACalls.enter (fn := Tryd.f28) Tryd.func28 rfl (by show 2 ≤ _; decide) ?_
   refine run_sound Tryd.func28 mixed 200 _ _ (by kernel_rfl) ?_
   simp only [go_sem, seval, all_dmap, V.enc_num]
   repeat' (first
    | ((first | (refine br_n (fun hq => ?_) (fun hq => ?_)) | (refine idx_intro (fun x hx => have hq := hx; ?_))) <;> (try simp only [go_sem, seval, all_dmap, V.enc_num, hq]))
    | (simp (disch := omega) only [wrap_ok])
    | ((first
     | (refine bws_calls bws_exact rfl (by first | omega | (simp; omega)) (by first | omega | (simp; omega)) ?_)
     | (refine (impl_FormatInt_fn n (by omega) (by omega)).frame (X := [_, _, _]) rfl rfl ?_ <;> (rintro c H' ⟨rfl, rfl⟩ _))
     | (refine ⟨sd, ?_⟩)
     | (refine ⟨by assumption, ?_⟩)) <;> (try simp only [go_sem, seval, all_dmap, V.enc_num]))
    | assumption)
   all_goals rfl
  | pair a b =>
   have hN := (V.txs_len _ hf).1
   have hf2 : a.fine = true ∧ b.fine = true := by simpa [V.fine] using hf
   have hsz : a.size + b.size < k + 1 := by simp only [V.size] at hs; omega
   have htx := V.txt_pair a b
   simp only [V.size] at hN hs
   generalize (V.pair a b).txt = N at hN htx hbs ⊢
   have hb := b.size_pos
   have hla := congrArg List.length htx
   simp only [List.length_cons, List.length_append] at hla
   refine ACalls.enter (fn := Tryd.f28) Tryd.func28 rfl (by show 2 ≤ _; decide) ?_
   refine run_sound Tryd.func28 mixed 200 _ _ (by kernel_rfl) ?_
   simp only [go_sem, seval, all_dmap, V.enc_pair]
   repeat' (first
    | ((first | (refine br_n (fun hq => ?_) (fun hq => ?_)) | (refine idx_intro (fun x hx => have hq := hx; ?_))) <;> (try simp only [go_sem, seval, all_dmap, V.enc_pair, hq]))
    | (simp (disch := omega) only [wrap_ok])
    | ((first
     | (refine bws_calls bws_exact rfl (by first | omega | (simp; omega)) (by first | omega | (simp; omega)) ?_)
     | (refine (ih a (by omega) (by omega) hf2.1 _ _ (by first | omega | (simp; omega))).frame (X := [_]) rfl (refs3 _ _ _ _) ?_ <;> (rintro c H' ⟨rfl, rfl⟩ _))
     | (refine ⟨sd, ?_⟩)
     | (refine ⟨by assumption, ?_⟩)) <;> (try simp only [go_sem, seval, all_dmap, V.enc_pair]))
    | assumption)
   refine AW.lp [0, 3] (fun _ : V × List UInt8 => []) (fun _ p => [tabO, .box (cs.map .d), .bld 57 5 p.2, .box (p.1.enc.map .d)]) (fun p => p.1.fine = true ∧ p.1.size ≤ b.size ∧ p.2 ++ p.1.tl = bs ++ N) (fun p => p.1.size) (b, bs ++ 40 :: a.txt) ⟨hf2.2, Nat.le_refl _, by rw [htx]; simp⟩ (by refine ⟨by simp [mkS], by simp [mkS], by exact refs4 _ _ _ _ _, ?_⟩; simp [mkS, Abs.get, C.refsLtT, C.refsLt, C.refsLt1]) ?_
   rintro ⟨u, acc⟩ ⟨i1, i2, i3⟩ hnext
   dsimp only at i1 i2 i3 hnext ⊢
   have hla2 := congrArg List.length i3
   simp only [List.length_append] at hla2
   cases u with
   | pair x y =>
    have hf3 : x.fine = true ∧ y.fine = true := by simpa [V.fine] using i1
    have hs3 : x.size + y.size + 1 ≤ b.size := by simp only [V.size] at i2; omega
    have := y.size_pos
    rw [V.tl_pair] at i3 hla2
    simp only [List.length_cons, List.length_append] at hla2
    refine run_sound Tryd.func28 mixed 200 _ _ (by kernel_rfl) ?_
    simp only [go_sem, seval, all_dmap, V.enc_pair]
    repeat' (first
     | ((first | (refine br_n (fun hq => ?_) (fun hq => ?_)) | (refine idx_intro (fun x hx => have hq := hx; ?_))) <;> (try simp only [go_sem, seval, all_dmap, V.enc_pair, hq]))
     | (simp (disch := omega) only [wrap_ok])
     | (refine hnext (y, acc ++ [32] ++ x.txt) _ ⟨hf3.2, by dsimp only; omega, by rw [← i3]; simp⟩ (by simp only [V.size]; omega) (by refine ⟨by simp [mkS], by simp [mkS], by exact refs4 _ _ _ _ _, ?_⟩; simp [mkS, Abs.get, C.refsLtT, C.refsLt, C.refsLt1]))
     | ((first
      | (refine bws_calls bws_exact rfl (by first | omega | (simp; omega)) (by first | omega | (simp; omega)) ?_)
      | (refine (ih x (by omega) (by omega) hf3.1 _ _ (by first | omega | (simp; omega))).frame (X := [_]) rfl (refs3 _ _ _ _) ?_ <;> (rintro c H' ⟨rfl, rfl⟩ _))
      | (refine ⟨sd, ?_⟩)
      | (refine ⟨by assumption, ?_⟩)) <;> (try simp only [go_sem, seval, all_dmap, V.enc_pair]))
     | assumption)
   | nil =>
    rw [V.tl_nil] at i3 hla2
    simp only [List.length_cons, List.length_append, List.length_nil] at hla2
    refine run_sound Tryd.func28 mixed 200 _ _ (by kernel_rfl) ?_
    simp only [go_sem, seval, all_dmap, V.enc_nil]
    repeat' (first
     | ((first | (refine br_n (fun hq => ?_) (fun hq => ?_)) | (refine idx_intro (fun x hx => have hq := hx; ?_))) <;> (try simp only [go_sem, seval, all_dmap, V.enc_nil, hq]))
     | (simp (disch := omega) only [wrap_ok])
     | ((first
      | (refine bws_calls bws_exact rfl (by first | omega | (simp; omega)) (by first | omega | (simp; omega)) ?_)
      | (refine ⟨sd, ?_⟩)
      | (refine ⟨by assumption, ?_⟩)) <;> (try simp only [go_sem, seval, all_dmap, V.enc_nil]))
     | assumption)
    all_goals (rw [← i3])
   | _ =>
    rw [V.tl_atom (by simp [V.kind]) (by simp [V.kind])] at i3 hla2
    simp only [List.length_cons, List.length_append, List.length_nil] at hla2
    refine run_sound Tryd.func28 mixed 200 _ _ (by kernel_rfl) ?_
    simp only [go_sem, seval, all_dmap, V.enc_var, V.enc_sym, V.enc_num]
    repeat' (first
     | ((first | (refine br_n (fun hq => ?_) (fun hq => ?_)) | (refine idx_intro (fun x hx => have hq := hx; ?_))) <;> (try simp only [go_sem, seval, all_dmap, V.enc_var, V.enc_sym, V.enc_num, hq]))
     | (simp (disch := omega) only [wrap_ok])
     | ((first
      | (refine bws_calls bws_exact rfl (by first | omega | (simp; omega)) (by first | omega | (simp; omega)) ?_)
      | (refine (ih (.var _) (by simp only [V.size] at *; omega) (by omega) i1 _ _ (by first | omega | (simp; omega))).frame (X := [_]) rfl (refs3 _ _ _ _) ?_ <;> (rintro c H' ⟨rfl, rfl⟩ _))
      | (refine (ih (.sym _) (by simp only [V.size] at *; omega) (by omega) i1 _ _ (by first | omega | (simp; omega))).frame (X := [_]) rfl (refs3 _ _ _ _) ?_ <;> (rintro c H' ⟨rfl, rfl⟩ _))
      | (refine (ih (.num _) (by simp only [V.size] at *; omega) (by omega) i1 _ _ (by first | omega | (simp; omega))).frame (X := [_]) rfl (refs3 _ _ _ _) ?_ <;> (rintro c H' ⟨rfl, rfl⟩ _))
      | (refine ⟨sd, ?_⟩)
      | (refine ⟨by assumption, ?_⟩)) <;> (try simp only [go_sem, seval, all_dmap, V.enc_var, V.enc_sym, V.enc_num]))
     | assumption)
    all_goals (rw [← i3]; simp)
theorem FormatTerm_fn (t : Tm) (hw : wtL t.enc ≤ 1048576) : ACalls Tryd.prog 8 [.d (.agg t.enc)] [tabO] (fun c H' => c = .d (.str (if tmOk t = true then t.V.txt else [])) ∧ H' = [tabO]) := by
 refine ACalls.enter (fn := Tryd.f8) Tryd.func8 rfl (by show 1 ≤ _; decide) ?_
 refine run_sound Tryd.func8 mixed 8 _ _ (by kernel_rfl) ?_
 simp only [go_sem, seval, run.eq_1]
 repeat' (first
  | ((first | (refine br_n (fun hq => ?_) (fun hq => ?_)) | (refine idx_intro (fun x hx => have hq := hx; ?_))) <;> (try simp only [go_sem, seval, run.eq_1, hq]))
  | (simp (disch := omega) only [wrap_ok])
  | ((first
   | (refine (iTermOk_fn _ sd).calls rfl ?_)
   | (refine ⟨sd, ?_⟩)
   | (refine ⟨by assumption, ?_⟩)) <;> (try simp only [go_sem, seval, run.eq_1]))
  | assumption)
 ·refine run_sound Tryd.func8 mixed 200 _ _ (by kernel_rfl) ?_
  simp only [go_sem, seval]
  repeat' (first
   | ((first | (refine br_n (fun hq => ?_) (fun hq => ?_)) | (refine idx_intro (fun x hx => have hq := hx; ?_))) <;> (try simp only [go_sem, seval, hq]))
   | (simp (disch := omega) only [wrap_ok])
   | ((first
    | (refine (iTermOk_fn _ sd).calls rfl ?_)
    | (refine ⟨sd, ?_⟩)
    | (refine ⟨by assumption, ?_⟩)) <;> (try simp only [go_sem, seval]))
   | assumption)
 obtain ⟨v, rfl, hv⟩ := tmOk_of (t := t) (by simp_all)
 have hv2 : v.fine = true ∧ v.size ≤ 5000 := by simpa [V.ok] using hv
 have hN := V.txt_len hv
 have hne := V.txt_ne hv2.1
 have hV : v.tm.V = v := by simp [Tm.V, V.v?_tm v hv2.1]
 rw [hV]
 refine AW.newBld 5 rfl rfl rfl rfl (by decide) rfl rfl (by decide) ?_ ?_
 ·simp only [go_sem, seval]
 simp only [go_sem, seval]
 refine run_sound Tryd.func8 mixed 200 _ _ (by kernel_rfl) ?_
 simp only [go_sem, seval, all_dmap]
 repeat' (first
  | ((first | (refine br_n (fun hq => ?_) (fun hq => ?_)) | (refine idx_intro (fun x hx => have hq := hx; ?_))) <;> (try simp only [go_sem, seval, all_dmap, hq]))
  | (simp (disch := omega) only [wrap_ok])
  | ((first
   | (refine (writeTerm_fn 5000 v hv2.2 (by decide) hv2.1 _ _ (by simp; omega)).frame (X := []) rfl (refs3 _ _ _ _) ?_ <;> (rintro c H' ⟨rfl, rfl⟩ _))
   | (refine bstr_calls bstr_exact rfl hne ?_)
   | (refine (iTermOk_fn _ sd).calls rfl ?_)
   | (refine ⟨sd, ?_⟩)
   | (refine ⟨by assumption, ?_⟩)) <;> (try simp only [go_sem, seval, all_dmap]))
  | assumption)
theorem FormatTermV_fn (v : V) (hv : v.ok = true) : ACalls Tryd.prog 8 [.d (.agg v.enc)] [tabO] (fun c H' => c = .d (.str v.txt) ∧ H' = [tabO]) := by
 have h2 : v.fine = true ∧ v.size ≤ 5000 := by simpa [V.ok] using hv
 have h := FormatTerm_fn v.tm (by have := ok_wtV hv; unfold V.enc at this; omega)
 rw [tmOk_V, if_pos hv, show v.tm.V = v from by simp [Tm.V, V.v?_tm v h2.1]] at h
 exact h
end Go.Proofs.YtccphilpfmfagaaDoor
