import Derived.Test.YtgmfoklmkpdjdaaW141
namespace Go.Abs
theorem nbT_len : ∀ (r ns out R : List (List UInt8)) (c : Nat), nbT r ns out = some (R, c) → ns.length + r.length ≤ 20000 → (∀ t, t ∈ r → t.length ≤ 100000) → (∀ t, t ∈ out → t.length ≤ 100000) → R.length = out.length + r.length ∧ c ≤ ns.length + r.length ∧ ∀ t, t ∈ R → t.length ≤ 100000
 | [], ns, out, R, c, h, _, _, ho => by
  simp only [nbT] at h
  cases h
  exact ⟨by simp, by simp, ho⟩
 | t :: r, ns, out, R, c, h, hl, hr, ho => by
  simp only [List.length_cons] at hl
  simp only [nbT] at h
  have hr' : ∀ t, t ∈ r → t.length ≤ 100000 := fun x hx => hr x (by simp [hx])
  split at h
  ·obtain ⟨i1, i2, i3⟩ := nbT_len r ns (out ++ [t]) R c h (by omega) hr' (fun x hx => by
    rcases List.mem_append.1 hx with hx | hx
    ·exact ho x hx
    ·simp at hx; subst hx; exact hr x (by simp))
   simp only [List.length_append, List.length_cons, List.length_nil] at i1 ⊢
   exact ⟨by omega, by omega, i3⟩
  ·split at h
   ·have hfi : ns.findIdx (fun x => x == t) ≤ ns.length := List.findIdx_le_length
    have hdl := dec_len (n := (ns.findIdx (fun x => x == t) : Nat)) (by omega) (by omega)
    have hns : (if t ∈ ns then ns else ns ++ [t]).length ≤ ns.length + 1 := by split <;> simp
    obtain ⟨i1, i2, i3⟩ := nbT_len r _ _ R c h (by omega) hr' (fun x hx => by
     rcases List.mem_append.1 hx with hx | hx
     ·exact ho x hx
     ·simp at hx; subst hx; simp; omega)
    simp only [List.length_append, List.length_cons, List.length_nil] at i1 ⊢
    exact ⟨by omega, by omega, i3⟩
   ·cases h
theorem prm_at (T : List (List UInt8)) : ∀ (n a b : Nat), a ≤ b → b < a + prmT T n a → T[4 + b]? = some (63 :: dec (b : Nat))
 | 0, a, b, h1, h2 => by simp only [prmT] at h2; omega
 | n + 1, a, b, h1, h2 => by
  simp only [prmT] at h2
  split at h2
  ·rename_i h
   by_cases e : b = a
   ·subst e; exact h
   ·exact prm_at T n (a + 1) b (by omega) (by omega)
  ·omega
theorem dfT_inv {all : List (List UInt8)} {r : Rl} (h : dfT all = some r) : ∃ T c a g j, nbT all [] [] = some (T, c) ∧ 6 ≤ T.length ∧ T[1]? = some [100, 101, 102, 105, 110, 101] ∧ T[2]? = some [40] ∧ (∀ b, b < a → T[4 + b]? = some (63 :: dec (b : Nat))) ∧ T[4 + a]? = some [41] ∧ rgT T (2 * T.length + 1) (5 + a) = some (g, j) ∧ j + 1 = T.length ∧ r = ⟨T.getD 3 [], (a : Int), (c : Int) - (a : Int), g⟩ := by
 unfold dfT at h
 cases hn : nbT all [] [] with
 | none => rw [hn] at h; cases h
 | some x =>
  obtain ⟨T, c⟩ := x
  rw [hn] at h
  dsimp only at h
  by_cases h6 : T.length < 6
  ·rw [if_pos h6] at h; cases h
  ·rw [if_neg h6] at h
   by_cases h12 : T[1]? = some [100, 101, 102, 105, 110, 101] ∧ T[2]? = some [40]
   ·rw [if_pos h12] at h
    by_cases h4 : T[4 + prmT T T.length 0]? = some [41]
    ·rw [if_pos h4] at h
     cases hg : rgT T (2 * T.length + 1) (5 + prmT T T.length 0) with
     | none => rw [hg] at h; cases h
     | some y =>
      obtain ⟨g, j⟩ := y
      rw [hg] at h
      dsimp only at h
      by_cases hj : j + 1 = T.length
      ·rw [if_pos hj] at h
       cases h
       exact ⟨T, c, _, g, j, rfl, by omega, h12.1, h12.2, fun b hb => prm_at T T.length 0 b (Nat.zero_le _) (by omega), h4, hg, hj, rfl⟩
      ·rw [if_neg hj] at h; cases h
    ·rw [if_neg h4] at h; cases h
   ·rw [if_neg h12] at h; cases h
end Go.Abs
namespace Go.Proofs.Ytgmfoklmkpdjdaa
open Go.Abs
set_option maxRecDepth 100000
set_option maxHeartbeats 8000000
set_option linter.unusedSimpArgs false
set_option linter.unusedVariables false
theorem l15Define_fn (all : List (List UInt8)) (r : Rl) (hl : all.length ≤ 20000) (hm : ∀ t, t ∈ all → t ≠ [] ∧ t.length ≤ 100000) (h : dfT all = some r) : Gives Try.prog 24 [.sl (strD all)] (.tup [.d (.agg r.enc), .d (.bool true)]) := by
 have hmx : maxLen = 9223372036854775807 := rfl
 obtain ⟨T, c, a, g, j, h1, h6, hT1, hT2, hprm, hT4, hrg, hj, rfl⟩ := dfT_inv h
 have hnum := l15Number_fn all hl hm T c h1
 obtain ⟨k1, k2, k3⟩ := nbT_len all [] [] T c h1 (by simpa using hl) (fun t ht => (hm t ht).2) (fun t ht => by cases ht)
 simp only [List.length_nil, Nat.zero_add] at k1 k2
 have hal := (List.getElem?_eq_some_iff.1 hT4).1
 have hrd := l15Read_fn T (by omega) k3 _ (5 + a) g j (by omega) hrg
 obtain ⟨nm, hT3⟩ : ∃ nm, T[3]? = some nm := ⟨_, List.getElem?_eq_getElem (by omega)⟩
 have hnm : T.getD 3 [] = nm := by rw [List.getD_eq_getElem?_getD, hT3]; rfl
 rw [hnm]
 have x1 := strD_at hT1
 have x2 := strD_at hT2
 have x3 := strD_at hT3
 have x4 := strD_at hT4
 have n6 : ¬ (T.length : Int) < 6 := by omega
 have n1 : (1 : Int) < (T.length : Int) := by omega
 have n2 : (2 : Int) < (T.length : Int) := by omega
 have n3 : (3 : Int) < (T.length : Int) := by omega
 have hRe : (Rl.mk nm (a : Int) ((c : Int) - (a : Int)) g).enc = [.str nm, .int .i64 (a : Int), .int .i64 ((c : Int) - (a : Int)), .int .i64 g.kind, .str g.name, .sl (g.terms.map Tm.enc), .sl (g.goals.map Gl.enc)] := Rl.enc_eq _
 rw [hRe]
 refine ACalls.enter (fn := Try.f24) Try.func24 rfl (by show 1 ≤ _; decide) ?_
 refine run_sound Try.func24 mixed 200 _ _ (by kernel_rfl) ?_
 simp only [go_sem, seval, strD_len, n6, n1, n2, n3, idx_of x1, idx_of x2, idx_of x3]
 repeat' (first
  | ((first | (refine br_n (fun hq => ?_) (fun hq => ?_)) | (refine idx_intro (fun x hx => have hq := hx; ?_))) <;> (try simp only [go_sem, seval, strD_len, n6, n1, n2, n3, idx_of x1, idx_of x2, idx_of x3, hq]))
  | (simp (disch := omega) only [wrap_ok])
  | ((first
   | (refine hnum.calls rfl ?_)
   | (refine ⟨sd, ?_⟩)
   | (refine ⟨by assumption, ?_⟩)) <;> (try simp only [go_sem, seval, strD_len, n6, n1, n2, n3, idx_of x1, idx_of x2, idx_of x3]))
  | assumption)
 refine AW.lp [2, 4, 5, 7] (fun b : Nat => [(8, .d (.int .i64 ((4 + b : Nat) : Int)))]) (fun _ b => [.box [.d (.str []), .d (.int .i64 0), .d (.int .i64 0), .d (.int .i64 0), .d (.str []), .nil0, .nil0], .box [.d (.str nm), .d (.int .i64 (b : Int)), .d (.int .i64 0), .d (.int .i64 0), .d (.str []), .nil0, .nil0]]) (fun b => b ≤ a) (fun b => a - b) 0 (Nat.zero_le _) (by refine ⟨by simp [mkS], by simp [mkS], by simp only [mkS, List.all_cons, List.all_nil, O.refsLt, C.refsLt, C.refsLt1, all_dmap]; first | done | rfl | (simp; done), ?_⟩; simp [mkS, Abs.get, C.refsLtT, C.refsLt, C.refsLt1]) ?_
 intro b hb hnext
 have hf := formatN_fn b (by omega)
 have hdl := dec_len (n := (b : Int)) (by omega) (by omega)
 have m1 : ((4 + b : Nat) : Int) < (T.length : Int) := by omega
 have m1' : (4 : Int) + (b : Int) < (T.length : Int) := by omega
 have m2 : ¬ (T.length : Int) ≤ (4 : Int) + (b : Int) := by omega
 have hti : ((4 : Int) + (b : Int)).toNat = 4 + b := by omega
 have w8 : IntKind.i64.wrap ((4 : Int) + (b : Int) + 1) = (4 : Int) + ((b : Int) + 1) := by rw [wrap_ok (by omega) (by omega)]; omega
 have w1 : IntKind.i64.wrap ((b : Int) + 1) = (b : Int) + 1 := by simp (disch := omega) only [wrap_ok]
 by_cases hba : b < a
 ·have hat := strD_at (hprm b hba)
  refine run_sound Try.func24 mixed 200 _ _ (by kernel_rfl) ?_
  simp only [go_sem, seval, m1, m1', m2, hti, strD_len, idx_of hat, w8, w1]
  repeat' (first
   | ((first | (refine br_n (fun hq => ?_) (fun hq => ?_)) | (refine idx_intro (fun x hx => have hq := hx; ?_))) <;> (try simp only [go_sem, seval, m1, m1', m2, hti, strD_len, idx_of hat, w8, w1, hq]))
   | (simp (disch := omega) only [wrap_ok])
   | ((first
    | (refine hf.callQ rfl ?_)
    | (refine ⟨sd, ?_⟩)
    | (refine ⟨by assumption, ?_⟩)) <;> (try simp only [go_sem, seval, m1, m1', m2, hti, strD_len, idx_of hat, w8, w1]))
   | assumption)
  all_goals refine hnext (b + 1) _ hba (by omega) (by refine ⟨by simp [mkS], by simp [mkS], by simp only [mkS, List.all_cons, List.all_nil, O.refsLt, C.refsLt, C.refsLt1, all_dmap]; first | done | rfl | (simp; done), ?_⟩; simp [mkS, Abs.get, C.refsLtT, C.refsLt, C.refsLt1])
 ·obtain rfl : b = a := by omega
  have hne : ¬ ([41] : List UInt8) = 63 :: dec (b : Int) := by intro h; injection h with h1 h2; exact absurd h1 (by decide)
  have hrd' : Gives Try.prog 36 [.sl (strD T),   .int .i64 ((4 : Int) + ((b : Int) + 1))] (.tup [.d (.agg g.enc), .d (.int .i64 j), .d (.bool true)]) := by
   rw [show (4 : Int) + ((b : Int) + 1) = ((5 + b : Nat) : Int) by omega]; exact hrd
  have wc : IntKind.i64.wrap ((c : Int) - (b : Int)) = (c : Int) - (b : Int) := by simp (disch := omega) only [wrap_ok]
  have wt : IntKind.i64.wrap ((T.length : Int) - 1) = (j : Int) := by rw [wrap_ok (by omega) (by omega)]; omega
  have hge := Gl.enc_eq g
  refine run_sound Try.func24 mixed 200 _ _ (by kernel_rfl) ?_
  simp only [go_sem, seval, m1, m1', m2, hti, strD_len, idx_of x4, w8, w1, hne, wc, wt, hge]
  repeat' (first
   | ((first | (refine br_n (fun hq => ?_) (fun hq => ?_)) | (refine idx_intro (fun x hx => have hq := hx; ?_))) <;> (try simp only [go_sem, seval, m1, m1', m2, hti, strD_len, idx_of x4, w8, w1, hne, wc, wt, hge, hq]))
   | (simp (disch := omega) only [wrap_ok])
   | ((first
    | (refine hf.callQ rfl ?_)
    | (refine hrd'.calls rfl ?_)
    | (refine ⟨sd, ?_⟩)
    | (refine ⟨by assumption, ?_⟩)) <;> (try simp only [go_sem, seval, m1, m1', m2, hti, strD_len, idx_of x4, w8, w1, hne, wc, wt, hge]))
   | assumption)
end Go.Proofs.Ytgmfoklmkpdjdaa
