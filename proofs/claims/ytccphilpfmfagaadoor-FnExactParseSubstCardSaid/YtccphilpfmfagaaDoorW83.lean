import Derived.Test.YtccphilpfmfagaaDoorW79
import Derived.Test.YtccphilpfmfagaaDoorW78
import Derived.Test.YtccphilpfmfagaaDoorA9
namespace Go.Proofs.YtccphilpfmfagaaDoor
open Go.Abs
set_option maxRecDepth 100000
set_option maxHeartbeats 4000000
set_option linter.unusedSimpArgs false
set_option linter.unusedVariables false
def tmW (u : V) (x : C) : C := .agg [.d (.int .i64 u.kind), .d (.int .i64 u.int), .d (.str u.name), x]
def tmF (u : V) : C := .d (.agg [.int .i64 u.kind, .int .i64 u.int, .str u.name, .sl []])
def prO (a b : V) (X : List O) (c : C) (H : List O) : Prop := ∃ e B, c = tmW (.pair a b) (.own 0 1) ∧ H = .tree 1 4 e ((V.pair a b).kids.map V.enc) B none :: X
def tmO (w : C → C) (u : V) (X : List O) (c : C) (H : List O) : Prop :=
 (∃ e B, c = w (tmW u (.own 0 1)) ∧ H = .tree 1 4 e (u.kids.map V.enc) B none :: X) ∨ (u.kids = [] ∧ c = w (tmF u) ∧ H = .hole :: X)
theorem variable_fn (n : Int) : Gives Tryd.prog 70 [.int .i64 n] (.d (.agg (V.var n).enc)) := by
 have hE : (V.var n).enc = [.int .i64 1, .int .i64 n, .str [], .sl []] := by rw [V.enc_eq]; rfl
 rw [hE]
 refine ACalls.enter (fn := Tryd.f70) Tryd.func70 rfl (by show 1 ≤ _; decide) ?_
 refine run_sound Tryd.func70 mixed 200 _ _ (by kernel_rfl) ?_
 simp only [go_sem, seval]
 repeat' (first
  | ((first | (refine br_n (fun hq => ?_) (fun hq => ?_)) | (refine idx_intro (fun x hx => have hq := hx; ?_))) <;> (try simp only [go_sem, seval, hq]))
  | (simp (disch := omega) only [wrap_ok])
  | ((first
   | (refine ⟨sd, ?_⟩)
   | (refine ⟨by assumption, ?_⟩)) <;> (try simp only [go_sem, seval]))
  | assumption)
theorem pair_dd (a b : V) (ha : a.kids = []) (hb : b.kids = []) : ACalls Tryd.prog 68 [tmF a, tmF b] [.hole] (fun c H' => prO a b [] c H') := by
 have hP : (V.pair a b).kids.map V.enc = [[.int .i64 a.kind, .int .i64 a.int, .str a.name, .sl []], [.int .i64 b.kind, .int .i64 b.int, .str b.name, .sl []]] := by
  show [a.enc, b.enc] = _
  rw [V.enc_eq a, V.enc_eq b, ha, hb]; rfl
 first | unfold tmW tmF | unfold tmW | unfold tmF
 refine ACalls.enter (fn := Tryd.f68) Tryd.func68 rfl (by show 2 ≤ _; decide) ?_
 refine run_sound Tryd.func68 mixed 3 _ _ (by kernel_rfl) ?_
 simp only [go_sem, seval, run.eq_1]
 repeat' (first
  | ((first | (refine br_n (fun hq => ?_) (fun hq => ?_)) | (refine idx_intro (fun x hx => have hq := hx; ?_))) <;> (try simp only [go_sem, seval, run.eq_1, hq]))
  | (simp (disch := omega) only [wrap_ok])
  | ((first
   | (refine ⟨sd, ?_⟩)
   | (refine ⟨by assumption, ?_⟩)) <;> (try simp only [go_sem, seval, run.eq_1]))
  | assumption)
 refine AW.regL ?_
 simp only [go_sem, seval]
 repeat' (first
  | ((first | (refine br_n (fun hq => ?_) (fun hq => ?_)) | (refine idx_intro (fun x hx => have hq := hx; ?_))) <;> (try simp only [go_sem, seval, hq]))
  | (simp (disch := omega) only [wrap_ok])
  | ((first
   | (refine all_intro (fun Bz => ?_))
   | (refine ⟨sd, ?_⟩)
   | (refine ⟨by assumption, ?_⟩)) <;> (try simp only [go_sem, seval]))
  | assumption)
 refine AW.placeB 3 3 4 0 rfl rfl rfl rfl (by decide) ?_
 refine run_sound Tryd.func68 mixed 200 _ _ (by kernel_rfl) ?_
 simp only [go_sem, seval]
 repeat' (first
  | (exact ⟨26, Bz, rfl, by rw [hP]⟩)
  | ((first | (refine br_n (fun hq => ?_) (fun hq => ?_)) | (refine idx_intro (fun x hx => have hq := hx; ?_))) <;> (try simp only [go_sem, seval, hq]))
  | (simp (disch := omega) only [wrap_ok])
  | ((first
   | (refine ⟨sd, ?_⟩)
   | (refine ⟨by assumption, ?_⟩)) <;> (try simp only [go_sem, seval]))
  | assumption)
theorem pair_od (a b : V) (q e : Nat) (B : Nat → Prop) (hb : b.kids = []) : ACalls Tryd.prog 68 [tmW a (.own 1 q), tmF b] [.hole, .tree q 4 e (a.kids.map V.enc) B none] (fun c H' => prO a b [.dead] c H') := by
 have hP : (V.pair a b).kids.map V.enc = [[.int .i64 a.kind, .int .i64 a.int, .str a.name, .sl (a.kids.map V.enc)], [.int .i64 b.kind, .int .i64 b.int, .str b.name, .sl []]] := by
  show [a.enc, b.enc] = _
  rw [V.enc_eq a, V.enc_eq b, hb]; rfl
 first | unfold tmW tmF | unfold tmW | unfold tmF
 refine ACalls.enter (fn := Tryd.f68) Tryd.func68 rfl (by show 2 ≤ _; decide) ?_
 refine run_sound Tryd.func68 mixed 3 _ _ (by kernel_rfl) ?_
 simp only [go_sem, seval, run.eq_1]
 repeat' (first
  | ((first | (refine br_n (fun hq => ?_) (fun hq => ?_)) | (refine idx_intro (fun x hx => have hq := hx; ?_))) <;> (try simp only [go_sem, seval, run.eq_1, hq]))
  | (simp (disch := omega) only [wrap_ok])
  | ((first
   | (refine ⟨sd, ?_⟩)
   | (refine ⟨by assumption, ?_⟩)) <;> (try simp only [go_sem, seval, run.eq_1]))
  | assumption)
 refine AW.regL ?_
 simp only [go_sem, seval]
 repeat' (first
  | ((first | (refine br_n (fun hq => ?_) (fun hq => ?_)) | (refine idx_intro (fun x hx => have hq := hx; ?_))) <;> (try simp only [go_sem, seval, hq]))
  | (simp (disch := omega) only [wrap_ok])
  | ((first
   | (refine all_intro (fun Bz => ?_))
   | (refine ⟨sd, ?_⟩)
   | (refine ⟨by assumption, ?_⟩)) <;> (try simp only [go_sem, seval]))
  | assumption)
 refine AW.placeB 4 3 5 0 rfl rfl rfl rfl (by decide) ?_
 refine run_sound Tryd.func68 mixed 200 _ _ (by kernel_rfl) ?_
 simp only [go_sem, seval]
 repeat' (first
  | (exact ⟨26, Bz, rfl, by rw [hP]⟩)
  | ((first | (refine br_n (fun hq => ?_) (fun hq => ?_)) | (refine idx_intro (fun x hx => have hq := hx; ?_))) <;> (try simp only [go_sem, seval, hq]))
  | (simp (disch := omega) only [wrap_ok])
  | ((first
   | (refine ⟨sd, ?_⟩)
   | (refine ⟨by assumption, ?_⟩)) <;> (try simp only [go_sem, seval]))
  | assumption)
theorem pair_do (a b : V) (q e : Nat) (B : Nat → Prop) (ha : a.kids = []) : ACalls Tryd.prog 68 [tmF a, tmW b (.own 1 q)] [.hole, .tree q 4 e (b.kids.map V.enc) B none] (fun c H' => prO a b [.dead] c H') := by
 have hP : (V.pair a b).kids.map V.enc = [[.int .i64 a.kind, .int .i64 a.int, .str a.name, .sl []], [.int .i64 b.kind, .int .i64 b.int, .str b.name, .sl (b.kids.map V.enc)]] := by
  show [a.enc, b.enc] = _
  rw [V.enc_eq a, V.enc_eq b, ha]; rfl
 first | unfold tmW tmF | unfold tmW | unfold tmF
 refine ACalls.enter (fn := Tryd.f68) Tryd.func68 rfl (by show 2 ≤ _; decide) ?_
 refine run_sound Tryd.func68 mixed 3 _ _ (by kernel_rfl) ?_
 simp only [go_sem, seval, run.eq_1]
 repeat' (first
  | ((first | (refine br_n (fun hq => ?_) (fun hq => ?_)) | (refine idx_intro (fun x hx => have hq := hx; ?_))) <;> (try simp only [go_sem, seval, run.eq_1, hq]))
  | (simp (disch := omega) only [wrap_ok])
  | ((first
   | (refine ⟨sd, ?_⟩)
   | (refine ⟨by assumption, ?_⟩)) <;> (try simp only [go_sem, seval, run.eq_1]))
  | assumption)
 refine AW.regL ?_
 simp only [go_sem, seval]
 repeat' (first
  | ((first | (refine br_n (fun hq => ?_) (fun hq => ?_)) | (refine idx_intro (fun x hx => have hq := hx; ?_))) <;> (try simp only [go_sem, seval, hq]))
  | (simp (disch := omega) only [wrap_ok])
  | ((first
   | (refine all_intro (fun Bz => ?_))
   | (refine ⟨sd, ?_⟩)
   | (refine ⟨by assumption, ?_⟩)) <;> (try simp only [go_sem, seval]))
  | assumption)
 refine AW.placeB 4 3 5 0 rfl rfl rfl rfl (by decide) ?_
 refine run_sound Tryd.func68 mixed 200 _ _ (by kernel_rfl) ?_
 simp only [go_sem, seval]
 repeat' (first
  | (exact ⟨26, Bz, rfl, by rw [hP]⟩)
  | ((first | (refine br_n (fun hq => ?_) (fun hq => ?_)) | (refine idx_intro (fun x hx => have hq := hx; ?_))) <;> (try simp only [go_sem, seval, hq]))
  | (simp (disch := omega) only [wrap_ok])
  | ((first
   | (refine ⟨sd, ?_⟩)
   | (refine ⟨by assumption, ?_⟩)) <;> (try simp only [go_sem, seval]))
  | assumption)
theorem pair_oo (a b : V) (q e q2 e2 : Nat) (B B2 : Nat → Prop) : ACalls Tryd.prog 68 [tmW a (.own 1 q), tmW b (.own 2 q2)] [.hole, .tree q 4 e (a.kids.map V.enc) B none, .tree q2 4 e2 (b.kids.map V.enc) B2 none] (fun c H' => prO a b [.dead, .dead] c H') := by
 have hP : (V.pair a b).kids.map V.enc = [[.int .i64 a.kind, .int .i64 a.int, .str a.name, .sl (a.kids.map V.enc)], [.int .i64 b.kind, .int .i64 b.int, .str b.name, .sl (b.kids.map V.enc)]] := by
  show [a.enc, b.enc] = _
  rw [V.enc_eq a, V.enc_eq b]
 first | unfold tmW tmF | unfold tmW | unfold tmF
 refine ACalls.enter (fn := Tryd.f68) Tryd.func68 rfl (by show 2 ≤ _; decide) ?_
 refine run_sound Tryd.func68 mixed 3 _ _ (by kernel_rfl) ?_
 simp only [go_sem, seval, run.eq_1]
 repeat' (first
  | ((first | (refine br_n (fun hq => ?_) (fun hq => ?_)) | (refine idx_intro (fun x hx => have hq := hx; ?_))) <;> (try simp only [go_sem, seval, run.eq_1, hq]))
  | (simp (disch := omega) only [wrap_ok])
  | ((first
   | (refine ⟨sd, ?_⟩)
   | (refine ⟨by assumption, ?_⟩)) <;> (try simp only [go_sem, seval, run.eq_1]))
  | assumption)
 refine AW.regL ?_
 simp only [go_sem, seval]
 repeat' (first
  | ((first | (refine br_n (fun hq => ?_) (fun hq => ?_)) | (refine idx_intro (fun x hx => have hq := hx; ?_))) <;> (try simp only [go_sem, seval, hq]))
  | (simp (disch := omega) only [wrap_ok])
  | ((first
   | (refine all_intro (fun Bz => ?_))
   | (refine ⟨sd, ?_⟩)
   | (refine ⟨by assumption, ?_⟩)) <;> (try simp only [go_sem, seval]))
  | assumption)
 refine AW.placeB 5 3 6 0 rfl rfl rfl rfl (by decide) ?_
 refine run_sound Tryd.func68 mixed 200 _ _ (by kernel_rfl) ?_
 simp only [go_sem, seval]
 repeat' (first
  | (exact ⟨26, Bz, rfl, by rw [hP]⟩)
  | ((first | (refine br_n (fun hq => ?_) (fun hq => ?_)) | (refine idx_intro (fun x hx => have hq := hx; ?_))) <;> (try simp only [go_sem, seval, hq]))
  | (simp (disch := omega) only [wrap_ok])
  | ((first
   | (refine ⟨sd, ?_⟩)
   | (refine ⟨by assumption, ?_⟩)) <;> (try simp only [go_sem, seval]))
  | assumption)
theorem number_fn (n : Int) : Gives Tryd.prog 73 [.int .i64 n] (.d (.agg (V.num n).enc)) := by
 rw [V.enc_num]
 refine ACalls.enter (fn := Tryd.f73) Tryd.func73 rfl (by show 1 ≤ _; decide) ?_
 refine run_sound Tryd.func73 mixed 200 _ _ (by kernel_rfl) ?_
 simp only [go_sem, seval]
 repeat' (first
  | ((first | (refine br_n (fun hq => ?_) (fun hq => ?_)) | (refine idx_intro (fun x hx => have hq := hx; ?_))) <;> (try simp only [go_sem, seval, hq]))
  | (simp (disch := omega) only [wrap_ok])
  | ((first
   | (refine ⟨sd, ?_⟩)
   | (refine ⟨by assumption, ?_⟩)) <;> (try simp only [go_sem, seval]))
  | assumption)
theorem symbol_fn (s : List UInt8) : Gives Tryd.prog 72 [.str s] (.d (.agg (V.sym s).enc)) := by
 rw [V.enc_sym]
 refine ACalls.enter (fn := Tryd.f72) Tryd.func72 rfl (by show 1 ≤ _; decide) ?_
 refine run_sound Tryd.func72 mixed 200 _ _ (by kernel_rfl) ?_
 simp only [go_sem, seval]
 repeat' (first
  | ((first | (refine br_n (fun hq => ?_) (fun hq => ?_)) | (refine idx_intro (fun x hx => have hq := hx; ?_))) <;> (try simp only [go_sem, seval, hq]))
  | (simp (disch := omega) only [wrap_ok])
  | ((first
   | (refine ⟨sd, ?_⟩)
   | (refine ⟨by assumption, ?_⟩)) <;> (try simp only [go_sem, seval]))
  | assumption)
theorem done_R (T : List (List UInt8)) (i : Nat) (hl : T.length ≤ 20000) : ACalls Tryd.prog 26 [.ptr 0 0] [.box [.d (.sl (strD T)), .d (.int .i64 i)]] (fun c H' => c = .d (.bool (decide ((i : Int) = T.length))) ∧ H' = [.box [.d (.sl (strD T)), .d (.int .i64 i)]]) := by
 refine ACalls.enter (fn := Tryd.f26) Tryd.func26 rfl (by show 1 ≤ _; decide) ?_
 refine run_sound Tryd.func26 mixed 200 _ _ (by kernel_rfl) ?_
 simp only [go_sem, seval, strD_len]
 repeat' (first
  | ((first | (refine br_n (fun hq => ?_) (fun hq => ?_)) | (refine idx_intro (fun x hx => have hq := hx; ?_))) <;> (try simp only [go_sem, seval, strD_len, hq]))
  | (simp (disch := omega) only [wrap_ok])
  | ((first
   | (refine ⟨sd, ?_⟩)
   | (refine ⟨by assumption, ?_⟩)) <;> (try simp only [go_sem, seval, strD_len]))
  | assumption)
theorem peek_R (T : List (List UInt8)) (i : Nat) (hl : T.length ≤ 20000) : ACalls Tryd.prog 65 [.ptr 0 0] [.box [.d (.sl (strD T)), .d (.int .i64 i)]] (fun c H' => c = .d (.str (T[i]?.getD [])) ∧ H' = [.box [.d (.sl (strD T)), .d (.int .i64 i)]]) := by
 cases hT : T[i]? with
 | none =>
  have hil := List.getElem?_eq_none_iff.1 hT
  have n0 : ¬ (i : Int) < (T.length : Int) := by omega
  refine ACalls.enter (fn := Tryd.f65) Tryd.func65 rfl (by show 1 ≤ _; decide) ?_
  refine run_sound Tryd.func65 mixed 200 _ _ (by kernel_rfl) ?_
  simp only [go_sem, seval, strD_len, n0]
  repeat' (first
   | ((first | (refine br_n (fun hq => ?_) (fun hq => ?_)) | (refine idx_intro (fun x hx => have hq := hx; ?_))) <;> (try simp only [go_sem, seval, strD_len, n0, hq]))
   | (simp (disch := omega) only [wrap_ok])
   | ((first
    | (refine ⟨sd, ?_⟩)
    | (refine ⟨by assumption, ?_⟩)) <;> (try simp only [go_sem, seval, strD_len, n0]))
   | assumption)
 | some t =>
  have hil := (List.getElem?_eq_some_iff.1 hT).1
  have n0 : (i : Int) < (T.length : Int) := by omega
  have hix := strD_at hT
  refine ACalls.enter (fn := Tryd.f65) Tryd.func65 rfl (by show 1 ≤ _; decide) ?_
  refine run_sound Tryd.func65 mixed 200 _ _ (by kernel_rfl) ?_
  simp only [go_sem, seval, strD_len, n0, idx_of hix]
  repeat' (first
   | ((first | (refine br_n (fun hq => ?_) (fun hq => ?_)) | (refine idx_intro (fun x hx => have hq := hx; ?_))) <;> (try simp only [go_sem, seval, strD_len, n0, idx_of hix, hq]))
   | (simp (disch := omega) only [wrap_ok])
   | ((first
    | (refine ⟨sd, ?_⟩)
    | (refine ⟨by assumption, ?_⟩)) <;> (try simp only [go_sem, seval, strD_len, n0, idx_of hix]))
   | assumption)
end Go.Proofs.YtccphilpfmfagaaDoor
