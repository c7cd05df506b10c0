import Derived.Test.YtgkahnlbgkoplaaGreatW7
import Derived.Test.YtgkahnlbgkoplaaGreatW14
import Derived.Test.YtgkahnlbgkoplaaGreatA9
import Derived.Test.YtgkahnlbgkoplaaGreatP9
namespace Go.Proofs.YtgkahnlbgkoplaaGreat
open Go.Abs
set_option maxRecDepth 100000
set_option maxHeartbeats 4000000
set_option linter.unusedSimpArgs false
set_option linter.unusedVariables false
def tmW (u : V) (x : C) : C := .agg [.d (.int .i64 u.kind), .d (.int .i64 u.int), .d (.str u.name), x]
def tmF (u : V) : C := .d (.agg [.int .i64 u.kind, .int .i64 u.int, .str u.name, .sl []])
def prO (a b : V) (X : List O) (c : C) (H : List O) : Prop := ∃ e B, c = tmW (.pair a b) (.own 0 1) ∧ H = .tree 1 4 e ((V.pair a b).kids.map V.enc) B none :: X
def tmO (w : C → C) (u : V) (X : List O) (c : C) (H : List O) : Prop :=
 (∃ e B, c = w (tmW u (.own 0 1)) ∧ H = .tree 1 4 e (u.kids.map V.enc) B none :: X) ∨ (u.kids = [] ∧ c = w (tmF u) ∧ H = .hole :: X)
theorem variable_fn (n : Int) : Gives Tryz.prog 52 [.int .i64 n] (.d (.agg (V.var n).enc)) := by
 have hE : (V.var n).enc = [.int .i64 1, .int .i64 n, .str [], .sl []] := by rw [V.enc_eq]; rfl
 rw [hE]
 refine ACalls.enter (fn := Tryz.f52) Tryz.func52 rfl (by show 1 ≤ _; decide) ?_
 refine run_sound Tryz.func52 mixed 200 _ _ (by kernel_rfl) ?_
 simp only [go_sem, seval]
 repeat' (first
  | ((first | (refine br_n (fun hq => ?_) (fun hq => ?_)) | (refine idx_intro (fun x hx => have hq := hx; ?_))) <;> (try simp only [go_sem, seval, hq]))
  | (simp (disch := omega) only [wrap_ok])
  | ((first
   | (refine ⟨sd, ?_⟩)
   | (refine ⟨by assumption, ?_⟩)) <;> (try simp only [go_sem, seval]))
  | assumption)
theorem shifted1_R (n k : Int) (h0 : 0 ≤ n ∧ n ≤ 1000000) (hk : 0 ≤ k ∧ k ≤ 1000000) : ACalls Tryz.prog 73 [.d (.int .i64 k), .ptr 0 0] [.box [.d (.int .i64 n)]] (fun c H' => c = .tup [.d (.agg (V.var (k + n)).enc), .d (.bool true)] ∧ H' = [.box [.d (.int .i64 n)]]) := by
 have hE : (V.var (k + n)).enc = [.int .i64 1, .int .i64 (k + n), .str [], .sl []] := by rw [V.enc_eq]; rfl
 have hv := variable_fn (k + n)
 rw [hE] at hv ⊢
 refine ACalls.enter (fn := Tryz.f73) Tryz.func73 rfl (by show 2 ≤ _; decide) ?_
 refine run_sound Tryz.func73 mixed 200 _ _ (by kernel_rfl) ?_
 simp only [go_sem, seval]
 repeat' (first
  | ((first | (refine br_n (fun hq => ?_) (fun hq => ?_)) | (refine idx_intro (fun x hx => have hq := hx; ?_))) <;> (try simp only [go_sem, seval, hq]))
  | (simp (disch := omega) only [wrap_ok])
  | ((first
   | (refine hv.calls rfl ?_)
   | (refine ⟨sd, ?_⟩)
   | (refine ⟨by assumption, ?_⟩)) <;> (try simp only [go_sem, seval]))
  | assumption)
theorem pair_dd (a b : V) (ha : a.kids = []) (hb : b.kids = []) : ACalls Tryz.prog 86 [tmF a, tmF b] [.hole] (fun c H' => prO a b [] c H') := by
 have hP : (V.pair a b).kids.map V.enc = [[.int .i64 a.kind, .int .i64 a.int, .str a.name, .sl []], [.int .i64 b.kind, .int .i64 b.int, .str b.name, .sl []]] := by
  show [a.enc, b.enc] = _
  rw [V.enc_eq a, V.enc_eq b, ha, hb]; rfl
 first | unfold tmW tmF | unfold tmW | unfold tmF
 refine ACalls.enter (fn := Tryz.f86) Tryz.func86 rfl (by show 2 ≤ _; decide) ?_
 refine run_sound Tryz.func86 mixed 3 _ _ (by kernel_rfl) ?_
 simp only [go_sem, seval, run.eq_1]
 repeat' (first
  | ((first | (refine br_n (fun hq => ?_) (fun hq => ?_)) | (refine idx_intro (fun x hx => have hq := hx; ?_))) <;> (try simp only [go_sem, seval, run.eq_1, hq]))
  | (simp (disch := omega) only [wrap_ok])
  | ((first
   | (refine ⟨sd, ?_⟩)
   | (refine ⟨by assumption, ?_⟩)) <;> (try simp only [go_sem, seval, run.eq_1]))
  | assumption)
 refine AW.regL ?_
 simp only [go_sem, seval]
 repeat' (first
  | ((first | (refine br_n (fun hq => ?_) (fun hq => ?_)) | (refine idx_intro (fun x hx => have hq := hx; ?_))) <;> (try simp only [go_sem, seval, hq]))
  | (simp (disch := omega) only [wrap_ok])
  | ((first
   | (refine all_intro (fun Bz => ?_))
   | (refine ⟨sd, ?_⟩)
   | (refine ⟨by assumption, ?_⟩)) <;> (try simp only [go_sem, seval]))
  | assumption)
 refine AW.placeB 3 3 4 0 rfl rfl rfl rfl (by decide) ?_
 refine run_sound Tryz.func86 mixed 200 _ _ (by kernel_rfl) ?_
 simp only [go_sem, seval]
 repeat' (first
  | (exact ⟨59, Bz, rfl, by rw [hP]⟩)
  | ((first | (refine br_n (fun hq => ?_) (fun hq => ?_)) | (refine idx_intro (fun x hx => have hq := hx; ?_))) <;> (try simp only [go_sem, seval, hq]))
  | (simp (disch := omega) only [wrap_ok])
  | ((first
   | (refine ⟨sd, ?_⟩)
   | (refine ⟨by assumption, ?_⟩)) <;> (try simp only [go_sem, seval]))
  | assumption)
theorem pair_od (a b : V) (q e : Nat) (B : Nat → Prop) (hb : b.kids = []) : ACalls Tryz.prog 86 [tmW a (.own 1 q), tmF b] [.hole, .tree q 4 e (a.kids.map V.enc) B none] (fun c H' => prO a b [.dead] c H') := by
 have hP : (V.pair a b).kids.map V.enc = [[.int .i64 a.kind, .int .i64 a.int, .str a.name, .sl (a.kids.map V.enc)], [.int .i64 b.kind, .int .i64 b.int, .str b.name, .sl []]] := by
  show [a.enc, b.enc] = _
  rw [V.enc_eq a, V.enc_eq b, hb]; rfl
 first | unfold tmW tmF | unfold tmW | unfold tmF
 refine ACalls.enter (fn := Tryz.f86) Tryz.func86 rfl (by show 2 ≤ _; decide) ?_
 refine run_sound Tryz.func86 mixed 3 _ _ (by kernel_rfl) ?_
 simp only [go_sem, seval, run.eq_1]
 repeat' (first
  | ((first | (refine br_n (fun hq => ?_) (fun hq => ?_)) | (refine idx_intro (fun x hx => have hq := hx; ?_))) <;> (try simp only [go_sem, seval, run.eq_1, hq]))
  | (simp (disch := omega) only [wrap_ok])
  | ((first
   | (refine ⟨sd, ?_⟩)
   | (refine ⟨by assumption, ?_⟩)) <;> (try simp only [go_sem, seval, run.eq_1]))
  | assumption)
 refine AW.regL ?_
 simp only [go_sem, seval]
 repeat' (first
  | ((first | (refine br_n (fun hq => ?_) (fun hq => ?_)) | (refine idx_intro (fun x hx => have hq := hx; ?_))) <;> (try simp only [go_sem, seval, hq]))
  | (simp (disch := omega) only [wrap_ok])
  | ((first
   | (refine all_intro (fun Bz => ?_))
   | (refine ⟨sd, ?_⟩)
   | (refine ⟨by assumption, ?_⟩)) <;> (try simp only [go_sem, seval]))
  | assumption)
 refine AW.placeB 4 3 5 0 rfl rfl rfl rfl (by decide) ?_
 refine run_sound Tryz.func86 mixed 200 _ _ (by kernel_rfl) ?_
 simp only [go_sem, seval]
 repeat' (first
  | (exact ⟨59, Bz, rfl, by rw [hP]⟩)
  | ((first | (refine br_n (fun hq => ?_) (fun hq => ?_)) | (refine idx_intro (fun x hx => have hq := hx; ?_))) <;> (try simp only [go_sem, seval, hq]))
  | (simp (disch := omega) only [wrap_ok])
  | ((first
   | (refine ⟨sd, ?_⟩)
   | (refine ⟨by assumption, ?_⟩)) <;> (try simp only [go_sem, seval]))
  | assumption)
theorem pair_do (a b : V) (q e : Nat) (B : Nat → Prop) (ha : a.kids = []) : ACalls Tryz.prog 86 [tmF a, tmW b (.own 1 q)] [.hole, .tree q 4 e (b.kids.map V.enc) B none] (fun c H' => prO a b [.dead] c H') := by
 have hP : (V.pair a b).kids.map V.enc = [[.int .i64 a.kind, .int .i64 a.int, .str a.name, .sl []], [.int .i64 b.kind, .int .i64 b.int, .str b.name, .sl (b.kids.map V.enc)]] := by
  show [a.enc, b.enc] = _
  rw [V.enc_eq a, V.enc_eq b, ha]; rfl
 first | unfold tmW tmF | unfold tmW | unfold tmF
 refine ACalls.enter (fn := Tryz.f86) Tryz.func86 rfl (by show 2 ≤ _; decide) ?_
 refine run_sound Tryz.func86 mixed 3 _ _ (by kernel_rfl) ?_
 simp only [go_sem, seval, run.eq_1]
 repeat' (first
  | ((first | (refine br_n (fun hq => ?_) (fun hq => ?_)) | (refine idx_intro (fun x hx => have hq := hx; ?_))) <;> (try simp only [go_sem, seval, run.eq_1, hq]))
  | (simp (disch := omega) only [wrap_ok])
  | ((first
   | (refine ⟨sd, ?_⟩)
   | (refine ⟨by assumption, ?_⟩)) <;> (try simp only [go_sem, seval, run.eq_1]))
  | assumption)
 refine AW.regL ?_
 simp only [go_sem, seval]
 repeat' (first
  | ((first | (refine br_n (fun hq => ?_) (fun hq => ?_)) | (refine idx_intro (fun x hx => have hq := hx; ?_))) <;> (try simp only [go_sem, seval, hq]))
  | (simp (disch := omega) only [wrap_ok])
  | ((first
   | (refine all_intro (fun Bz => ?_))
   | (refine ⟨sd, ?_⟩)
   | (refine ⟨by assumption, ?_⟩)) <;> (try simp only [go_sem, seval]))
  | assumption)
 refine AW.placeB 4 3 5 0 rfl rfl rfl rfl (by decide) ?_
 refine run_sound Tryz.func86 mixed 200 _ _ (by kernel_rfl) ?_
 simp only [go_sem, seval]
 repeat' (first
  | (exact ⟨59, Bz, rfl, by rw [hP]⟩)
  | ((first | (refine br_n (fun hq => ?_) (fun hq => ?_)) | (refine idx_intro (fun x hx => have hq := hx; ?_))) <;> (try simp only [go_sem, seval, hq]))
  | (simp (disch := omega) only [wrap_ok])
  | ((first
   | (refine ⟨sd, ?_⟩)
   | (refine ⟨by assumption, ?_⟩)) <;> (try simp only [go_sem, seval]))
  | assumption)
theorem pair_oo (a b : V) (q e q2 e2 : Nat) (B B2 : Nat → Prop) : ACalls Tryz.prog 86 [tmW a (.own 1 q), tmW b (.own 2 q2)] [.hole, .tree q 4 e (a.kids.map V.enc) B none, .tree q2 4 e2 (b.kids.map V.enc) B2 none] (fun c H' => prO a b [.dead, .dead] c H') := by
 have hP : (V.pair a b).kids.map V.enc = [[.int .i64 a.kind, .int .i64 a.int, .str a.name, .sl (a.kids.map V.enc)], [.int .i64 b.kind, .int .i64 b.int, .str b.name, .sl (b.kids.map V.enc)]] := by
  show [a.enc, b.enc] = _
  rw [V.enc_eq a, V.enc_eq b]
 first | unfold tmW tmF | unfold tmW | unfold tmF
 refine ACalls.enter (fn := Tryz.f86) Tryz.func86 rfl (by show 2 ≤ _; decide) ?_
 refine run_sound Tryz.func86 mixed 3 _ _ (by kernel_rfl) ?_
 simp only [go_sem, seval, run.eq_1]
 repeat' (first
  | ((first | (refine br_n (fun hq => ?_) (fun hq => ?_)) | (refine idx_intro (fun x hx => have hq := hx; ?_))) <;> (try simp only [go_sem, seval, run.eq_1, hq]))
  | (simp (disch := omega) only [wrap_ok])
  | ((first
   | (refine ⟨sd, ?_⟩)
   | (refine ⟨by assumption, ?_⟩)) <;> (try simp only [go_sem, seval, run.eq_1]))
  | assumption)
 refine AW.regL ?_
 simp only [go_sem, seval]
 repeat' (first
  | ((first | (refine br_n (fun hq => ?_) (fun hq => ?_)) | (refine idx_intro (fun x hx => have hq := hx; ?_))) <;> (try simp only [go_sem, seval, hq]))
  | (simp (disch := omega) only [wrap_ok])
  | ((first
   | (refine all_intro (fun Bz => ?_))
   | (refine ⟨sd, ?_⟩)
   | (refine ⟨by assumption, ?_⟩)) <;> (try simp only [go_sem, seval]))
  | assumption)
 refine AW.placeB 5 3 6 0 rfl rfl rfl rfl (by decide) ?_
 refine run_sound Tryz.func86 mixed 200 _ _ (by kernel_rfl) ?_
 simp only [go_sem, seval]
 repeat' (first
  | (exact ⟨59, Bz, rfl, by rw [hP]⟩)
  | ((first | (refine br_n (fun hq => ?_) (fun hq => ?_)) | (refine idx_intro (fun x hx => have hq := hx; ?_))) <;> (try simp only [go_sem, seval, hq]))
  | (simp (disch := omega) only [wrap_ok])
  | ((first
   | (refine ⟨sd, ?_⟩)
   | (refine ⟨by assumption, ?_⟩)) <;> (try simp only [go_sem, seval]))
  | assumption)
def mvT (n : Int) (v : V) : Prop := ACalls Tryz.prog 72 [.d (.agg v.enc), .fn 73 [.ptr 1 0]] [.hole, .box [.d (.int .i64 n)]] (tmO id (v.sh n) [.box [.d (.int .i64 n)]])
theorem mapVars_T (n : Int) (h0 : 0 ≤ n ∧ n ≤ 1000000) : ∀ v : V, v.fine = true → mvT n v := by
 intro v
 induction v with
 | pair x y ihx ihy =>
  intro hf
  simp only [V.fine, Bool.and_eq_true] at hf
  have hx := ihx hf.1
  have hy := ihy hf.2
  unfold mvT at hx hy ⊢
  have hs : (V.pair x y).sh n = .pair (x.sh n) (y.sh n) := rfl
  rw [hs]
  refine ACalls.enter (fn := Tryz.f72) Tryz.func72 rfl (by show 2 ≤ _; decide) ?_
  refine AW.hole ?_
  refine AW.hole ?_
  refine run_sound Tryz.func72 mixed 13 _ _ (by kernel_rfl) ?_
  simp only [go_sem, seval, run.eq_1, V.kind, V.int, V.kids]
  repeat' (first
   | ((first | (refine br_n (fun hq => ?_) (fun hq => ?_)) | (refine idx_intro (fun x hx => have hq := hx; ?_))) <;> (try simp only [go_sem, seval, V.kind, V.int, V.kids, run.eq_1, hq]))
   | (simp (disch := omega) only [wrap_ok])
   | ((first
    | (refine ⟨sd, ?_⟩)
    | (refine ⟨by assumption, ?_⟩)) <;> (try simp only [go_sem, seval, V.kind, V.int, V.kids, run.eq_1]))
   | assumption)
  have hkk : (V.pair x y).kids = [x, y] := rfl
  refine AW.drawA mixed #[true, true, true, true, true, true, true, true, true, true, true, true, true, false] [(4, .box ((V.pair x y).enc.map .d))] [] [0, 1, 2, 3, 4, 6, 7, 8, 9, 10, 5, 11, 12] [13] none (by kernel_rfl) trivial (by simp [holdsB]) ?_
  simp only [go_sem, seval, hkk]
  repeat' (first
   | ((first | (refine br_n (fun hq => ?_) (fun hq => ?_)) | (refine idx_intro (fun x hx => have hq := hx; ?_))) <;> (try simp only [go_sem, seval, hkk, tmW, tmF, id_eq, hq]))
   | (simp (disch := omega) only [wrap_ok])
   | ((first
    | (refine (ACalls.emb hx [2, 1] rfl rfl rfl (by decide) rfl ?_) <;> (rintro c H' (⟨ex, Bx, rfl, rfl⟩ | ⟨kx, rfl, rfl⟩) _ <;> refine ⟨rfl, rfl, ?_⟩))
    | (refine (ACalls.emb hy [3, 1] rfl rfl rfl (by decide) rfl ?_) <;> (rintro c H' (⟨ey, By, rfl, rfl⟩ | ⟨ky, rfl, rfl⟩) _ <;> refine ⟨rfl, rfl, ?_⟩))
    | (refine (ACalls.emb (pair_oo (x.sh n) (y.sh n) 1 _ 1 _ _ _) [0, 2, 3] rfl rfl rfl (by decide) rfl ?_) <;> (rintro c H' ⟨ez, Bz, rfl, rfl⟩ _; refine ⟨rfl, rfl, ?_⟩))
    | (refine (ACalls.emb (pair_od (x.sh n) (y.sh n) 1 _ _ ky) [0, 2] rfl rfl rfl (by decide) rfl ?_) <;> (rintro c H' ⟨ez, Bz, rfl, rfl⟩ _; refine ⟨rfl, rfl, ?_⟩))
    | (refine (ACalls.emb (pair_do (x.sh n) (y.sh n) 1 _ _ kx) [0, 3] rfl rfl rfl (by decide) rfl ?_) <;> (rintro c H' ⟨ez, Bz, rfl, rfl⟩ _; refine ⟨rfl, rfl, ?_⟩))
    | (refine (ACalls.emb (pair_dd (x.sh n) (y.sh n) kx ky) [0] rfl rfl rfl (by decide) rfl ?_) <;> (rintro c H' ⟨ez, Bz, rfl, rfl⟩ _; refine ⟨rfl, rfl, ?_⟩))
    | (refine ⟨sd, ?_⟩)
    | (refine ⟨by assumption, ?_⟩)) <;> (try simp only [go_sem, seval, hkk, tmW, tmF, id_eq]))
   | assumption)
  all_goals
   refine run_sound Tryz.func72 mixed 200 _ _ (by kernel_rfl) ?_
   simp only [go_sem, seval]
   repeat' (first
    | (exact .inl ⟨ez, Bz, rfl, rfl⟩)
    | ((first | (refine br_n (fun hq => ?_) (fun hq => ?_)) | (refine idx_intro (fun x hx => have hq := hx; ?_))) <;> (try simp only [go_sem, seval, hq]))
    | (simp (disch := omega) only [wrap_ok])
    | ((first
     | (refine ⟨sd, ?_⟩)
     | (refine ⟨by assumption, ?_⟩)) <;> (try simp only [go_sem, seval]))
    | assumption)
 | var k =>
  intro hf
  simp only [V.fine, decide_eq_true_eq] at hf
  have hs : (V.var k).sh n = .var (k + n) := rfl
  have hc := copyTerm_T (.var (k + n))
  unfold cpT at hc
  unfold mvT
  rw [hs]
  refine ACalls.enter (fn := Tryz.f72) Tryz.func72 rfl (by show 2 ≤ _; decide) ?_
  refine run_sound Tryz.func72 mixed 200 _ _ (by kernel_rfl) ?_
  simp only [go_sem, seval, V.kind, V.int]
  repeat' (first
   | (exact .inl ⟨e1, B1, rfl, rfl⟩)
   | ((first | (refine br_n (fun hq => ?_) (fun hq => ?_)) | (refine idx_intro (fun x hx => have hq := hx; ?_))) <;> (try simp only [go_sem, seval, V.kind, V.int, hq]))
   | (simp (disch := omega) only [wrap_ok])
   | ((first
    | (refine (ACalls.emb (shifted1_R n k h0 (by omega)) [1] rfl rfl rfl (by decide) rfl ?_) <;> (rintro c H' ⟨rfl, rfl⟩ _; refine ⟨rfl, rfl, ?_⟩))
    | (refine ACalls.fresh (ds := [.agg (V.var (k + n)).enc]) (m := 1) hc [0] rfl rfl (by simp) (by simp) ?_ <;> (rintro c H' ⟨rfl, e1, B1, rfl⟩ _; refine ⟨rfl, rfl, ?_⟩))
    | (refine ⟨sd, ?_⟩)
    | (refine ⟨by assumption, ?_⟩)) <;> (try simp only [go_sem, seval, V.kind, V.int]))
   | assumption)
  | nil =>
  intro _
  unfold mvT
  refine ACalls.enter (fn := Tryz.f72) Tryz.func72 rfl (by show 2 ≤ _; decide) ?_
  refine run_sound Tryz.func72 mixed 200 _ _ (by kernel_rfl) ?_
  simp only [go_sem, seval, V.kind, V.int]
  repeat' (first
   | (exact .inr ⟨rfl, rfl, rfl⟩)
   | ((first | (refine br_n (fun hq => ?_) (fun hq => ?_)) | (refine idx_intro (fun x hx => have hq := hx; ?_))) <;> (try simp only [go_sem, seval, V.kind, V.int, hq]))
   | (simp (disch := omega) only [wrap_ok])
   | ((first
    | (refine ⟨sd, ?_⟩)
    | (refine ⟨by assumption, ?_⟩)) <;> (try simp only [go_sem, seval, V.kind, V.int]))
   | assumption)
  | sym s =>
  intro _
  unfold mvT
  refine ACalls.enter (fn := Tryz.f72) Tryz.func72 rfl (by show 2 ≤ _; decide) ?_
  refine run_sound Tryz.func72 mixed 200 _ _ (by kernel_rfl) ?_
  simp only [go_sem, seval, V.kind, V.int]
  repeat' (first
   | (exact .inr ⟨rfl, rfl, rfl⟩)
   | ((first | (refine br_n (fun hq => ?_) (fun hq => ?_)) | (refine idx_intro (fun x hx => have hq := hx; ?_))) <;> (try simp only [go_sem, seval, V.kind, V.int, hq]))
   | (simp (disch := omega) only [wrap_ok])
   | ((first
    | (refine ⟨sd, ?_⟩)
    | (refine ⟨by assumption, ?_⟩)) <;> (try simp only [go_sem, seval, V.kind, V.int]))
   | assumption)
 | num k =>
  intro _
  unfold mvT
  refine ACalls.enter (fn := Tryz.f72) Tryz.func72 rfl (by show 2 ≤ _; decide) ?_
  refine run_sound Tryz.func72 mixed 200 _ _ (by kernel_rfl) ?_
  simp only [go_sem, seval, V.kind, V.int]
  repeat' (first
   | (exact .inr ⟨rfl, rfl, rfl⟩)
   | ((first | (refine br_n (fun hq => ?_) (fun hq => ?_)) | (refine idx_intro (fun x hx => have hq := hx; ?_))) <;> (try simp only [go_sem, seval, V.kind, V.int, hq]))
   | (simp (disch := omega) only [wrap_ok])
   | ((first
    | (refine ⟨sd, ?_⟩)
    | (refine ⟨by assumption, ?_⟩)) <;> (try simp only [go_sem, seval, V.kind, V.int]))
   | assumption)
def sfT (n : Int) (v : V) : Prop := ACalls Tryz.prog 56 [.d (.agg v.enc), .d (.int .i64 n)] [.hole] (tmO id (v.sh n) [])
theorem shifted_T (n : Int) (h0 : 0 ≤ n ∧ n ≤ 1000000) (v : V) (hv : v.fine = true) : sfT n v := by
 have h := mapVars_T n h0 v hv
 unfold mvT at h
 unfold sfT
 refine ACalls.enter (fn := Tryz.f56) Tryz.func56 rfl (by show 2 ≤ _; decide) ?_
 refine run_sound Tryz.func56 mixed 200 _ _ (by kernel_rfl) ?_
 simp only [go_sem, seval]
 repeat' (first
  | (exact .inl ⟨ez, Bz, rfl, rfl⟩)
  | (exact .inr ⟨kz, rfl, rfl⟩)
  | ((first | (refine br_n (fun hq => ?_) (fun hq => ?_)) | (refine idx_intro (fun x hx => have hq := hx; ?_))) <;> (try simp only [go_sem, seval, tmW, tmF, id_eq, hq]))
  | (simp (disch := omega) only [wrap_ok])
  | ((first
   | (refine (ACalls.emb h [0, 2] rfl rfl rfl (by decide) rfl ?_) <;> (rintro c H' (⟨ez, Bz, rfl, rfl⟩ | ⟨kz, rfl, rfl⟩) _ <;> refine ⟨rfl, rfl, ?_⟩))
   | (refine ⟨sd, ?_⟩)
   | (refine ⟨by assumption, ?_⟩)) <;> (try simp only [go_sem, seval, tmW, tmF, id_eq]))
  | assumption)
def tmP (x : C) : C := .tup [x, .d (.bool true)]
def xpT (n : Int) (v : V) : Prop := ACalls Tryz.prog 55 [.d (.agg v.enc), .ptr 1 0] [.hole, .box [.d (.int .i64 n)]] (tmO tmP (v.sh n) [.box [.d (.int .i64 n)]])
theorem expand1_T (n : Int) (h0 : 0 ≤ n ∧ n ≤ 1000000) (v : V) (hv : v.fine = true) : xpT n v := by
 have h := shifted_T n h0 v hv
 unfold sfT at h
 unfold xpT
 refine ACalls.enter (fn := Tryz.f55) Tryz.func55 rfl (by show 2 ≤ _; decide) ?_
 refine run_sound Tryz.func55 mixed 200 _ _ (by kernel_rfl) ?_
 simp only [go_sem, seval]
 repeat' (first
  | (exact .inl ⟨ez, Bz, rfl, rfl⟩)
  | (exact .inr ⟨kz, rfl, rfl⟩)
  | ((first | (refine br_n (fun hq => ?_) (fun hq => ?_)) | (refine idx_intro (fun x hx => have hq := hx; ?_))) <;> (try simp only [go_sem, seval, tmW, tmF, id_eq, hq]))
  | (simp (disch := omega) only [wrap_ok])
  | ((first
   | (refine (ACalls.emb h [0] rfl rfl rfl (by decide) rfl ?_) <;> (rintro c H' (⟨ez, Bz, rfl, rfl⟩ | ⟨kz, rfl, rfl⟩) _ <;> refine ⟨rfl, rfl, ?_⟩))
   | (refine ⟨sd, ?_⟩)
   | (refine ⟨by assumption, ?_⟩)) <;> (try simp only [go_sem, seval, tmW, tmF, id_eq]))
  | assumption)
theorem Tm.V_fine {t : Tm} (h : tmOk t = true) : t.V.fine = true := by
 unfold tmOk Tm.ok? at h
 unfold Tm.V
 split at h
 ·rename_i v hv
  rw [hv]
  exact Tm.fine_of t v hv
 ·cases h
def gwT (n : Int) (t : Gl) : Prop := ACalls Tryz.prog 54 [.d (.agg t.enc), .fn 55 [.ptr 2 0]] [.hole, .hole, .box [.d (.int .i64 n)]] fun c H' => c = .tup [.agg [.d (.int .i64 t.kind), .d (.str t.name), .own 0 1, .own 1 1], .d (.bool true)] ∧ ∃ e B e' B', H' = [.tree 1 4 e ((t.terms.map (Tm.sh n)).map Tm.enc) B none, .tree 1 4 e' ((t.goals.map (Gl.sh n)).map Gl.enc) B' none, .box [.d (.int .i64 n)]]
theorem goalWith_T (n : Int) (h0 : 0 ≤ n ∧ n ≤ 1000000) : ∀ t : Gl, wtL t.enc ≤ 1048576 → t.shape = true → gwT n t := by
 intro t
 induction t using Gl.ind' with
 | h t ih =>
  intro hw hs
  have hts := Gl.shape_terms hs
  have hs' := hs
  rw [Gl.shape_eq] at hs'
  simp only [Bool.and_eq_true, List.all_eq_true] at hs'
  have hgs : ∀ x, x ∈ t.goals → x.shape = true := hs'.2
  have hmx : maxLen = 9223372036854775807 := rfl
  have hwt : wtR (t.terms.map Tm.enc) ≤ 1048576 ∧ wtR (t.goals.map Gl.enc) ≤ 1048576 := by
   simp only [Gl.enc_eq t, wtL, D.wt] at hw; omega
  have hlt0 : t.terms.length ≤ 1048576 := by
   have := sumW_le (t.terms.map Tm.enc) 0; simp [sumW] at this; omega
  have hlg0 : t.goals.length ≤ 1048576 := by
   have := sumW_le (t.goals.map Gl.enc) 0; simp [sumW] at this; omega
  unfold gwT
  refine ACalls.enter (fn := Tryz.f54) Tryz.func54 rfl (by show 2 ≤ _; decide) ?_
  refine run_sound Tryz.func54 mixed 8 _ _ (by kernel_rfl) ?_
  simp only [go_sem, seval, run.eq_1]
  repeat' (first
   | ((first | (refine br_n (fun hq => ?_) (fun hq => ?_)) | (refine idx_intro (fun x hx => have hq := hx; ?_))) <;> (try simp only [go_sem, seval, run.eq_1, hq]))
   | (simp (disch := omega) only [wrap_ok])
   | ((first
    | (refine ⟨sd, ?_⟩)
    | (refine ⟨by assumption, ?_⟩)) <;> (try simp only [go_sem, seval, run.eq_1]))
   | assumption)
  refine AW.adoptTB 5 2 4 59 (by decide) rfl rfl ?_
  refine AW.adoptTB 5 3 4 31 (by decide) rfl rfl ?_
  refine run_sound Tryz.func54 mixed 1 _ _ (by kernel_rfl) ?_
  simp only [go_sem, seval, run.eq_1]
  refine AW.rng t.terms [1, 2, 4, 6, 21, 22] 23 21 (fun p : List Tm × (Nat → Prop) => []) (fun _ p => [.hole, .hole, .box [.d (.int .i64 n)], .box (t.enc.map .d), .box [.d (.int .i64 0), .d (.str []), .nil0, .nil0], .box [.d (.int .i64 t.kind), .d (.str t.name), .own 6 p.1.length, .own 7 0], .tree p.1.length 4 59 ((p.1.map (Tm.sh n)).map Tm.enc) p.2 none, .tree 0 4 31 [] (fun _ => False) none]) (fun r p => p.1 ++ r = t.terms) ([], fun _ => False) rfl (by simp) rfl (by refine ⟨by simp [mkS], by simp [mkS], by simp only [mkS, List.all_cons, List.all_nil, O.refsLt, C.refsLt, C.refsLt1, all_dmap]; first | done | rfl | (simp; done), ?_⟩; simp [mkS, Abs.get, C.refsLtT, C.refsLt, C.refsLt1]) (fun i x r p hxi hdr hlt hm hinv hnext => ?_) (fun p hinv => ?_)
  ·have hxm := List.mem_of_getElem? hxi
   have hpl : p.1.length + (r.length + 1) = t.terms.length := by rw [← hinv]; simp
   have hx := expand1_T n h0 x.V (Tm.V_fine (hts x hxm))
   unfold xpT at hx
   rw [← Tm.enc_V (hts x hxm)] at hx
   have hxe : (x.sh n).enc = [.int .i64 (x.V.sh n).kind, .int .i64 (x.V.sh n).int, .str (x.V.sh n).name, .sl ((x.V.sh n).kids.map V.enc)] := by rw [Tm.sh_enc, V.enc_eq]
   refine AW.hole ?_
   refine run_sound Tryz.func54 mixed 16 _ _ (by kernel_rfl) ?_
   simp only [go_sem, seval, run.eq_1, hlt, idx_of hxi]
   repeat' (first
    | ((first | (refine br_n (fun hq => ?_) (fun hq => ?_)) | (refine idx_intro (fun x hx => have hq := hx; ?_))) <;> (try simp only [go_sem, seval, hlt, idx_of hxi, tmP, tmW, tmF, run.eq_1, hq]))
    | (simp (disch := omega) only [wrap_ok])
    | ((first
     | (refine (ACalls.emb hx [8, 2] rfl rfl rfl (by decide) rfl ?_) <;> (rintro c H' (⟨ez, Bz, rfl, rfl⟩ | ⟨kz, rfl, rfl⟩) _ <;> refine ⟨rfl, rfl, ?_⟩))
     | (refine ⟨sd, ?_⟩)
     | (refine ⟨by assumption, ?_⟩)) <;> (try simp only [go_sem, seval, hlt, idx_of hxi, tmP, tmW, tmF, run.eq_1]))
    | assumption)
   all_goals
    refine AW.regT ?_
    simp only [go_sem, seval]
    repeat' (first
     | ((first | (refine br_n (fun hq => ?_) (fun hq => ?_)) | (refine idx_intro (fun x hx => have hq := hx; ?_))) <;> (try simp only [go_sem, seval, hq]))
     | (simp (disch := omega) only [wrap_ok])
     | ((first
      | (refine all_intro (fun Bq => ?_))
      | (refine ⟨sd, ?_⟩)
      | (refine ⟨by assumption, ?_⟩)) <;> (try simp only [go_sem, seval]))
     | assumption)
    refine run_sound Tryz.func54 mixed 200 _ _ (by kernel_rfl) ?_
    simp only [go_sem, seval]
    try simp (disch := omega) only [wrap_ok]
   ·refine hnext (p.1 ++ [x], Bq) _ (by simp [← hinv]) (by refine ⟨by simp [mkS, hxe], by simp [mkS, hxe], by simp only [mkS, List.all_cons, List.all_nil, O.refsLt, C.refsLt, C.refsLt1, all_dmap]; first | done | rfl | (simp; done), ?_⟩; simp [mkS, Abs.get, C.refsLtT, C.refsLt, C.refsLt1])
   ·refine hnext (p.1 ++ [x], Bq) _ (by simp [← hinv]) (by refine ⟨by simp [mkS, hxe, kz], by simp [mkS, hxe, kz], by simp only [mkS, List.all_cons, List.all_nil, O.refsLt, C.refsLt, C.refsLt1, all_dmap]; first | done | rfl | (simp; done), ?_⟩; simp [mkS, Abs.get, C.refsLtT, C.refsLt, C.refsLt1])
  ·simp only [List.append_nil] at hinv
   obtain ⟨ts, Bt⟩ := p
   dsimp only at hinv ⊢
   subst hinv
   generalize hTS : (t.terms.map (Tm.sh n)).map Tm.enc = TS at *
   have hTl : TS.length = t.terms.length := by rw [← hTS]; simp
   refine run_sound Tryz.func54 mixed 10 _ _ (by kernel_rfl) ?_
   simp only [go_sem, seval, run.eq_1]
   repeat' (first
    | ((first | (refine br_n (fun hq => ?_) (fun hq => ?_)) | (refine idx_intro (fun x hx => have hq := hx; ?_))) <;> (try simp only [go_sem, seval, run.eq_1, hq]))
    | (simp (disch := omega) only [wrap_ok])
    | ((first
     | (refine ⟨sd, ?_⟩)
     | (refine ⟨by assumption, ?_⟩)) <;> (try simp only [go_sem, seval, run.eq_1]))
    | assumption)
   refine AW.placeB 5 2 6 0 rfl rfl rfl rfl (by decide) ?_
   refine run_sound Tryz.func54 mixed 1 _ _ (by kernel_rfl) ?_
   simp only [go_sem, seval, run.eq_1]
   refine AW.rng t.goals [1, 4, 6, 44, 45] 46 44 (fun p : List Gl × (Nat → Prop) => []) (fun _ p => [.tree 1 4 59 TS Bt none, .hole, .box [.d (.int .i64 n)], .box (t.enc.map .d), .box [.d (.int .i64 0), .d (.str []), .nil0, .nil0], .box [.d (.int .i64 t.kind), .d (.str t.name), .own 0 1, .own 7 p.1.length], .dead, .tree p.1.length 4 31 ((p.1.map (Gl.sh n)).map Gl.enc) p.2 none]) (fun r p => p.1 ++ r = t.goals) ([], fun _ => False) rfl (by simp) rfl (by refine ⟨by simp [mkS], by simp [mkS], by simp only [mkS, List.all_cons, List.all_nil, O.refsLt, C.refsLt, C.refsLt1, all_dmap]; first | done | rfl | (simp; done), ?_⟩; simp [mkS, Abs.get, C.refsLtT, C.refsLt, C.refsLt1]) (fun i x r p hxi hdr hlt hm hinv hnext => ?_) (fun p hinv => ?_)
   ·have hxm := List.mem_of_getElem? hxi
    have hpl : p.1.length + (r.length + 1) = t.goals.length := by rw [← hinv]; simp
    have hx := ih x hxm (by have := Gl.wt_goals hxm; omega) (hgs x hxm)
    unfold gwT at hx
    have hxe : (x.sh n).enc = [.int .i64 x.kind, .str x.name, .sl ((x.terms.map (Tm.sh n)).map Tm.enc), .sl ((x.goals.map (Gl.sh n)).map Gl.enc)] := by
     rw [Gl.sh_eq, Gl.enc_eq]; rfl
    refine AW.hole ?_
    refine AW.hole ?_
    refine run_sound Tryz.func54 mixed 16 _ _ (by kernel_rfl) ?_
    simp only [go_sem, seval, run.eq_1, hlt, idx_of hxi]
    repeat' (first
     | ((first | (refine br_n (fun hq => ?_) (fun hq => ?_)) | (refine idx_intro (fun x hx => have hq := hx; ?_))) <;> (try simp only [go_sem, seval, hlt, idx_of hxi, run.eq_1, hq]))
     | (simp (disch := omega) only [wrap_ok])
     | ((first
      | (refine (ACalls.emb hx [8, 9, 2] rfl rfl rfl (by decide) rfl ?_) <;> (rintro c H' ⟨rfl, e2, B2, e3, B3, rfl⟩ _; refine ⟨rfl, rfl, ?_⟩))
      | (refine ⟨sd, ?_⟩)
      | (refine ⟨by assumption, ?_⟩)) <;> (try simp only [go_sem, seval, hlt, idx_of hxi, run.eq_1]))
     | assumption)
    refine AW.regT ?_
    simp only [go_sem, seval]
    repeat' (first
     | ((first | (refine br_n (fun hq => ?_) (fun hq => ?_)) | (refine idx_intro (fun x hx => have hq := hx; ?_))) <;> (try simp only [go_sem, seval, hq]))
     | (simp (disch := omega) only [wrap_ok])
     | ((first
      | (refine all_intro (fun Bq => ?_))
      | (refine ⟨sd, ?_⟩)
      | (refine ⟨by assumption, ?_⟩)) <;> (try simp only [go_sem, seval]))
     | assumption)
    refine run_sound Tryz.func54 mixed 200 _ _ (by kernel_rfl) ?_
    simp only [go_sem, seval]
    try simp (disch := omega) only [wrap_ok]
    refine hnext (p.1 ++ [x], Bq) _ (by simp [← hinv]) (by refine ⟨by simp [mkS, hxe], by simp [mkS, hxe], by simp only [mkS, List.all_cons, List.all_nil, O.refsLt, C.refsLt, C.refsLt1, all_dmap]; first | done | rfl | (simp; done), ?_⟩; simp [mkS, Abs.get, C.refsLtT, C.refsLt, C.refsLt1])
   ·simp only [List.append_nil] at hinv
    rw [hinv]
    refine AW.placeB 5 3 7 1 rfl rfl rfl rfl (by decide) ?_
    refine run_sound Tryz.func54 mixed 200 _ _ (by kernel_rfl) ?_
    simp only [go_sem, seval]
    repeat' (first
     | (exact ⟨_, _, _, _, rfl⟩)
     | ((first | (refine br_n (fun hq => ?_) (fun hq => ?_)) | (refine idx_intro (fun x hx => have hq := hx; ?_))) <;> (try simp only [go_sem, seval, hq]))
     | (simp (disch := omega) only [wrap_ok])
     | ((first
      | (refine ⟨sd, ?_⟩)
      | (refine ⟨by assumption, ?_⟩)) <;> (try simp only [go_sem, seval]))
     | assumption)
end Go.Proofs.YtgkahnlbgkoplaaGreat
