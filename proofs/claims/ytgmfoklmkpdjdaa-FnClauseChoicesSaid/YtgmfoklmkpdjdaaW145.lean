import Derived.Test.YtgmfoklmkpdjdaaW91
import Derived.Test.YtgmfoklmkpdjdaaP14
namespace Go.Proofs.Ytgmfoklmkpdjdaa
open Go.Abs
set_option maxRecDepth 100000
set_option maxHeartbeats 8000000
set_option linter.unusedSimpArgs false
set_option linter.unusedVariables false
theorem l13Make_fn (k : Int) (ts : List Tm) (gs : List Gl) : Gives Try.prog 44 [.int .i64 k, .sl (ts.map Tm.enc), .sl (gs.map Gl.enc)] (.d (.agg (Gl.mk k [] ts gs).enc)) := by
 rw [Gl.enc_eq]
 refine ACalls.enter (fn := Try.f44) Try.func44 rfl (by show 3 ≤ _; decide) ?_
 refine run_sound Try.func44 mixed 200 _ _ (by kernel_rfl) ?_
 simp only [go_sem, seval]
 repeat' (first
  | ((first | (refine br_n (fun hq => ?_) (fun hq => ?_)) | (refine idx_intro (fun x hx => have hq := hx; ?_))) <;> (try simp only [go_sem, seval, hq]))
  | (simp (disch := omega) only [wrap_ok])
  | ((first
   | (refine ⟨sd, ?_⟩)
   | (refine ⟨by assumption, ?_⟩)) <;> (try simp only [go_sem, seval]))
  | assumption)
 all_goals rfl
def cuG (B : List UInt8) (Q : Gl → Prop) (c : C) (H : List O) : Prop := ∃ g i' h', c = .d (.agg (Gl.enc g)) ∧ H = [cuO B i' h'] ∧ Q g ∧ 0 ≤ i' ∧ i' ≤ B.length
theorem l13Make2_fn (k : Int) (u v : V) : Gives Try.prog 44 [.int .i64 k, .sl [u.enc, v.enc], .sl []] (.d (.agg (Gl.mk k [] ([u, v].map V.tm) []).enc)) := by
 have h := l13Make_fn k ([u, v].map V.tm) []
 rw [enc_tms] at h
 exact h
theorem l13Make1_fn (k : Int) (u : V) : Gives Try.prog 44 [.int .i64 k, .sl [u.enc], .sl []] (.d (.agg (Gl.mk k [] ([u].map V.tm) []).enc)) := by
 have h := l13Make_fn k ([u].map V.tm) []
 rw [enc_tms] at h
 exact h
theorem l13Make0_fn (k : Int) : Gives Try.prog 44 [.int .i64 k, .sl [], .sl []] (.d (.agg (Gl.mk k [] [] []).enc)) := l13Make_fn k [] []
def smpG (n : Int) (g : Gl) : Prop := ∀ (S : List (List UInt8 × Int)) (mode : Int), g.drA S n mode
theorem smp2 {n k : Int} {u v : V} (hu : drawn 7 n u) (hv : drawn 7 n v) (hk : k = 2 ∨ k = 3) : smpG n ⟨k, [], [u, v].map V.tm, []⟩ := fun S mode => by
 refine Gl.drA_of ?_ (fun x hx => ?_) (by simp) (by simp) (by omega) (by omega) (by omega) (fun h => by omega)
 ·rcases hk with rfl | rfl <;> rfl
 ·simp at hx; rcases hx with rfl | rfl <;> assumption
theorem smp1 {n k : Int} {u : V} (hu : drawn 7 n u) (hk : k = 4 ∨ k = 5) : smpG n ⟨k, [], [u].map V.tm, []⟩ := fun S mode => by
 refine Gl.drA_of ?_ (fun x hx => ?_) (by simp) (by simp) (by omega) (by omega) (by omega) (fun h => by omega)
 ·rcases hk with rfl | rfl <;> rfl
 ·simp at hx; subst hx; exact hu
theorem smp6 {n : Int} {v : V} (hv : drawn 7 n v) : smpG n ⟨6, [], [V.sym [97], v].map V.tm, []⟩ := fun S mode => by
 refine Gl.drA_of ?_ (fun x hx => ?_) (by simp) (by simp) (by omega) (by omega) (by omega) (fun h => by omega)
 ·rfl
 ·simp at hx; rcases hx with rfl | rfl
  ·exact ⟨by decide, by decide, rfl⟩
  ·exact hv
theorem smp0 {n k : Int} (hk : k = 0 ∨ k = 1) : smpG n ⟨k, [], [], []⟩ := fun S mode => by
 refine Gl.drA_of (vs := []) ?_ (fun x hx => by cases hx) (by simp) (by simp) (by omega) (by omega) (by omega) (fun h => by omega)
 rcases hk with rfl | rfl <;> rfl
theorem l13Simple_R (B : List UInt8) (hB : B.length ≤ 1048576) (n : Int) (hn : n ≤ 100) (pure : Bool) (i h : Int) (h0 : 0 ≤ i) (h1 : i ≤ B.length) : ACalls Try.prog 42 [.ptr 0 0, .d (.int .i64 n), .d (.bool pure)] [cuO B i h] (cuG B (smpG n)) := by
 have hda := l02Draw_R B hB n hn 1 i h (by omega) h0 h1
 refine ACalls.enter (fn := Try.f42) Try.func42 rfl (by show 3 ≤ _; decide) ?_
 refine run_sound Try.func42 mixed 4 _ _ (by kernel_rfl) ?_
 simp only [go_sem, seval, run.eq_1]
 repeat' (first
  | ((first | (refine br_n (fun hq => ?_) (fun hq => ?_)) | (refine idx_intro (fun x hx => have hq := hx; ?_))) <;> (try simp only [go_sem, seval, run.eq_1, hq]))
  | (simp (disch := omega) only [wrap_ok])
  | ((first
   | (refine (ACalls.emb hda [0] rfl rfl rfl (by decide) rfl ?_) <;> (rintro c H' ⟨u, i2, h2, rfl, rfl, du, b3, b4⟩ _; refine ⟨rfl, rfl, ?_⟩))
   | (refine (l02SymV_fn _).calls rfl ?_)
   | (refine (l02SymV_fn _).callQ rfl ?_)
   | (refine ⟨sd, ?_⟩)
   | (refine ⟨by assumption, ?_⟩)) <;> (try simp only [go_sem, seval, run.eq_1]))
  | assumption)
 have hdb := l02Draw_R B hB n hn 4 i2 h2 (by omega) b3 b4
 refine run_sound Try.func42 mixed 2 _ _ (by kernel_rfl) ?_
 simp only [go_sem, seval, run.eq_1]
 repeat' (first
  | ((first | (refine br_n (fun hq => ?_) (fun hq => ?_)) | (refine idx_intro (fun x hx => have hq := hx; ?_))) <;> (try simp only [go_sem, seval, run.eq_1, hq]))
  | (simp (disch := omega) only [wrap_ok])
  | ((first
   | (refine (ACalls.emb hdb [0] rfl rfl rfl (by decide) rfl ?_) <;> (rintro c H' ⟨v, i3, h3, rfl, rfl, dv, c3, c4⟩ _; refine ⟨rfl, rfl, ?_⟩))
   | (refine (l02SymV_fn _).calls rfl ?_)
   | (refine (l02SymV_fn _).callQ rfl ?_)
   | (refine ⟨sd, ?_⟩)
   | (refine ⟨by assumption, ?_⟩)) <;> (try simp only [go_sem, seval, run.eq_1]))
  | assumption)
 have hbl := l01Below_R B i3 h3 hB c3 c4 16
 refine run_sound Try.func42 mixed 2 _ _ (by kernel_rfl) ?_
 simp only [go_sem, seval, run.eq_1]
 repeat' (first
  | ((first | (refine br_n (fun hq => ?_) (fun hq => ?_)) | (refine idx_intro (fun x hx => have hq := hx; ?_))) <;> (try simp only [go_sem, seval, run.eq_1, hq]))
  | (simp (disch := omega) only [wrap_ok])
  | ((first
   | (refine (ACalls.emb hbl [0] rfl rfl rfl (by decide) rfl ?_) <;> (rintro c H' ⟨x, i4, h4, rfl, rfl, ⟨x0, x1⟩, d3, d4⟩ _; refine ⟨rfl, rfl, ?_⟩))
   | (refine (l02SymV_fn _).calls rfl ?_)
   | (refine (l02SymV_fn _).callQ rfl ?_)
   | (refine ⟨sd, ?_⟩)
   | (refine ⟨by assumption, ?_⟩)) <;> (try simp only [go_sem, seval, run.eq_1]))
  | assumption)
 have du7 := drawn_le du (show drawS 1 ≤ 7 by decide)
 have dv7 := drawn_le dv (show drawS 4 ≤ 7 by decide)
 clear du dv
 have hb8 := l01Below_R B i4 h4 hB d3 d4 8
 have hue := V.enc_eq u
 have hve := V.enc_eq v
 have k2 := l13Make2_fn 2 u v
 have k3 := l13Make2_fn 3 u v
 have k4 := l13Make1_fn 4 u
 have k5 := l13Make1_fn 5 u
 have k6 := l13Make2_fn 6 (V.sym [97]) v
 have hsy := l02SymV_fn [97]
 cases pure with
 | true =>
  refine run_sound Try.func42 mixed 200 _ _ (by kernel_rfl) ?_
  simp only [go_sem, seval]
  repeat' (first
   | (exact ⟨_, _, _, rfl, rfl, smp2 du7 dv7 (by simp), d3, d4⟩)
   | (exact ⟨_, _, _, rfl, rfl, smp1 du7 (by simp), d3, d4⟩)
   | (exact ⟨_, _, _, rfl, rfl, smp0 (by simp), e3, e4⟩)
   | ((first | (refine br_n (fun hq => ?_) (fun hq => ?_)) | (refine idx_intro (fun x hx => have hq := hx; ?_))) <;> (try simp only [go_sem, seval, hue, hq]))
   | (simp (disch := omega) only [wrap_ok])
   | ((first
    | (refine k2.calls rfl ?_)
    | (refine k3.calls rfl ?_)
    | (refine k4.calls rfl ?_)
    | (refine k5.calls rfl ?_)
    | (refine (ACalls.emb hb8 [0] rfl rfl rfl (by decide) rfl ?_) <;> (rintro c H' ⟨y, i5, h5, rfl, rfl, ⟨y0, y1⟩, e3, e4⟩ _; rcases (show y = 0 ∨ y = 1 ∨ y = 2 ∨ y = 3 ∨ y = 4 ∨ y = 5 ∨ y = 6 ∨ y = 7 by omega) with rfl | rfl | rfl | rfl | rfl | rfl | rfl | rfl <;> refine ⟨rfl, rfl, ?_⟩))
    | (refine (l13Make0_fn 0).calls rfl ?_)
    | (refine (l13Make0_fn 1).calls rfl ?_)
    | (refine (l02SymV_fn _).calls rfl ?_)
    | (refine (l02SymV_fn _).callQ rfl ?_)
    | (refine ⟨sd, ?_⟩)
    | (refine ⟨by assumption, ?_⟩)) <;> (try simp only [go_sem, seval, hue]))
   | assumption)
  all_goals first | (exfalso; omega) | skip
 | false =>
  by_cases h11 : x = 11
  ·subst h11
   refine run_sound Try.func42 mixed 19 _ _ (by kernel_rfl) ?_
   simp only [go_sem, seval, run.eq_1]
   repeat' (first
    | ((first | (refine br_n (fun hq => ?_) (fun hq => ?_)) | (refine idx_intro (fun x hx => have hq := hx; ?_))) <;> (try simp only [go_sem, seval, run.eq_1, hq]))
    | (simp (disch := omega) only [wrap_ok])
    | ((first
     | (refine (l02SymV_fn _).calls rfl ?_)
     | (refine (l02SymV_fn _).callQ rfl ?_)
     | (refine ⟨sd, ?_⟩)
     | (refine ⟨by assumption, ?_⟩)) <;> (try simp only [go_sem, seval, run.eq_1]))
    | assumption)
   refine AW.drawA mixed #[true, true, true, true, true] [(3, .box (v.enc.map .d))] [] [1, 0, 2, 3, 4] [] none (by kernel_rfl) trivial (by simp [holdsB]) ?_
   simp only [go_sem, seval]
   repeat' (first
    | ((first | (refine br_n (fun hq => ?_) (fun hq => ?_)) | (refine idx_intro (fun x hx => have hq := hx; ?_))) <;> (try simp only [go_sem, seval, hq]))
    | (simp (disch := omega) only [wrap_ok])
    | ((first
     | (refine hsy.calls rfl ?_)
     | (refine ACalls.nilArg (pre := [_, _]) (post := []) (k6.calls rfl ?_))
     | (refine (l02SymV_fn _).calls rfl ?_)
     | (refine (l02SymV_fn _).callQ rfl ?_)
     | (refine ⟨sd, ?_⟩)
     | (refine ⟨by assumption, ?_⟩)) <;> (try simp only [go_sem, seval]))
    | assumption)
   refine run_sound Try.func42 mixed 200 _ _ (by kernel_rfl) ?_
   simp only [go_sem, seval]
   repeat' (first
    | (exact ⟨_, _, _, rfl, rfl, smp6 dv7, d3, d4⟩)
    | ((first | (refine br_n (fun hq => ?_) (fun hq => ?_)) | (refine idx_intro (fun x hx => have hq := hx; ?_))) <;> (try simp only [go_sem, seval, hq]))
    | (simp (disch := omega) only [wrap_ok])
    | ((first
     | (refine (l02SymV_fn _).calls rfl ?_)
     | (refine (l02SymV_fn _).callQ rfl ?_)
     | (refine ⟨sd, ?_⟩)
     | (refine ⟨by assumption, ?_⟩)) <;> (try simp only [go_sem, seval]))
    | assumption)
  ·refine run_sound Try.func42 mixed 200 _ _ (by kernel_rfl) ?_
   simp only [go_sem, seval, h11]
   repeat' (first
    | (exact ⟨_, _, _, rfl, rfl, smp2 du7 dv7 (by simp), d3, d4⟩)
    | (exact ⟨_, _, _, rfl, rfl, smp1 du7 (by simp), d3, d4⟩)
    | (exact ⟨_, _, _, rfl, rfl, smp0 (by simp), e3, e4⟩)
    | ((first | (refine br_n (fun hq => ?_) (fun hq => ?_)) | (refine idx_intro (fun x hx => have hq := hx; ?_))) <;> (try simp only [go_sem, seval, h11, hq]))
    | (simp (disch := omega) only [wrap_ok])
    | ((first
     | (refine k2.calls rfl ?_)
     | (refine k3.calls rfl ?_)
     | (refine k4.calls rfl ?_)
     | (refine k5.calls rfl ?_)
     | (refine (ACalls.emb hb8 [0] rfl rfl rfl (by decide) rfl ?_) <;> (rintro c H' ⟨y, i5, h5, rfl, rfl, ⟨y0, y1⟩, e3, e4⟩ _; rcases (show y = 0 ∨ y = 1 ∨ y = 2 ∨ y = 3 ∨ y = 4 ∨ y = 5 ∨ y = 6 ∨ y = 7 by omega) with rfl | rfl | rfl | rfl | rfl | rfl | rfl | rfl <;> refine ⟨rfl, rfl, ?_⟩))
     | (refine (l13Make0_fn 0).calls rfl ?_)
     | (refine (l13Make0_fn 1).calls rfl ?_)
     | (refine (l02SymV_fn _).calls rfl ?_)
     | (refine (l02SymV_fn _).callQ rfl ?_)
     | (refine ⟨sd, ?_⟩)
     | (refine ⟨by assumption, ?_⟩)) <;> (try simp only [go_sem, seval, h11]))
    | assumption)
   all_goals first | (exfalso; omega) | skip
end Go.Proofs.Ytgmfoklmkpdjdaa
