import Derived.Test.YtbncaodnnbldmaaGreatW37
import Derived.Test.YtbncaodnnbldmaaGreatW24
import Derived.Test.YtbncaodnnbldmaaGreatFam
namespace Go.Proofs.YtbncaodnnbldmaaGreat
open Go.Abs
set_option maxRecDepth 100000
set_option maxHeartbeats 4000000
set_option linter.unusedSimpArgs false
set_option linter.unusedVariables false
theorem markBindingS_0 (k : Int) : Gives Tryz.prog 109 [.sl [], .int .i64 k] (.d (.int .i64 k)) := by
 have z0 : ((0 : Nat) : Int) = 0 := rfl
 refine ACalls.enter (fn := Tryz.f109) Tryz.func109 rfl (by show 2 ≤ _; decide) ?_
 refine run_sound Tryz.func109 mixed 200 _ _ (by kernel_rfl) ?_
 simp only [go_sem, seval]
 repeat' (first
  | ((first | (refine br_n (fun hq => ?_) (fun hq => ?_)) | (refine idx_intro (fun x hx => have hq := hx; ?_))) <;> (try simp only [go_sem, seval, z0, hq]))
  | (simp (disch := omega) only [wrap_ok])
  | ((first
   | (refine AW.loop ?_ <;> (refine run_sound Tryz.func109 mixed 200 _ _ (by kernel_rfl) ?_))
   | (refine (markText_fn _ sd sd).calls rfl ?_)
   | (refine ⟨sd, ?_⟩)
   | (refine ⟨by assumption, ?_⟩)) <;> (try simp only [go_sem, seval, z0]))
  | assumption)
 all_goals (exfalso; simp at *)
theorem markBindingSS_0 (k : Int) : Gives Tryz.prog 110 [.sl [], .int .i64 k] (.d (.int .i64 k)) := by
 have z0 : ((0 : Nat) : Int) = 0 := rfl
 refine ACalls.enter (fn := Tryz.f110) Tryz.func110 rfl (by show 2 ≤ _; decide) ?_
 refine run_sound Tryz.func110 mixed 200 _ _ (by kernel_rfl) ?_
 simp only [go_sem, seval]
 repeat' (first
  | ((first | (refine br_n (fun hq => ?_) (fun hq => ?_)) | (refine idx_intro (fun x hx => have hq := hx; ?_))) <;> (try simp only [go_sem, seval, z0, hq]))
  | (simp (disch := omega) only [wrap_ok])
  | ((first
   | (refine AW.loop ?_ <;> (refine run_sound Tryz.func110 mixed 200 _ _ (by kernel_rfl) ?_))
   | (refine ⟨sd, ?_⟩)
   | (refine ⟨by assumption, ?_⟩)) <;> (try simp only [go_sem, seval, z0]))
  | assumption)
 all_goals (exfalso; simp at *)
theorem markVarKindS_0 (k : Int) : Gives Tryz.prog 111 [.sl [], .int .i64 k] (.d (.int .i64 k)) := by
 have z0 : ((0 : Nat) : Int) = 0 := rfl
 refine ACalls.enter (fn := Tryz.f111) Tryz.func111 rfl (by show 2 ≤ _; decide) ?_
 refine run_sound Tryz.func111 mixed 200 _ _ (by kernel_rfl) ?_
 simp only [go_sem, seval]
 repeat' (first
  | ((first | (refine br_n (fun hq => ?_) (fun hq => ?_)) | (refine idx_intro (fun x hx => have hq := hx; ?_))) <;> (try simp only [go_sem, seval, z0, hq]))
  | (simp (disch := omega) only [wrap_ok])
  | ((first
   | (refine AW.loop ?_ <;> (refine run_sound Tryz.func111 mixed 200 _ _ (by kernel_rfl) ?_))
   | (refine ⟨sd, ?_⟩)
   | (refine ⟨by assumption, ?_⟩)) <;> (try simp only [go_sem, seval, z0]))
  | assumption)
 all_goals (exfalso; simp at *)
theorem markMarkS_0 (k : Int) : Gives Tryz.prog 112 [.sl [], .int .i64 k] (.d (.int .i64 k)) := by
 have z0 : ((0 : Nat) : Int) = 0 := rfl
 refine ACalls.enter (fn := Tryz.f112) Tryz.func112 rfl (by show 2 ≤ _; decide) ?_
 refine run_sound Tryz.func112 mixed 200 _ _ (by kernel_rfl) ?_
 simp only [go_sem, seval]
 repeat' (first
  | ((first | (refine br_n (fun hq => ?_) (fun hq => ?_)) | (refine idx_intro (fun x hx => have hq := hx; ?_))) <;> (try simp only [go_sem, seval, z0, hq]))
  | (simp (disch := omega) only [wrap_ok])
  | ((first
   | (refine AW.loop ?_ <;> (refine run_sound Tryz.func112 mixed 200 _ _ (by kernel_rfl) ?_))
   | (refine (markText_fn _ sd sd).calls rfl ?_)
   | (refine ⟨sd, ?_⟩)
   | (refine ⟨by assumption, ?_⟩)) <;> (try simp only [go_sem, seval, z0]))
  | assumption)
 all_goals (exfalso; simp at *)
theorem markIntS_0 (k : Int) : Gives Tryz.prog 29 [.sl [], .int .i64 k] (.d (.int .i64 k)) := by
 have z0 : ((0 : Nat) : Int) = 0 := rfl
 refine ACalls.enter (fn := Tryz.f29) Tryz.func29 rfl (by show 2 ≤ _; decide) ?_
 refine run_sound Tryz.func29 mixed 200 _ _ (by kernel_rfl) ?_
 simp only [go_sem, seval]
 repeat' (first
  | ((first | (refine br_n (fun hq => ?_) (fun hq => ?_)) | (refine idx_intro (fun x hx => have hq := hx; ?_))) <;> (try simp only [go_sem, seval, z0, hq]))
  | (simp (disch := omega) only [wrap_ok])
  | ((first
   | (refine AW.loop ?_ <;> (refine run_sound Tryz.func29 mixed 200 _ _ (by kernel_rfl) ?_))
   | (refine ⟨sd, ?_⟩)
   | (refine ⟨by assumption, ?_⟩)) <;> (try simp only [go_sem, seval, z0]))
  | assumption)
 all_goals (exfalso; simp at *)
theorem markStreamS_0 (k : Int) : Gives Tryz.prog 62 [.sl [], .int .i64 k] (.d (.int .i64 k)) := by
 have z0 : ((0 : Nat) : Int) = 0 := rfl
 refine ACalls.enter (fn := Tryz.f62) Tryz.func62 rfl (by show 2 ≤ _; decide) ?_
 refine run_sound Tryz.func62 mixed 200 _ _ (by kernel_rfl) ?_
 simp only [go_sem, seval]
 repeat' (first
  | ((first | (refine br_n (fun hq => ?_) (fun hq => ?_)) | (refine idx_intro (fun x hx => have hq := hx; ?_))) <;> (try simp only [go_sem, seval, z0, hq]))
  | (simp (disch := omega) only [wrap_ok])
  | ((first
   | (refine AW.loop ?_ <;> (refine run_sound Tryz.func62 mixed 200 _ _ (by kernel_rfl) ?_))
   | (refine (markText_fn _ sd sd).calls rfl ?_)
   | (refine ⟨sd, ?_⟩)
   | (refine ⟨by assumption, ?_⟩)) <;> (try simp only [go_sem, seval, z0]))
  | assumption)
 all_goals (exfalso; simp at *)
theorem heldBindingS_0 (k : Int) : Gives Tryz.prog 114 [.sl [], .int .i64 k] (.d (.int .i64 k)) := by
 have z0 : ((0 : Nat) : Int) = 0 := rfl
 refine ACalls.enter (fn := Tryz.f114) Tryz.func114 rfl (by show 2 ≤ _; decide) ?_
 refine run_sound Tryz.func114 mixed 200 _ _ (by kernel_rfl) ?_
 simp only [go_sem, seval]
 repeat' (first
  | ((first | (refine br_n (fun hq => ?_) (fun hq => ?_)) | (refine idx_intro (fun x hx => have hq := hx; ?_))) <;> (try simp only [go_sem, seval, z0, hq]))
  | (simp (disch := omega) only [wrap_ok])
  | ((first
   | (refine AW.loop ?_ <;> (refine run_sound Tryz.func114 mixed 200 _ _ (by kernel_rfl) ?_))
   | (refine (markText_fn _ sd sd).calls rfl ?_)
   | (refine (markText_fn _ sd sd).callQ rfl ?_)
   | (refine ⟨sd, ?_⟩)
   | (refine ⟨by assumption, ?_⟩)) <;> (try simp only [go_sem, seval, z0]))
  | assumption)
 all_goals (exfalso; simp at *)
theorem heldBindingSS_0 (k : Int) : Gives Tryz.prog 115 [.sl [], .int .i64 k] (.d (.int .i64 k)) := by
 have z0 : ((0 : Nat) : Int) = 0 := rfl
 refine ACalls.enter (fn := Tryz.f115) Tryz.func115 rfl (by show 2 ≤ _; decide) ?_
 refine run_sound Tryz.func115 mixed 200 _ _ (by kernel_rfl) ?_
 simp only [go_sem, seval]
 repeat' (first
  | ((first | (refine br_n (fun hq => ?_) (fun hq => ?_)) | (refine idx_intro (fun x hx => have hq := hx; ?_))) <;> (try simp only [go_sem, seval, z0, hq]))
  | (simp (disch := omega) only [wrap_ok])
  | ((first
   | (refine AW.loop ?_ <;> (refine run_sound Tryz.func115 mixed 200 _ _ (by kernel_rfl) ?_))
   | (refine ⟨sd, ?_⟩)
   | (refine ⟨by assumption, ?_⟩)) <;> (try simp only [go_sem, seval, z0]))
  | assumption)
 all_goals (exfalso; simp at *)
theorem heldVarKindS_0 (k : Int) : Gives Tryz.prog 116 [.sl [], .int .i64 k] (.d (.int .i64 k)) := by
 have z0 : ((0 : Nat) : Int) = 0 := rfl
 refine ACalls.enter (fn := Tryz.f116) Tryz.func116 rfl (by show 2 ≤ _; decide) ?_
 refine run_sound Tryz.func116 mixed 200 _ _ (by kernel_rfl) ?_
 simp only [go_sem, seval]
 repeat' (first
  | ((first | (refine br_n (fun hq => ?_) (fun hq => ?_)) | (refine idx_intro (fun x hx => have hq := hx; ?_))) <;> (try simp only [go_sem, seval, z0, hq]))
  | (simp (disch := omega) only [wrap_ok])
  | ((first
   | (refine AW.loop ?_ <;> (refine run_sound Tryz.func116 mixed 200 _ _ (by kernel_rfl) ?_))
   | (refine ⟨sd, ?_⟩)
   | (refine ⟨by assumption, ?_⟩)) <;> (try simp only [go_sem, seval, z0]))
  | assumption)
 all_goals (exfalso; simp at *)
theorem heldMarkS_0 (k : Int) : Gives Tryz.prog 117 [.sl [], .int .i64 k] (.d (.int .i64 k)) := by
 have z0 : ((0 : Nat) : Int) = 0 := rfl
 refine ACalls.enter (fn := Tryz.f117) Tryz.func117 rfl (by show 2 ≤ _; decide) ?_
 refine run_sound Tryz.func117 mixed 200 _ _ (by kernel_rfl) ?_
 simp only [go_sem, seval]
 repeat' (first
  | ((first | (refine br_n (fun hq => ?_) (fun hq => ?_)) | (refine idx_intro (fun x hx => have hq := hx; ?_))) <;> (try simp only [go_sem, seval, z0, hq]))
  | (simp (disch := omega) only [wrap_ok])
  | ((first
   | (refine AW.loop ?_ <;> (refine run_sound Tryz.func117 mixed 200 _ _ (by kernel_rfl) ?_))
   | (refine (markText_fn _ sd sd).calls rfl ?_)
   | (refine (markText_fn _ sd sd).callQ rfl ?_)
   | (refine ⟨sd, ?_⟩)
   | (refine ⟨by assumption, ?_⟩)) <;> (try simp only [go_sem, seval, z0]))
  | assumption)
 all_goals (exfalso; simp at *)
theorem heldIntS_0 (k : Int) : Gives Tryz.prog 30 [.sl [], .int .i64 k] (.d (.int .i64 k)) := by
 have z0 : ((0 : Nat) : Int) = 0 := rfl
 refine ACalls.enter (fn := Tryz.f30) Tryz.func30 rfl (by show 2 ≤ _; decide) ?_
 refine run_sound Tryz.func30 mixed 200 _ _ (by kernel_rfl) ?_
 simp only [go_sem, seval]
 repeat' (first
  | ((first | (refine br_n (fun hq => ?_) (fun hq => ?_)) | (refine idx_intro (fun x hx => have hq := hx; ?_))) <;> (try simp only [go_sem, seval, z0, hq]))
  | (simp (disch := omega) only [wrap_ok])
  | ((first
   | (refine AW.loop ?_ <;> (refine run_sound Tryz.func30 mixed 200 _ _ (by kernel_rfl) ?_))
   | (refine ⟨sd, ?_⟩)
   | (refine ⟨by assumption, ?_⟩)) <;> (try simp only [go_sem, seval, z0]))
  | assumption)
 all_goals (exfalso; simp at *)
theorem heldStreamS_0 (k : Int) : Gives Tryz.prog 65 [.sl [], .int .i64 k] (.d (.int .i64 k)) := by
 have z0 : ((0 : Nat) : Int) = 0 := rfl
 refine ACalls.enter (fn := Tryz.f65) Tryz.func65 rfl (by show 2 ≤ _; decide) ?_
 refine run_sound Tryz.func65 mixed 200 _ _ (by kernel_rfl) ?_
 simp only [go_sem, seval]
 repeat' (first
  | ((first | (refine br_n (fun hq => ?_) (fun hq => ?_)) | (refine idx_intro (fun x hx => have hq := hx; ?_))) <;> (try simp only [go_sem, seval, z0, hq]))
  | (simp (disch := omega) only [wrap_ok])
  | ((first
   | (refine AW.loop ?_ <;> (refine run_sound Tryz.func65 mixed 200 _ _ (by kernel_rfl) ?_))
   | (refine (markText_fn _ sd sd).calls rfl ?_)
   | (refine (markText_fn _ sd sd).callQ rfl ?_)
   | (refine ⟨sd, ?_⟩)
   | (refine ⟨by assumption, ?_⟩)) <;> (try simp only [go_sem, seval, z0]))
  | assumption)
 all_goals (exfalso; simp at *)
theorem eqBindingS_0 : Gives Tryz.prog 139 [.sl [], .sl []] (.d (.bool true)) := by
 have z0 : ((0 : Nat) : Int) = 0 := rfl
 refine ACalls.enter (fn := Tryz.f139) Tryz.func139 rfl (by show 2 ≤ _; decide) ?_
 refine run_sound Tryz.func139 mixed 200 _ _ (by kernel_rfl) ?_
 simp only [go_sem, seval]
 repeat' (first
  | ((first | (refine br_n (fun hq => ?_) (fun hq => ?_)) | (refine idx_intro (fun x hx => have hq := hx; ?_))) <;> (try simp only [go_sem, seval, z0, hq]))
  | (simp (disch := omega) only [wrap_ok])
  | ((first
   | (refine AW.loop ?_ <;> (refine run_sound Tryz.func139 mixed 200 _ _ (by kernel_rfl) ?_))
   | (refine ⟨sd, ?_⟩)
   | (refine ⟨by assumption, ?_⟩)) <;> (try simp only [go_sem, seval, z0]))
  | assumption)
 all_goals (exfalso; simp at *)
theorem eqBindingSS_0 : Gives Tryz.prog 140 [.sl [], .sl []] (.d (.bool true)) := by
 have z0 : ((0 : Nat) : Int) = 0 := rfl
 refine ACalls.enter (fn := Tryz.f140) Tryz.func140 rfl (by show 2 ≤ _; decide) ?_
 refine run_sound Tryz.func140 mixed 200 _ _ (by kernel_rfl) ?_
 simp only [go_sem, seval]
 repeat' (first
  | ((first | (refine br_n (fun hq => ?_) (fun hq => ?_)) | (refine idx_intro (fun x hx => have hq := hx; ?_))) <;> (try simp only [go_sem, seval, z0, hq]))
  | (simp (disch := omega) only [wrap_ok])
  | ((first
   | (refine AW.loop ?_ <;> (refine run_sound Tryz.func140 mixed 200 _ _ (by kernel_rfl) ?_))
   | (refine ⟨sd, ?_⟩)
   | (refine ⟨by assumption, ?_⟩)) <;> (try simp only [go_sem, seval, z0]))
  | assumption)
 all_goals (exfalso; simp at *)
theorem eqVarKindS_0 : Gives Tryz.prog 141 [.sl [], .sl []] (.d (.bool true)) := by
 have z0 : ((0 : Nat) : Int) = 0 := rfl
 refine ACalls.enter (fn := Tryz.f141) Tryz.func141 rfl (by show 2 ≤ _; decide) ?_
 refine run_sound Tryz.func141 mixed 200 _ _ (by kernel_rfl) ?_
 simp only [go_sem, seval]
 repeat' (first
  | ((first | (refine br_n (fun hq => ?_) (fun hq => ?_)) | (refine idx_intro (fun x hx => have hq := hx; ?_))) <;> (try simp only [go_sem, seval, z0, hq]))
  | (simp (disch := omega) only [wrap_ok])
  | ((first
   | (refine AW.loop ?_ <;> (refine run_sound Tryz.func141 mixed 200 _ _ (by kernel_rfl) ?_))
   | (refine ⟨sd, ?_⟩)
   | (refine ⟨by assumption, ?_⟩)) <;> (try simp only [go_sem, seval, z0]))
  | assumption)
 all_goals (exfalso; simp at *)
theorem eqMarkS_0 : Gives Tryz.prog 142 [.sl [], .sl []] (.d (.bool true)) := by
 have z0 : ((0 : Nat) : Int) = 0 := rfl
 refine ACalls.enter (fn := Tryz.f142) Tryz.func142 rfl (by show 2 ≤ _; decide) ?_
 refine run_sound Tryz.func142 mixed 200 _ _ (by kernel_rfl) ?_
 simp only [go_sem, seval]
 repeat' (first
  | ((first | (refine br_n (fun hq => ?_) (fun hq => ?_)) | (refine idx_intro (fun x hx => have hq := hx; ?_))) <;> (try simp only [go_sem, seval, z0, hq]))
  | (simp (disch := omega) only [wrap_ok])
  | ((first
   | (refine AW.loop ?_ <;> (refine run_sound Tryz.func142 mixed 200 _ _ (by kernel_rfl) ?_))
   | (refine ⟨sd, ?_⟩)
   | (refine ⟨by assumption, ?_⟩)) <;> (try simp only [go_sem, seval, z0]))
  | assumption)
 all_goals (exfalso; simp at *)
theorem eqIntS_0 : Gives Tryz.prog 26 [.sl [], .sl []] (.d (.bool true)) := by
 have z0 : ((0 : Nat) : Int) = 0 := rfl
 refine ACalls.enter (fn := Tryz.f26) Tryz.func26 rfl (by show 2 ≤ _; decide) ?_
 refine run_sound Tryz.func26 mixed 200 _ _ (by kernel_rfl) ?_
 simp only [go_sem, seval]
 repeat' (first
  | ((first | (refine br_n (fun hq => ?_) (fun hq => ?_)) | (refine idx_intro (fun x hx => have hq := hx; ?_))) <;> (try simp only [go_sem, seval, z0, hq]))
  | (simp (disch := omega) only [wrap_ok])
  | ((first
   | (refine AW.loop ?_ <;> (refine run_sound Tryz.func26 mixed 200 _ _ (by kernel_rfl) ?_))
   | (refine ⟨sd, ?_⟩)
   | (refine ⟨by assumption, ?_⟩)) <;> (try simp only [go_sem, seval, z0]))
  | assumption)
 all_goals (exfalso; simp at *)
theorem eqStreamS_0 : Gives Tryz.prog 56 [.sl [], .sl []] (.d (.bool true)) := by
 have z0 : ((0 : Nat) : Int) = 0 := rfl
 refine ACalls.enter (fn := Tryz.f56) Tryz.func56 rfl (by show 2 ≤ _; decide) ?_
 refine run_sound Tryz.func56 mixed 200 _ _ (by kernel_rfl) ?_
 simp only [go_sem, seval]
 repeat' (first
  | ((first | (refine br_n (fun hq => ?_) (fun hq => ?_)) | (refine idx_intro (fun x hx => have hq := hx; ?_))) <;> (try simp only [go_sem, seval, z0, hq]))
  | (simp (disch := omega) only [wrap_ok])
  | ((first
   | (refine AW.loop ?_ <;> (refine run_sound Tryz.func56 mixed 200 _ _ (by kernel_rfl) ?_))
   | (refine ⟨sd, ?_⟩)
   | (refine ⟨by assumption, ?_⟩)) <;> (try simp only [go_sem, seval, z0]))
  | assumption)
 all_goals (exfalso; simp at *)
theorem markState_0 (n k : Int) (h0 : 0 ≤ k) : Gives Tryz.prog 108 [.agg [.int .i64 n, .sl [], .sl [], .sl [], .sl []], .int .i64 k] (.d (.int .i64 k)) := by
 refine ACalls.enter (fn := Tryz.f108) Tryz.func108 rfl (by show 2 ≤ _; decide) ?_
 refine run_sound Tryz.func108 mixed 200 _ _ (by kernel_rfl) ?_
 simp only [go_sem, seval]
 repeat' (first
  | ((first | (refine br_n (fun hq => ?_) (fun hq => ?_)) | (refine idx_intro (fun x hx => have hq := hx; ?_))) <;> (try simp only [go_sem, seval, hq]))
  | (simp (disch := omega) only [wrap_ok])
  | ((first
   | (refine (markBindingSS_0 _).calls rfl ?_)
   | (refine (markBindingS_0 _).calls rfl ?_)
   | (refine (markVarKindS_0 _).calls rfl ?_)
   | (refine (markMarkS_0 _).calls rfl ?_)
   | (refine ⟨sd, ?_⟩)
   | (refine ⟨by assumption, ?_⟩)) <;> (try simp only [go_sem, seval]))
  | assumption)
 all_goals first | (exfalso; omega) | rfl
theorem markBranch_0 (n k : Int) (h0 : 0 ≤ k) : Gives Tryz.prog 61 [.agg [.int .i64 n, .sl [], .sl [], .sl [], .sl [], .sl []], .int .i64 k] (.d (.int .i64 k)) := by
 refine ACalls.enter (fn := Tryz.f61) Tryz.func61 rfl (by show 2 ≤ _; decide) ?_
 refine run_sound Tryz.func61 mixed 200 _ _ (by kernel_rfl) ?_
 simp only [go_sem, seval]
 repeat' (first
  | ((first | (refine br_n (fun hq => ?_) (fun hq => ?_)) | (refine idx_intro (fun x hx => have hq := hx; ?_))) <;> (try simp only [go_sem, seval, hq]))
  | (simp (disch := omega) only [wrap_ok])
  | ((first
   | (refine (markState_0 _ _ h0).calls rfl ?_)
   | (refine (markIntS_0 _).calls rfl ?_)
   | (refine ⟨sd, ?_⟩)
   | (refine ⟨by assumption, ?_⟩)) <;> (try simp only [go_sem, seval]))
  | assumption)
 all_goals first | (exfalso; omega) | rfl
theorem heldState_0 (n k : Int) (h0 : 0 ≤ k) : Gives Tryz.prog 113 [.agg [.int .i64 n, .sl [], .sl [], .sl [], .sl []], .int .i64 k] (.d (.int .i64 k)) := by
 refine ACalls.enter (fn := Tryz.f113) Tryz.func113 rfl (by show 2 ≤ _; decide) ?_
 refine run_sound Tryz.func113 mixed 200 _ _ (by kernel_rfl) ?_
 simp only [go_sem, seval]
 repeat' (first
  | ((first | (refine br_n (fun hq => ?_) (fun hq => ?_)) | (refine idx_intro (fun x hx => have hq := hx; ?_))) <;> (try simp only [go_sem, seval, hq]))
  | (simp (disch := omega) only [wrap_ok])
  | ((first
   | (refine (heldBindingSS_0 _).calls rfl ?_)
   | (refine (heldBindingS_0 _).calls rfl ?_)
   | (refine (heldVarKindS_0 _).calls rfl ?_)
   | (refine (heldMarkS_0 _).calls rfl ?_)
   | (refine ⟨sd, ?_⟩)
   | (refine ⟨by assumption, ?_⟩)) <;> (try simp only [go_sem, seval]))
  | assumption)
 all_goals first | (exfalso; omega) | rfl
theorem heldBranch_0 (n k : Int) (h0 : 0 ≤ k) : Gives Tryz.prog 63 [.agg [.int .i64 n, .sl [], .sl [], .sl [], .sl [], .sl []], .int .i64 k] (.d (.int .i64 k)) := by
 refine ACalls.enter (fn := Tryz.f63) Tryz.func63 rfl (by show 2 ≤ _; decide) ?_
 refine run_sound Tryz.func63 mixed 200 _ _ (by kernel_rfl) ?_
 simp only [go_sem, seval]
 repeat' (first
  | ((first | (refine br_n (fun hq => ?_) (fun hq => ?_)) | (refine idx_intro (fun x hx => have hq := hx; ?_))) <;> (try simp only [go_sem, seval, hq]))
  | (simp (disch := omega) only [wrap_ok])
  | ((first
   | (refine (heldState_0 _ _ h0).calls rfl ?_)
   | (refine (heldIntS_0 _).calls rfl ?_)
   | (refine ⟨sd, ?_⟩)
   | (refine ⟨by assumption, ?_⟩)) <;> (try simp only [go_sem, seval]))
  | assumption)
 all_goals first | (exfalso; omega) | rfl
theorem eqState_0 (n : Int) : Gives Tryz.prog 106 [.agg [.int .i64 n, .sl [], .sl [], .sl [], .sl []], .agg [.int .i64 n, .sl [], .sl [], .sl [], .sl []]] (.d (.bool true)) := by
 refine ACalls.enter (fn := Tryz.f106) Tryz.func106 rfl (by show 2 ≤ _; decide) ?_
 refine run_sound Tryz.func106 mixed 200 _ _ (by kernel_rfl) ?_
 simp only [go_sem, seval]
 repeat' (first
  | ((first | (refine br_n (fun hq => ?_) (fun hq => ?_)) | (refine idx_intro (fun x hx => have hq := hx; ?_))) <;> (try simp only [go_sem, seval, hq]))
  | (simp (disch := omega) only [wrap_ok])
  | ((first
   | (refine eqBindingSS_0.calls rfl ?_)
   | (refine eqBindingS_0.calls rfl ?_)
   | (refine eqVarKindS_0.calls rfl ?_)
   | (refine eqMarkS_0.calls rfl ?_)
   | (refine ⟨sd, ?_⟩)
   | (refine ⟨by assumption, ?_⟩)) <;> (try simp only [go_sem, seval]))
  | assumption)
 all_goals first | (exfalso; omega) | rfl | simp_all
theorem eqBranch_0 (n : Int) : Gives Tryz.prog 55 [.agg [.int .i64 n, .sl [], .sl [], .sl [], .sl [], .sl []], .agg [.int .i64 n, .sl [], .sl [], .sl [], .sl [], .sl []]] (.d (.bool true)) := by
 refine ACalls.enter (fn := Tryz.f55) Tryz.func55 rfl (by show 2 ≤ _; decide) ?_
 refine run_sound Tryz.func55 mixed 200 _ _ (by kernel_rfl) ?_
 simp only [go_sem, seval]
 repeat' (first
  | ((first | (refine br_n (fun hq => ?_) (fun hq => ?_)) | (refine idx_intro (fun x hx => have hq := hx; ?_))) <;> (try simp only [go_sem, seval, hq]))
  | (simp (disch := omega) only [wrap_ok])
  | ((first
   | (refine (eqState_0 _).calls rfl ?_)
   | (refine eqIntS_0.calls rfl ?_)
   | (refine ⟨sd, ?_⟩)
   | (refine ⟨by assumption, ?_⟩)) <;> (try simp only [go_sem, seval]))
  | assumption)
 all_goals first | (exfalso; omega) | rfl | simp_all
theorem eqStream_0 (k n : Int) (g : Gl) (he : Gives Tryz.prog 18 [.agg g.enc, .agg g.enc] (.d (.bool true))) : Gives Tryz.prog 17 [.agg (strmD k n g), .agg (strmD k n g)] (.d (.bool true)) := by
 rw [Gl.enc_eq] at he
 unfold strmD
 refine ACalls.enter (fn := Tryz.f17) Tryz.func17 rfl (by show 2 ≤ _; decide) ?_
 refine run_sound Tryz.func17 mixed 200 _ _ (by kernel_rfl) ?_
 simp only [go_sem, seval]
 repeat' (first
  | ((first | (refine br_n (fun hq => ?_) (fun hq => ?_)) | (refine idx_intro (fun x hx => have hq := hx; ?_))) <;> (try simp only [go_sem, seval, hq]))
  | (simp (disch := omega) only [wrap_ok])
  | ((first
   | (refine (eqBranch_0 _).calls rfl ?_)
   | (refine he.calls rfl ?_)
   | (refine eqStreamS_0.calls rfl ?_)
   | (refine ⟨sd, ?_⟩)
   | (refine ⟨by assumption, ?_⟩)) <;> (try simp only [go_sem, seval]))
  | assumption)
 all_goals first | (exfalso; omega) | rfl | simp_all
theorem heldGoal_fn (kd : Int) (nm : List UInt8) (ts : List Tm) (gs : List Gl) (k : Int) (h0 : 0 ≤ k) (h1 : k + Tm.mcnts ts + Gl.mcnts gs ≤ 1000000000) :
  Gives Tryz.prog 64 [.agg [.int .i64 kd, .str nm, .sl ((Tm.mrks k ts).map Tm.enc), .sl ((Gl.mrks (k + Tm.mcnts ts) gs).map Gl.enc)], .int .i64 k] (.d (.int .i64 (k + Tm.mcnts ts + Gl.mcnts gs))) := by
 have e1 := hTT_all ts k h0 (by omega)
 have e2 := hGT_all gs (k + Tm.mcnts ts) (by omega) h1
 refine ACalls.enter (fn := Tryz.f64) Tryz.func64 rfl (by show 2 ≤ _; decide) ?_
 refine run_sound Tryz.func64 mixed 200 _ _ (by kernel_rfl) ?_
 simp only [go_sem, seval]
 repeat' (first
  | ((first | (refine br_n (fun hq => ?_) (fun hq => ?_)) | (refine idx_intro (fun x hx => have hq := hx; ?_))) <;> (try simp only [go_sem, seval, hq]))
  | (simp (disch := omega) only [wrap_ok])
  | ((first
   | (refine e1.calls rfl ?_)
   | (refine e2.calls rfl ?_)
   | (refine ⟨sd, ?_⟩)
   | (refine ⟨by assumption, ?_⟩)) <;> (try simp only [go_sem, seval]))
  | assumption)
 all_goals first | (exfalso; omega) | rfl
def strmM (k n m : Int) (g : Gl) : List D := [.int .i64 k, .int .i64 n, .sl [], .sl [], .sl [], .sl [], .sl [], .int .i64 g.kind, .str g.name, .sl ((Tm.mrks m g.terms).map Tm.enc), .sl ((Gl.mrks (m + Tm.mcnts g.terms) g.goals).map Gl.enc), .sl []]
theorem heldStream_0 (kd n : Int) (g : Gl) (k : Int) (h0 : 0 ≤ k) (h1 : k + Tm.mcnts g.terms + Gl.mcnts g.goals ≤ 1000000000) :
  Gives Tryz.prog 21 [.agg (strmM kd n k g), .int .i64 k] (.d (.int .i64 (k + Tm.mcnts g.terms + Gl.mcnts g.goals))) := by
 have e1 := heldBranch_0 n k h0
 have e2 := heldGoal_fn g.kind g.name g.terms g.goals k h0 h1
 unfold strmM
 refine ACalls.enter (fn := Tryz.f21) Tryz.func21 rfl (by show 2 ≤ _; decide) ?_
 refine run_sound Tryz.func21 mixed 200 _ _ (by kernel_rfl) ?_
 simp only [go_sem, seval]
 repeat' (first
  | ((first | (refine br_n (fun hq => ?_) (fun hq => ?_)) | (refine idx_intro (fun x hx => have hq := hx; ?_))) <;> (try simp only [go_sem, seval, hq]))
  | (simp (disch := omega) only [wrap_ok])
  | ((first
   | (refine e1.calls rfl ?_)
   | (refine e2.calls rfl ?_)
   | (refine (heldStreamS_0 _).calls rfl ?_)
   | (refine ⟨sd, ?_⟩)
   | (refine ⟨by assumption, ?_⟩)) <;> (try simp only [go_sem, seval]))
  | assumption)
 all_goals first | (exfalso; omega) | rfl
theorem markGoal_T3 (t : Gl) (k : Int) (q0 z0 e0 q1 z1 e1 q2 z2 e2 : Nat) (xs0 xs1 xs2 : List (List D)) (B0 B1 B2 : Nat → Prop) (q q' e e' : Nat) (B B' : Nat → Prop) (h0 : 0 ≤ k) (h1 : k + Tm.mcnts t.terms + Gl.mcnts t.goals ≤ 1000000000) :
  ACalls Tryz.prog 19 [.agg [.d (.int .i64 t.kind), .d (.str t.name), .own 3 q, .own 4 q'], .d (.int .i64 k)] [.tree q0 z0 e0 xs0 B0 none, .tree q1 z1 e1 xs1 B1 none, .tree q2 z2 e2 xs2 B2 none, .tree q 4 e (t.terms.map Tm.enc) B none, .tree q' 4 e' (t.goals.map Gl.enc) B' none]
   (fun c H' => c = .d (.int .i64 (k + Tm.mcnts t.terms + Gl.mcnts t.goals)) ∧ ∃ Ba Bb, H' = [.tree q0 z0 e0 xs0 B0 none, .tree q1 z1 e1 xs1 B1 none, .tree q2 z2 e2 xs2 B2 none, .tree q 4 e ((Tm.mrks k t.terms).map Tm.enc) Ba none, .tree q' 4 e' ((Gl.mrks (k + Tm.mcnts t.terms) t.goals).map Gl.enc) Bb none]) := by
 refine ACalls.enter (fn := Tryz.f19) Tryz.func19 rfl (by show 2 ≤ _; decide) ?_
 refine run_sound Tryz.func19 mixed 200 _ _ (by kernel_rfl) ?_
 simp only [go_sem, seval]
 repeat' (first
  | (exact ⟨_, _, rfl⟩)
  | ((first | (refine br_n (fun hq => ?_) (fun hq => ?_)) | (refine idx_intro (fun x hx => have hq := hx; ?_))) <;> (try simp only [go_sem, seval, C.at1, hq]))
  | (simp (disch := omega) only [wrap_ok])
  | ((first
   | (refine (mTT_all t.terms k q e B (by omega) (by omega)).at1 rfl 3 rfl rfl ?_ <;> (rintro c o' ⟨rfl, B4, ho⟩; cases ho; refine ⟨rfl, rfl, ?_⟩))
   | (refine (mGT_all t.goals (k + Tm.mcnts t.terms) q' e' B' (by omega) (by omega)).at1 rfl 4 rfl rfl ?_ <;> (rintro c o' ⟨rfl, B4, ho⟩; cases ho; refine ⟨rfl, rfl, ?_⟩))
   | (refine ⟨sd, ?_⟩)
   | (refine ⟨by assumption, ?_⟩)) <;> (try simp only [go_sem, seval, C.at1]))
  | assumption)
theorem markGoal_T1 (t : Gl) (k : Int) (q0 z0 e0 : Nat) (xs0 : List (List D)) (B0 : Nat → Prop) (q q' e e' : Nat) (B B' : Nat → Prop) (h0 : 0 ≤ k) (h1 : k + Tm.mcnts t.terms + Gl.mcnts t.goals ≤ 1000000000) :
  ACalls Tryz.prog 19 [.agg [.d (.int .i64 t.kind), .d (.str t.name), .own 1 q, .own 2 q'], .d (.int .i64 k)] [.tree q0 z0 e0 xs0 B0 none, .tree q 4 e (t.terms.map Tm.enc) B none, .tree q' 4 e' (t.goals.map Gl.enc) B' none]
   (fun c H' => c = .d (.int .i64 (k + Tm.mcnts t.terms + Gl.mcnts t.goals)) ∧ ∃ Ba Bb, H' = [.tree q0 z0 e0 xs0 B0 none, .tree q 4 e ((Tm.mrks k t.terms).map Tm.enc) Ba none, .tree q' 4 e' ((Gl.mrks (k + Tm.mcnts t.terms) t.goals).map Gl.enc) Bb none]) := by
 refine ACalls.enter (fn := Tryz.f19) Tryz.func19 rfl (by show 2 ≤ _; decide) ?_
 refine run_sound Tryz.func19 mixed 200 _ _ (by kernel_rfl) ?_
 simp only [go_sem, seval]
 repeat' (first
  | (exact ⟨_, _, rfl⟩)
  | ((first | (refine br_n (fun hq => ?_) (fun hq => ?_)) | (refine idx_intro (fun x hx => have hq := hx; ?_))) <;> (try simp only [go_sem, seval, C.at1, hq]))
  | (simp (disch := omega) only [wrap_ok])
  | ((first
   | (refine (mTT_all t.terms k q e B (by omega) (by omega)).at1 rfl 1 rfl rfl ?_ <;> (rintro c o' ⟨rfl, B4, ho⟩; cases ho; refine ⟨rfl, rfl, ?_⟩))
   | (refine (mGT_all t.goals (k + Tm.mcnts t.terms) q' e' B' (by omega) (by omega)).at1 rfl 2 rfl rfl ?_ <;> (rintro c o' ⟨rfl, B4, ho⟩; cases ho; refine ⟨rfl, rfl, ?_⟩))
   | (refine ⟨sd, ?_⟩)
   | (refine ⟨by assumption, ?_⟩)) <;> (try simp only [go_sem, seval, C.at1]))
  | assumption)
theorem markStream_T3 (kd n : Int) (t : Gl) (k : Int) (q0 z0 e0 q1 z1 e1 q2 z2 e2 : Nat) (xs0 xs1 xs2 : List (List D)) (B0 B1 B2 : Nat → Prop) (q q' e e' : Nat) (B B' : Nat → Prop) (h0 : 0 ≤ k) (h1 : k + Tm.mcnts t.terms + Gl.mcnts t.goals ≤ 1000000000) :
  ACalls Tryz.prog 20 [.agg [.d (.int .i64 kd), .d (.int .i64 n), .d (.sl []), .d (.sl []), .d (.sl []), .d (.sl []), .d (.sl []), .d (.int .i64 t.kind), .d (.str t.name), .own 3 q, .own 4 q', .d (.sl [])], .d (.int .i64 k)] [.tree q0 z0 e0 xs0 B0 none, .tree q1 z1 e1 xs1 B1 none, .tree q2 z2 e2 xs2 B2 none, .tree q 4 e (t.terms.map Tm.enc) B none, .tree q' 4 e' (t.goals.map Gl.enc) B' none]
   (fun c H' => c = .d (.int .i64 (k + Tm.mcnts t.terms + Gl.mcnts t.goals)) ∧ ∃ Ba Bb, H' = [.tree q0 z0 e0 xs0 B0 none, .tree q1 z1 e1 xs1 B1 none, .tree q2 z2 e2 xs2 B2 none, .tree q 4 e ((Tm.mrks k t.terms).map Tm.enc) Ba none, .tree q' 4 e' ((Gl.mrks (k + Tm.mcnts t.terms) t.goals).map Gl.enc) Bb none]) := by
 have hmg := markGoal_T3 t k q0 z0 e0 q1 z1 e1 q2 z2 e2 xs0 xs1 xs2 B0 B1 B2 q q' e e' B B' h0 h1
 refine ACalls.enter (fn := Tryz.f20) Tryz.func20 rfl (by show 2 ≤ _; decide) ?_
 refine run_sound Tryz.func20 mixed 200 _ _ (by kernel_rfl) ?_
 simp only [go_sem, seval]
 repeat' (first
  | (exact ⟨_, _, rfl⟩)
  | ((first | (refine br_n (fun hq => ?_) (fun hq => ?_)) | (refine idx_intro (fun x hx => have hq := hx; ?_))) <;> (try simp only [go_sem, seval, hq]))
  | (simp (disch := omega) only [wrap_ok])
  | ((first
   | (refine (markBranch_0 _ _ h0).calls rfl ?_)
   | (refine hmg.frame (X := [_]) rfl rfl ?_ <;> (rintro c H' ⟨rfl, Ba, Bb, rfl⟩ _))
   | (refine (markStreamS_0 _).calls rfl ?_)
   | (refine ⟨sd, ?_⟩)
   | (refine ⟨by assumption, ?_⟩)) <;> (try simp only [go_sem, seval]))
  | assumption)
end Go.Proofs.YtbncaodnnbldmaaGreat
