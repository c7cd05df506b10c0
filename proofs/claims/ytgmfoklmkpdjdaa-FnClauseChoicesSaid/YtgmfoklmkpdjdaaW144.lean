import Derived.Test.YtgmfoklmkpdjdaaW91
import Derived.Test.YtgmfoklmkpdjdaaP14
namespace Go.Abs
def libN : Nat → List UInt8
 | 0 => [108, 105, 115, 116, 115]
 | 1 => [103, 114, 97, 112, 104]
 | 2 => [115, 101, 116, 115]
 | _ => [103, 97, 109, 101, 115]
end Go.Abs
namespace Go.Proofs.Ytgmfoklmkpdjdaa
open Go.Abs
set_option maxRecDepth 100000
set_option maxHeartbeats 8000000
set_option linter.unusedSimpArgs false
set_option linter.unusedVariables false
theorem LibraryText_fn0 : Gives Try.prog 10 [.str [108, 105, 115, 116, 115]] (.d (.str libT0)) := by
 have hmx : maxLen = 9223372036854775807 := rfl
 refine ACalls.enter (fn := Try.f10) Try.func10 rfl (by show 1 ≤ _; decide) ?_
 refine run_sound Try.func10 mixed 200 _ _ (by kernel_rfl) ?_
 simp only [go_sem, seval]
 repeat' (first
  | ((first | (refine br_n (fun hq => ?_) (fun hq => ?_)) | (refine idx_intro (fun x hx => have hq := hx; ?_))) <;> (try simp only [go_sem, seval, hmx, hq]))
  | (simp (disch := omega) only [wrap_ok])
  | ((first
   | (refine AW.loop ?_ <;> (refine run_sound Try.func10 mixed 200 _ _ (by kernel_rfl) ?_))
   | (refine AW.round ?_ <;> (refine run_sound Try.func10 mixed 200 _ _ (by kernel_rfl) ?_))
   | (refine ⟨sd, ?_⟩)
   | (refine ⟨by assumption, ?_⟩)) <;> (try simp only [go_sem, seval, hmx]))
  | assumption)
 all_goals kernel_rfl
theorem LibraryText_fn1 : Gives Try.prog 10 [.str [103, 114, 97, 112, 104]] (.d (.str libT1)) := by
 have hmx : maxLen = 9223372036854775807 := rfl
 have d0 : ¬ ([103, 114, 97, 112, 104] : List UInt8) = [108, 105, 115, 116, 115] := by decide
 refine ACalls.enter (fn := Try.f10) Try.func10 rfl (by show 1 ≤ _; decide) ?_
 refine run_sound Try.func10 mixed 200 _ _ (by kernel_rfl) ?_
 simp only [go_sem, seval, d0]
 repeat' (first
  | ((first | (refine br_n (fun hq => ?_) (fun hq => ?_)) | (refine idx_intro (fun x hx => have hq := hx; ?_))) <;> (try simp only [go_sem, seval, d0, hq]))
  | (simp (disch := omega) only [wrap_ok])
  | ((first
   | (refine AW.loop ?_ <;> (refine run_sound Try.func10 mixed 200 _ _ (by kernel_rfl) ?_))
   | (refine AW.round ?_ <;> (refine run_sound Try.func10 mixed 200 _ _ (by kernel_rfl) ?_))
   | (refine ⟨sd, ?_⟩)
   | (refine ⟨by assumption, ?_⟩)) <;> (try simp only [go_sem, seval, d0]))
  | assumption)
 all_goals kernel_rfl
theorem LibraryText_fn2 : Gives Try.prog 10 [.str [115, 101, 116, 115]] (.d (.str libT2)) := by
 have hmx : maxLen = 9223372036854775807 := rfl
 have d0 : ¬ ([115, 101, 116, 115] : List UInt8) = [108, 105, 115, 116, 115] := by decide
 have d1 : ¬ ([115, 101, 116, 115] : List UInt8) = [103, 114, 97, 112, 104] := by decide
 refine ACalls.enter (fn := Try.f10) Try.func10 rfl (by show 1 ≤ _; decide) ?_
 refine run_sound Try.func10 mixed 200 _ _ (by kernel_rfl) ?_
 simp only [go_sem, seval, d0, d1]
 repeat' (first
  | ((first | (refine br_n (fun hq => ?_) (fun hq => ?_)) | (refine idx_intro (fun x hx => have hq := hx; ?_))) <;> (try simp only [go_sem, seval, d0, d1, hq]))
  | (simp (disch := omega) only [wrap_ok])
  | ((first
   | (refine AW.loop ?_ <;> (refine run_sound Try.func10 mixed 200 _ _ (by kernel_rfl) ?_))
   | (refine AW.round ?_ <;> (refine run_sound Try.func10 mixed 200 _ _ (by kernel_rfl) ?_))
   | (refine ⟨sd, ?_⟩)
   | (refine ⟨by assumption, ?_⟩)) <;> (try simp only [go_sem, seval, d0, d1]))
  | assumption)
 all_goals kernel_rfl
theorem LibraryText_fn3 : Gives Try.prog 10 [.str [103, 97, 109, 101, 115]] (.d (.str libT3)) := by
 have hmx : maxLen = 9223372036854775807 := rfl
 have d0 : ¬ ([103, 97, 109, 101, 115] : List UInt8) = [108, 105, 115, 116, 115] := by decide
 have d1 : ¬ ([103, 97, 109, 101, 115] : List UInt8) = [103, 114, 97, 112, 104] := by decide
 have d2 : ¬ ([103, 97, 109, 101, 115] : List UInt8) = [115, 101, 116, 115] := by decide
 refine ACalls.enter (fn := Try.f10) Try.func10 rfl (by show 1 ≤ _; decide) ?_
 refine run_sound Try.func10 mixed 200 _ _ (by kernel_rfl) ?_
 simp only [go_sem, seval, d0, d1, d2]
 repeat' (first
  | ((first | (refine br_n (fun hq => ?_) (fun hq => ?_)) | (refine idx_intro (fun x hx => have hq := hx; ?_))) <;> (try simp only [go_sem, seval, d0, d1, d2, hq]))
  | (simp (disch := omega) only [wrap_ok])
  | ((first
   | (refine AW.loop ?_ <;> (refine run_sound Try.func10 mixed 200 _ _ (by kernel_rfl) ?_))
   | (refine AW.round ?_ <;> (refine run_sound Try.func10 mixed 200 _ _ (by kernel_rfl) ?_))
   | (refine ⟨sd, ?_⟩)
   | (refine ⟨by assumption, ?_⟩)) <;> (try simp only [go_sem, seval, d0, d1, d2]))
  | assumption)
 all_goals kernel_rfl
theorem LibraryText_fn (k : Nat) : Gives Try.prog 10 [.str (libN k)] (.d (.str (libT k))) := match k with
 | 0 => LibraryText_fn0
 | 1 => LibraryText_fn1
 | 2 => LibraryText_fn2
 | _ + 3 => LibraryText_fn3
end Go.Proofs.Ytgmfoklmkpdjdaa
