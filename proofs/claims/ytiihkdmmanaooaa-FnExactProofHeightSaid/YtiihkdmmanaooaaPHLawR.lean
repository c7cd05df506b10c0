/- The statement FnExactProofHeight: the row's own frame, filled with the walk on plain data. -/
import Derived.Test.YtiihkdmmanaooaaRows
import Derived.WalkKit
import Derived.ProofKit
import Derived.OpenShut
import Derived.ShutString
import Derived.Carry
import Derived.Test.YtiihkdmmanaooaaAbs24
import Derived.Test.YtiihkdmmanaooaaPHLaw
namespace Go.Proofs.Ytiihkdmmanaooaa.fnExactProofHeight
open Go.ChangeShapes Go.WideShapes Go.ChangeAt Go.RowKit
set_option linter.unusedVariables false

theorem own : ownKnob Try.prog.godebug = none := by kernel_rfl
theorem closed : Go.Abs.closedB Try.prog [117, 27] = true := by kernel_rfl
theorem agg : Go.Abs.tAgg Try.prog 27 = some true := by kernel_rfl
theorem laid : laidOutB Try.prog = true := by kernel_rfl
theorem readable : Try.prog.readableRec 27 = true := by kernel_rfl
theorem row : 27 < Try.prog.types.size := of_decide_eq_true (by kernel_rfl)

theorem walk (x : List Go.Abs.D) (hx : Go.Abs.Sh Try.prog 27 x) (w : World) (v : Value) (hv : Go.Abs.RdD w (fun b _ => b < w.heap.size) (.agg x) v) :
    Calls Try.prog 5 #[v] w fun e w' => e = .returned (.bool true) ∧ Below w.heap.size w w' := by
  refine (pheight.law x hx).bool w _ rfl (fun i d v' hd hv' => ?_)
  match i with
  | 0 =>
    simp only [List.getElem?_cons_zero, Option.some.injEq] at hd
    subst hd
    have : v' = v := by simpa using hv'.symm
    subst this
    exact hv
  | i + 1 => simp at hd

set_option maxRecDepth 100000 in
theorem lifted (os : Os) (started : os.Started) (H : Type) (enc : TypeId × Value → H) :
    ReturnsInHanded {} Try.checked os 5 .any (Rows.fnExactProofHeightSpec.pre6 enc Try.prog Try.f5 Rows.fnExactProofHeightRow.domain false) (Rows.fnExactProofHeightSpec.post enc Try.prog Try.f5 false true false false) := by
  refine returnsInHanded_of_change (C := Try.checked) own started (by kernel_rfl) Try.func5
    (ChangeSpec.witness6 (enc := enc) (C := Try.checked) false ⟨#[], #[.agg #[.string ByteArray.empty, .int .i64 0, .slice none 0 0, .slice none 0 0]], []⟩ 8 (by kernel_rfl) (by kernel_rfl) (by kernel_rfl) (by kernel_rfl)) ?_
  intro W base args ds gs before hval0 hW hcnd _
  have hval : ∀ (j : Nat) t v, Try.f5.params[j]? = some t → args[j]? = some v → Value.okWide Try.prog W .any base t v := hval0
  have hW' := hW
  have hlt : ∀ p ∈ before, p.block < W.heap.size := fun p hp => hW.lt p hp
  obtain ⟨p, q, hA0, hV, rfl, hfz, hnd⟩ := hW
  have hA : DataW.TrodAll enc Try.prog W 0 (fun _ => true) true Try.f5.params.toList args.toList ds p := hA0
  rw [Try.params5] at hA hval
  obtain ⟨v0, vs0, d0, ds0, p0, q0, hargs, rfl, rfl, h0, r0⟩ := trodAll_cons hA
  obtain ⟨rfl, rfl, rfl⟩ := trodAll_nil r0
  obtain rfl : args = #[v0] := by cases args; simp_all
  obtain ⟨rfl, rfl⟩ := trodVars_none hV
  obtain ⟨x, hx, hr⟩ := Go.Abs.arg_agg agg (hval 0 27 v0 rfl rfl) h0 closed fam.lv27 rfl
  clear hA0 hval0
  simp only [List.append_nil] at hW' hlt
  refine (walk x hx W v0 hr).mono fun e W' ⟨he, hg⟩ => ?_
  subst he
  exact ⟨_, rfl, Go.Abs.post_of_below (pa := p0 ++ []) (pv := []) hW' (fun _ _ _ => (trodAll_cons_mk (shut_bool Try.underlying4 _) trodAll_mk0))
    (fun sp hsp => trodAll_cons_mk (WideElems.Trod_stays laid readable row h0 (fun x hx => hg.same (hlt x hx)) hsp) trodAll_mk0) (fun _ _ => rfl) (by simp)
    hg (ok_one (by kernel_rfl) rfl (okWide_bool_mk Try.underlying4 _))⟩

theorem over : Rows.fnExactProofHeightRow.holds Try.pinned (OpenSpec.ofChange Rows.fnExactProofHeightSpec) :=
  OpenClaim.holds_of_wide 5 Try.f5 rfl rfl rfl rfl rfl rfl rfl ⟨rfl, rfl, rfl, rfl, rfl⟩ rfl rfl rfl rfl rfl (by kernel_rfl) Try.func5 (by kernel_rfl)
    (of_decide_eq_true (by kernel_rfl)) (by unfold Func.isWrapper; first | (rw [if_pos (by decide +kernel)]; kernel_rfl) | (rw [if_neg (by decide +kernel)]; exact ⟨rfl, rfl⟩))
    (fun os started H enc _ => lifted os started H enc)

/-- The statement. -/
theorem proved : Rows.FnExactProofHeightSaid :=
  over
#print axioms proved
end Go.Proofs.Ytiihkdmmanaooaa.fnExactProofHeight
