import Derived.Test.YtgmfoklmkpdjdaaRows
import Derived.WalkKit
import Derived.ProofKit
import Derived.OpenShut
import Derived.ShutString
import Derived.Carry
import Derived.Test.YtgmfoklmkpdjdaaLFnClauseChoices
namespace Go.Proofs.Ytgmfoklmkpdjdaa.fnClauseChoices
open Go.ChangeShapes Go.WideShapes Go.ChangeAt Go.RowKit
set_option linter.unusedVariables false
theorem own : ownKnob Try.prog.godebug = none := by kernel_rfl
theorem closed : Go.Abs.closedB Try.prog [5] = true := by kernel_rfl
theorem laid : laidOutB Try.prog = true := by kernel_rfl
theorem agg22 : Go.Abs.tAgg Try.prog 22 = some false := by kernel_rfl
theorem readable22 : Try.prog.readableRec 22 = true := by kernel_rfl
theorem row22 : 22 < Try.prog.types.size := of_decide_eq_true (by kernel_rfl)
theorem lf22 : Go.Abs.leaves Try.prog 6 22 = some [.sl 5] := by kernel_rfl
theorem walk (a0 : List UInt8) (w : World) (v0 : Value) (r0 : Go.Abs.RdD w (fun b _ => b < w.heap.size) (.sl (Go.Abs.bytesD a0)) v0) :
  Calls Try.prog 3 #[v0] w fun e w' => e = .returned (.bool true) ∧ Below w.heap.size w w' := by
 refine (lawFnClauseChoices a0 ).bool w _ rfl (fun i d v' hd hv' => ?_)
 match i with
 | 0 =>
  simp at hd
  subst hd
  have : v' = v0 := by simpa using hv'.symm
  subst this
  exact r0
 | i + 1 => simp at hd
set_option maxRecDepth 100000 in
theorem lifted (os : Os) (started : os.Started) (H : Type) (enc : TypeId × Value → H) :
  ReturnsInHanded {} Try.checked os 3 .any (Rows.fnClauseChoicesSpec.pre6 enc Try.prog Try.f3 Rows.fnClauseChoicesRow.domain false) (Rows.fnClauseChoicesSpec.post enc Try.prog Try.f3 false true false false) := by
 refine returnsInHanded_of_change (C := Try.checked) own started (by kernel_rfl) Try.func3
  (ChangeSpec.witness6 (enc := enc) (C := Try.checked) false ⟨#[], #[.slice none 0 0], []⟩ 8 (by kernel_rfl) (by kernel_rfl) (by kernel_rfl) (by kernel_rfl)) ?_
 intro W base args ds gs before hval0 hW hcnd _
 have hval : ∀ (j : Nat) t v, Try.f3.params[j]? = some t → args[j]? = some v → Value.okWide Try.prog W .any base t v := hval0
 have hW' := hW
 have hlt : ∀ p ∈ before, p.block < W.heap.size := fun p hp => hW.lt p hp
 obtain ⟨p, q, hA0, hV, rfl, hfz, hnd⟩ := hW
 have hA : DataW.TrodAll enc Try.prog W 0 (fun _ => true) true Try.f3.params.toList args.toList ds p := hA0
 rw [Try.params3] at hA hval
 obtain ⟨v0, vs0, d0, ds0, p0, q0, hargs, rfl, rfl, h0, r0⟩ := trodAll_cons hA
 obtain ⟨rfl, rfl, rfl⟩ := trodAll_nil r0
 obtain rfl : args = #[v0] := by cases args; simp_all
 obtain ⟨rfl, rfl⟩ := trodVars_none hV
 obtain ⟨x0, hx0, hr0⟩ := Go.Abs.arg_one agg22 (hval 0 22 v0 rfl rfl) h0 closed lf22 rfl
 obtain ⟨a0, rfl⟩ := Go.Abs.sl_bytes lf22 (by kernel_rfl) hx0
 clear hA0 hval0
 simp only [List.append_nil] at hW' hlt
 refine (walk a0  W v0 hr0).mono fun e W' ⟨he, hg⟩ => ?_
 subst he
 exact ⟨_, rfl, Go.Abs.post_of_below (pa := p0 ++ ([])) (pv := []) hW' (fun _ _ _ => (trodAll_cons_mk (shut_bool Try.underlying4 _) trodAll_mk0))
  (fun sp hsp => trodAll_cons_mk (WideElems.Trod_stays laid readable22 row22 h0 (fun x hx => hg.same (hlt x (by simp [hx]))) (fun x hx => hsp x (by simp [hx]))) trodAll_mk0) (fun _ _ => rfl) (by simp)
  hg (ok_one (by kernel_rfl) rfl (okWide_bool_mk Try.underlying4 _))⟩
theorem over : Rows.fnClauseChoicesRow.holds Try.pinned (OpenSpec.ofChange Rows.fnClauseChoicesSpec) :=
 OpenClaim.holds_of_wide 3 Try.f3 rfl rfl rfl rfl rfl rfl rfl ⟨rfl, rfl, rfl, rfl, rfl⟩ rfl rfl rfl rfl rfl (by kernel_rfl) Try.func3 (by kernel_rfl)
  (of_decide_eq_true (by kernel_rfl)) (by unfold Func.isWrapper; first | (rw [if_pos (by decide +kernel)]; kernel_rfl) | (rw [if_neg (by decide +kernel)]; exact ⟨rfl, rfl⟩))
  (fun os started H enc _ => lifted os started H enc)
theorem proved : Rows.FnClauseChoicesSaid :=
 over
#print axioms proved
end Go.Proofs.Ytgmfoklmkpdjdaa.fnClauseChoices
