import Derived.Test.YtfniakcjekooiaaRows
import Derived.WalkKit
import Derived.ProofKit
import Derived.OpenShut
import Derived.ShutString
import Derived.Carry
import Derived.Test.YtfniakcjekooiaaLFnExactComponents
namespace Go.Proofs.Ytfniakcjekooiaa.fnExactComponents
open Go.ChangeShapes Go.WideShapes Go.ChangeAt Go.RowKit
set_option linter.unusedVariables false
theorem own : ownKnob Try.prog.godebug = none := by kernel_rfl
theorem closed : Go.Abs.closedB Try.prog [60, 111, 58] = true := by kernel_rfl
theorem laid : laidOutB Try.prog = true := by kernel_rfl
theorem agg24 : Go.Abs.tAgg Try.prog 24 = some true := by kernel_rfl
theorem readable24 : Try.prog.readableRec 24 = true := by kernel_rfl
theorem row24 : 24 < Try.prog.types.size := of_decide_eq_true (by kernel_rfl)
theorem lf24 : Go.Abs.leaves Try.prog 6 24 = some [.sl 60] := by kernel_rfl
theorem walk (a0 : Go.Abs.Pg) (ha0 : Go.Abs.Sh Try.prog 24 (a0.enc)) (w : World) (v0 : Value) (r0 : Go.Abs.RdD w (fun b _ => b < w.heap.size) (.agg a0.enc) v0) :
  Calls Try.prog 4 #[v0] w fun e w' => e = .returned (.bool true) ∧ Below w.heap.size w w' := by
 refine (lawFnExactComponents a0 ha0).bool w _ rfl (fun i d v' hd hv' => ?_)
 match i with
 | 0 =>
  simp at hd
  subst hd
  have : v' = v0 := by simpa using hv'.symm
  subst this
  exact r0
 | i + 1 => simp at hd
set_option maxRecDepth 100000 in
theorem lifted (os : Os) (started : os.Started) (H : Type) (enc : TypeId × Value → H) :
  ReturnsInHanded {} Try.checked os 4 .any (Rows.fnExactComponentsSpec.pre6 enc Try.prog Try.f4 Rows.fnExactComponentsRow.domain false) (Rows.fnExactComponentsSpec.post enc Try.prog Try.f4 false true false false) := by
 refine returnsInHanded_of_change (C := Try.checked) own started (by kernel_rfl) Try.func4
  (ChangeSpec.witness6 (enc := enc) (C := Try.checked) false ⟨#[], #[.agg #[.slice none 0 0]], []⟩ 8 (by kernel_rfl) (by kernel_rfl) (by kernel_rfl) (by kernel_rfl)) ?_
 intro W base args ds gs before hval0 hW hcnd _
 have hval : ∀ (j : Nat) t v, Try.f4.params[j]? = some t → args[j]? = some v → Value.okWide Try.prog W .any base t v := hval0
 have hW' := hW
 have hlt : ∀ p ∈ before, p.block < W.heap.size := fun p hp => hW.lt p hp
 obtain ⟨p, q, hA0, hV, rfl, hfz, hnd⟩ := hW
 have hA : DataW.TrodAll enc Try.prog W 0 (fun _ => true) true Try.f4.params.toList args.toList ds p := hA0
 rw [Try.params4] at hA hval
 obtain ⟨v0, vs0, d0, ds0, p0, q0, hargs, rfl, rfl, h0, r0⟩ := trodAll_cons hA
 obtain ⟨rfl, rfl, rfl⟩ := trodAll_nil r0
 obtain rfl : args = #[v0] := by cases args; simp_all
 obtain ⟨rfl, rfl⟩ := trodVars_none hV
 obtain ⟨x0, hx0, hr0⟩ := Go.Abs.arg_agg agg24 (hval 0 24 v0 rfl rfl) h0 closed lf24 rfl
 obtain ⟨a0, rfl⟩ := sh_Pg x0 hx0
 clear hA0 hval0
 simp only [List.append_nil] at hW' hlt
 refine (walk a0 hx0 W v0 hr0).mono fun e W' ⟨he, hg⟩ => ?_
 subst he
 exact ⟨_, rfl, Go.Abs.post_of_below (pa := p0 ++ ([])) (pv := []) hW' (fun _ _ _ => (trodAll_cons_mk (shut_bool Try.underlying4 _) trodAll_mk0))
  (fun sp hsp => trodAll_cons_mk (WideElems.Trod_stays laid readable24 row24 h0 (fun x hx => hg.same (hlt x (by simp [hx]))) (fun x hx => hsp x (by simp [hx]))) trodAll_mk0) (fun _ _ => rfl) (by simp)
  hg (ok_one (by kernel_rfl) rfl (okWide_bool_mk Try.underlying4 _))⟩
theorem over : Rows.fnExactComponentsRow.holds Try.pinned (OpenSpec.ofChange Rows.fnExactComponentsSpec) :=
 OpenClaim.holds_of_wide 4 Try.f4 rfl rfl rfl rfl rfl rfl rfl ⟨rfl, rfl, rfl, rfl, rfl⟩ rfl rfl rfl rfl rfl (by kernel_rfl) Try.func4 (by kernel_rfl)
  (of_decide_eq_true (by kernel_rfl)) (by unfold Func.isWrapper; first | (rw [if_pos (by decide +kernel)]; kernel_rfl) | (rw [if_neg (by decide +kernel)]; exact ⟨rfl, rfl⟩))
  (fun os started H enc _ => lifted os started H enc)
theorem proved : Rows.FnExactComponentsSaid :=
 over
#print axioms proved
end Go.Proofs.Ytfniakcjekooiaa.fnExactComponents
