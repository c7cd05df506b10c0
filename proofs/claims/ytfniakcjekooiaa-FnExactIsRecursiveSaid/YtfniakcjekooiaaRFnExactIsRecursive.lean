import Derived.Test.YtfniakcjekooiaaRows
import Derived.WalkKit
import Derived.ProofKit
import Derived.OpenShut
import Derived.ShutString
import Derived.Carry
import Derived.Test.YtfniakcjekooiaaLFnExactIsRecursive
namespace Go.Proofs.Ytfniakcjekooiaa.fnExactIsRecursive
open Go.ChangeShapes Go.WideShapes Go.ChangeAt Go.RowKit
set_option linter.unusedVariables false
theorem own : ownKnob Try.prog.godebug = none := by kernel_rfl
theorem closed : Go.Abs.closedB Try.prog [60, 111, 58] = true := by kernel_rfl
theorem laid : laidOutB Try.prog = true := by kernel_rfl
theorem agg24 : Go.Abs.tAgg Try.prog 24 = some true := by kernel_rfl
theorem readable24 : Try.prog.readableRec 24 = true := by kernel_rfl
theorem row24 : 24 < Try.prog.types.size := of_decide_eq_true (by kernel_rfl)
theorem lf24 : Go.Abs.leaves Try.prog 6 24 = some [.sl 60] := by kernel_rfl
theorem agg9 : Go.Abs.tAgg Try.prog 9 = some false := by kernel_rfl
theorem readable9 : Try.prog.readableRec 9 = true := by kernel_rfl
theorem row9 : 9 < Try.prog.types.size := of_decide_eq_true (by kernel_rfl)
theorem lf9 : Go.Abs.leaves Try.prog 6 9 = some [.str] := by kernel_rfl
theorem walk (a0 : Go.Abs.Pg) (a1 : List UInt8) (ha0 : Go.Abs.Sh Try.prog 24 (a0.enc)) (ha1 : a1.length ≤ maxLen) (w : World) (v0 : Value) (v1 : Value) (r0 : Go.Abs.RdD w (fun b _ => b < w.heap.size) (.agg a0.enc) v0) (r1 : Go.Abs.RdD w (fun b _ => b < w.heap.size) (.str a1) v1) :
  Calls Try.prog 3 #[v0, v1] w fun e w' => e = .returned (.bool true) ∧ Below w.heap.size w w' := by
 refine (lawFnExactIsRecursive a0 a1 ha0 ha1).bool w _ rfl (fun i d v' hd hv' => ?_)
 match i with
 | 0 =>
  simp at hd
  subst hd
  have : v' = v0 := by simpa using hv'.symm
  subst this
  exact r0
 | 1 =>
  simp at hd
  subst hd
  have : v' = v1 := by simpa using hv'.symm
  subst this
  exact r1
 | i + 2 => simp at hd
set_option maxRecDepth 100000 in
theorem lifted (os : Os) (started : os.Started) (H : Type) (enc : TypeId × Value → H) :
  ReturnsInHanded {} Try.checked os 3 .any (Rows.fnExactIsRecursiveSpec.pre6 enc Try.prog Try.f3 Rows.fnExactIsRecursiveRow.domain false) (Rows.fnExactIsRecursiveSpec.post enc Try.prog Try.f3 false true false false) := by
 refine returnsInHanded_of_change (C := Try.checked) own started (by kernel_rfl) Try.func3
  (ChangeSpec.witness6 (enc := enc) (C := Try.checked) false ⟨#[], #[.agg #[.slice none 0 0], .string ByteArray.empty], []⟩ 8 (by kernel_rfl) (by kernel_rfl) (by kernel_rfl) (by kernel_rfl)) ?_
 intro W base args ds gs before hval0 hW hcnd _
 have hval : ∀ (j : Nat) t v, Try.f3.params[j]? = some t → args[j]? = some v → Value.okWide Try.prog W .any base t v := hval0
 have hW' := hW
 have hlt : ∀ p ∈ before, p.block < W.heap.size := fun p hp => hW.lt p hp
 obtain ⟨p, q, hA0, hV, rfl, hfz, hnd⟩ := hW
 have hA : DataW.TrodAll enc Try.prog W 0 (fun _ => true) true Try.f3.params.toList args.toList ds p := hA0
 rw [Try.params3] at hA hval
 obtain ⟨v0, vs0, d0, ds0, p0, q0, hargs, rfl, rfl, h0, r0⟩ := trodAll_cons hA
 obtain ⟨v1, vs1, d1, ds1, p1, q1, rfl, rfl, rfl, h1, r1⟩ := trodAll_cons r0
 obtain ⟨rfl, rfl, rfl⟩ := trodAll_nil r1
 obtain rfl : args = #[v0, v1] := by cases args; simp_all
 obtain ⟨rfl, rfl⟩ := trodVars_none hV
 obtain ⟨x0, hx0, hr0⟩ := Go.Abs.arg_agg agg24 (hval 0 24 v0 rfl rfl) h0 closed lf24 rfl
 obtain ⟨a0, rfl⟩ := sh_Pg x0 hx0
 obtain ⟨x1, hx1, hr1⟩ := Go.Abs.arg_one agg9 (hval 1 9 v1 rfl rfl) h1 closed lf9 rfl
 obtain ⟨a1, rfl, hs1⟩ := Go.Abs.sh_str lf9 hx1
 clear hA0 hval0
 simp only [List.append_nil] at hW' hlt
 refine (walk a0 a1 hx0 hs1 W v0 v1 hr0 hr1).mono fun e W' ⟨he, hg⟩ => ?_
 subst he
 exact ⟨_, rfl, Go.Abs.post_of_below (pa := p0 ++ (p1 ++ ([]))) (pv := []) hW' (fun _ _ _ => (trodAll_cons_mk (shut_bool Try.underlying4 _) trodAll_mk0))
  (fun sp hsp => trodAll_cons_mk (WideElems.Trod_stays laid readable24 row24 h0 (fun x hx => hg.same (hlt x (by simp [hx]))) (fun x hx => hsp x (by simp [hx]))) (trodAll_cons_mk (WideElems.Trod_stays laid readable9 row9 h1 (fun x hx => hg.same (hlt x (by simp [hx]))) (fun x hx => hsp x (by simp [hx]))) trodAll_mk0)) (fun _ _ => rfl) (by simp)
  hg (ok_one (by kernel_rfl) rfl (okWide_bool_mk Try.underlying4 _))⟩
theorem over : Rows.fnExactIsRecursiveRow.holds Try.pinned (OpenSpec.ofChange Rows.fnExactIsRecursiveSpec) :=
 OpenClaim.holds_of_wide 3 Try.f3 rfl rfl rfl rfl rfl rfl rfl ⟨rfl, rfl, rfl, rfl, rfl⟩ rfl rfl rfl rfl rfl (by kernel_rfl) Try.func3 (by kernel_rfl)
  (of_decide_eq_true (by kernel_rfl)) (by unfold Func.isWrapper; first | (rw [if_pos (by decide +kernel)]; kernel_rfl) | (rw [if_neg (by decide +kernel)]; exact ⟨rfl, rfl⟩))
  (fun os started H enc _ => lifted os started H enc)
theorem proved : Rows.FnExactIsRecursiveSaid :=
 over
#print axioms proved
end Go.Proofs.Ytfniakcjekooiaa.fnExactIsRecursive
