import Derived.Test.YtbncaodnnbldmaaDoorRows
import Derived.WalkKit
import Derived.ProofKit
import Derived.OpenShut
import Derived.ShutString
import Derived.Carry
import Derived.Test.YtbncaodnnbldmaaDoorLFnExactFormatFact
import Derived.Test.YtbncaodnnbldmaaDoorCards
import Derived.Test.YtbncaodnnbldmaaDoorTie
import Derived.Lay
import Derived.SevenTiedAt
import Derived.Stop.Joined
import Derived.Stop.LaidErr
namespace Go.Proofs.YtbncaodnnbldmaaDoor.fnExactFormatFact
open Go.ChangeShapes Go.WideShapes Go.ChangeAt Go.RowKit
set_option linter.unusedVariables false
theorem own : ownKnob Tryd.prog.godebug = none := by kernel_rfl
theorem closed : Go.Abs.closedB Tryd.prog [55] = true := by kernel_rfl
theorem laid : laidOutB Tryd.prog = true := by kernel_rfl
theorem agg36 : Go.Abs.tAgg Tryd.prog 36 = some true := by kernel_rfl
theorem readable36 : Tryd.prog.readableRec 36 = true := by kernel_rfl
theorem row36 : 36 < Tryd.prog.types.size := of_decide_eq_true (by kernel_rfl)
theorem lf36 : Go.Abs.leaves Tryd.prog 6 36 = some [.str, .sl 55] := by kernel_rfl
theorem walk (a0 : Go.Abs.Fc) (ha0 : Go.Abs.Sh Tryd.prog 36 (a0.enc)) (w : World) (v0 : Value) (r0 : Go.Abs.RdD w (fun b _ => b < w.heap.size) (.agg a0.enc) v0) (ht : Lib.TabIs Tryd.prog w "internal/strconv.uint64pow10" .u64 Lib.pow10Tab) :
  Calls Tryd.prog 4 #[v0] w fun e w' => e = .returned (.bool true) ∧ Below w.heap.size w w' := by
 refine Go.Abs.ACalls.boolT (args := [.agg a0.enc]) (g := 0) (tv := Lib.pow10Tab.map fun z => Value.int .u64 z) (lawFnExactFormatFact a0 ha0) w _ rfl (fun i d v' hd hv' => ?_) (fun j => (World.var?_cell (by kernel_rfl) ht j).trans (by simp)) (by decide)
 match i with
 | 0 =>
  simp at hd
  subst hd
  have : v' = v0 := by simpa using hv'.symm
  subst this
  exact r0
 | i + 1 => simp at hd
theorem laid_met (os : Os) (args : Array Value) : laidMetH Tryd.prog Rows.fnExactFormatFactRow.laid ((World.laidAll Tryd.prog os Rows.fnExactFormatFactRow.laid).forCall (fun _ _ => 0) ⟨#[], args, []⟩).memory :=
 laidMet_laidAll (laid := Rows.fnExactFormatFactRow.laid) args (by kernel_rfl) (by kernel_rfl)
theorem tabs {W : World} (h : laidMetH Tryd.prog Rows.fnExactFormatFactRow.laid W) : Lib.TabIs Tryd.prog W "internal/strconv.uint64pow10" .u64 Lib.pow10Tab := by
 have h0 : laidMet Tryd.prog [("math/bits.deBruijn32tab", Rows.laid_math_bits_deBruijn32tab), ("math/bits.deBruijn64tab", Rows.laid_math_bits_deBruijn64tab), ("internal/strconv.uint64pow10", Rows.laid_internal_strconv_uint64pow10)] W := h
 have e : (Rows.laid_internal_strconv_uint64pow10 : DataW Unit) = Lib.tabData .u64 Lib.pow10Tab := by kernel_rfl
 rw [e] at h0
 exact Lib.tabIs_of_head (g := 0) (t := 129) (e := 111) (n := 20) (by kernel_rfl) (by kernel_rfl) (by kernel_rfl) (by kernel_rfl) (by kernel_rfl) (by kernel_rfl) h0.tail.tail
set_option maxRecDepth 100000 in
theorem lifted (os : Os) (started : os.Started) (H : Type) (enc : TypeId × Value → H) :
  ReturnsInHanded {} Tryd.checked os 4 .any (fun w args => (Rows.fnExactFormatFactSpec.pre enc Tryd.prog Tryd.f4 [] false w args ∧ laidMetH Tryd.prog Rows.fnExactFormatFactRow.laid w) ∧ sizedMet enc Tryd.prog Tryd.f4 (OpenSpec.ofChange Rows.fnExactFormatFactSpec) false w args)
   (Rows.fnExactFormatFactSpec.post enc Tryd.prog Tryd.f4 false true false false) := by
 refine returnsInHanded_of_change_and (C := Tryd.checked) (X := fun w _ => laidMetH Tryd.prog Rows.fnExactFormatFactRow.laid w) (fun _ _ _ hh h => h.of_heap hh) own started (by kernel_rfl) Tryd.func4
  (ChangeSpec.witness_at (enc := enc) (C := Tryd.checked) (os := os) (X := fun w _ => laidMetH Tryd.prog Rows.fnExactFormatFactRow.laid w) false (World.laidAll Tryd.prog os Rows.fnExactFormatFactRow.laid) #[.agg #[.string ByteArray.empty, .slice none 0 0]] 8 (World.laidAll_os _ _ _) (by kernel_rfl) (by kernel_rfl) (by kernel_rfl) (by kernel_rfl) (by kernel_rfl) (laid_met os _)) ?_
 intro W base args ds gs before hval0 hW hcnd _ hL _
 have hval : ∀ (j : Nat) t v, Tryd.f4.params[j]? = some t → args[j]? = some v → Value.okWide Tryd.prog W .any base t v := hval0
 have hW' := hW
 have hlt : ∀ p ∈ before, p.block < W.heap.size := fun p hp => hW.lt p hp
 obtain ⟨p, q, hA0, hV, rfl, hfz, hnd⟩ := hW
 have hA : DataW.TrodAll enc Tryd.prog W 0 (fun _ => true) true Tryd.f4.params.toList args.toList ds p := hA0
 rw [Tryd.params4] at hA hval
 obtain ⟨v0, vs0, d0, ds0, p0, q0, hargs, rfl, rfl, h0, r0⟩ := trodAll_cons hA
 obtain ⟨rfl, rfl, rfl⟩ := trodAll_nil r0
 obtain rfl : args = #[v0] := by cases args; simp_all
 obtain ⟨rfl, rfl⟩ := trodVars_none hV
 obtain ⟨x0, hx0, hr0⟩ := Go.Abs.arg_agg agg36 (hval 0 36 v0 rfl rfl) h0 closed lf36 rfl
 obtain ⟨a0, rfl⟩ := sh_Fc x0 hx0
 clear hA0 hval0
 simp only [List.append_nil] at hW' hlt
 refine (walk a0 hx0 W v0 hr0 (tabs hL)).mono fun e W' ⟨he, hg⟩ => ?_
 subst he
 exact ⟨_, rfl, Go.Abs.post_of_below (pa := p0 ++ ([])) (pv := []) hW' (fun _ _ _ => (trodAll_cons_mk (shut_bool Tryd.underlying4 _) trodAll_mk0))
  (fun sp hsp => trodAll_cons_mk (WideElems.Trod_stays laid readable36 row36 h0 (fun x hx => hg.same (hlt x (by simp [hx]))) (fun x hx => hsp x (by simp [hx]))) trodAll_mk0) (fun _ _ => rfl) (by simp)
  hg (ok_one (by kernel_rfl) rfl (okWide_bool_mk Tryd.underlying4 _))⟩
theorem over : Rows.fnExactFormatFactRow.holds Tryd.pinned (OpenSpec.ofChange Rows.fnExactFormatFactSpec) :=
 OpenClaim.holds_of_wide 4 Tryd.f4 rfl rfl rfl rfl rfl rfl rfl ⟨rfl, rfl, rfl, rfl, rfl⟩ rfl rfl rfl rfl rfl (by kernel_rfl) Tryd.func4 (by kernel_rfl)
  (of_decide_eq_true (by kernel_rfl)) (by unfold Func.isWrapper; first | (rw [if_pos (by decide +kernel)]; kernel_rfl) | (rw [if_neg (by decide +kernel)]; exact ⟨rfl, rfl⟩))
  (fun os started H enc _ => lifted os started H enc)
theorem proved : Rows.FnExactFormatFactCardSaid :=
 Claim7.holds_tied_plain_at .later [] [.data, .data, .data] true (true, "e1b7c2b95adf8228e54b37a53a59ca956b70b789df667049efb16b3f35288f76") false over (fun _ h => by cases h) (by kernel_rfl) (fun _ h => by cases h) fnExactFormatFact_row_tie rfl ⟨rfl, rfl⟩ (by kernel_rfl) rfl
  (fun f fn hf hfn => by
   obtain rfl : f = 4 := Option.some.inj ((show Tryd.prog.funcNamed Rows.fnExactFormatFactRow.func = some 4 by kernel_rfl).symm.trans hf) |>.symm
   obtain rfl : fn = Tryd.f4 := (Option.some.inj (Tryd.func4.symm.trans hfn)).symm
   exact ⟨by kernel_rfl, fun j t ht => by
    rw [Tryd.params4] at ht
    have := List.mem_of_getElem? (l := Tryd.f4.params.toList) (i := j) (a := t) (by rw [Tryd.params4]; simpa using ht)
    rw [Tryd.params4] at this
    simp at this
    rcases this with rfl
    all_goals first | exact (show Tryd.prog.wantsStandIn 36 = false by kernel_rfl)⟩)
  (by kernel_rfl)
#print axioms proved
end Go.Proofs.YtbncaodnnbldmaaDoor.fnExactFormatFact
