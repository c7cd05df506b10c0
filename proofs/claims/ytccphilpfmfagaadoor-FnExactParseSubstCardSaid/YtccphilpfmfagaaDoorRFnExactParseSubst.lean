import Derived.Test.YtccphilpfmfagaaDoorRows
import Derived.WalkKit
import Derived.ProofKit
import Derived.OpenShut
import Derived.ShutString
import Derived.Carry
import Derived.Test.YtccphilpfmfagaaDoorLFnExactParseSubst
import Derived.Test.YtccphilpfmfagaaDoorCards
import Derived.Test.YtccphilpfmfagaaDoorTie
import Derived.Lay
import Derived.SevenTiedAt
import Derived.Stop.Joined
import Derived.Stop.LaidErr
namespace Go.Proofs.YtccphilpfmfagaaDoor.fnExactParseSubst
open Go.ChangeShapes Go.WideShapes Go.ChangeAt Go.RowKit
set_option linter.unusedVariables false
theorem own : ownKnob Tryd.prog.godebug = none := by kernel_rfl
theorem closed : Go.Abs.closedB Tryd.prog [] = true := by kernel_rfl
theorem laid : laidOutB Tryd.prog = true := by kernel_rfl
theorem agg9 : Go.Abs.tAgg Tryd.prog 9 = some false := by kernel_rfl
theorem readable9 : Tryd.prog.readableRec 9 = true := by kernel_rfl
theorem row9 : 9 < Tryd.prog.types.size := of_decide_eq_true (by kernel_rfl)
theorem lf9 : Go.Abs.leaves Tryd.prog 6 9 = some [.str] := by kernel_rfl
theorem walk (a0 : List UInt8) (ha0 : a0.length ≤ maxLen) (w : World) (v0 : Value) (r0 : Go.Abs.RdD w (fun b _ => b < w.heap.size) (.str a0) v0) (ht : Lib.TabIs Tryd.prog w "internal/strconv.uint64pow10" .u64 Lib.pow10Tab) (te tr : TypeId) (pe pr : Value) (h1 : w.var? Tryd.prog "strconv.ErrSyntax" = some #[.iface te pe]) (h2 : w.var? Tryd.prog "strconv.ErrRange" = some #[.iface tr pr]) :
  Calls Tryd.prog 5 #[v0] w fun e w' => e = .returned (.bool true) ∧ Below w.heap.size w w' := by
 refine Go.Abs.ACalls.boolTs (args := [.str a0]) (ts := [(2, Lib.pow10Tab.map fun z => Value.int .u64 z), (0, [.iface te pe]), (1, [.iface tr pr])]) (lawFnExactParseSubst a0 ha0 te tr pe pr) w _ rfl (fun i d v' hd hv' => ?_) (fun t hm => ?_)
 rotate_left
 ·simp only [List.mem_cons, List.not_mem_nil, or_false] at hm
  rcases hm with rfl | rfl | rfl
  ·exact ⟨fun j => (World.var?_cell (by kernel_rfl) ht j).trans (by simp), by decide⟩
  ·exact ⟨fun j => (World.var?_cell (by kernel_rfl) h1 j).trans (by simp), by simp⟩
  ·exact ⟨fun j => (World.var?_cell (by kernel_rfl) h2 j).trans (by simp), by simp⟩
 match i with
 | 0 =>
  simp at hd
  subst hd
  have : v' = v0 := by simpa using hv'.symm
  subst this
  exact r0
 | i + 1 => simp at hd
theorem laid_met (os : Os) (args : Array Value) : laidMetH Tryd.prog Rows.fnExactParseSubstRow.laid ((World.laidAll Tryd.prog os Rows.fnExactParseSubstRow.laid).forCall (fun _ _ => 0) ⟨#[], args, []⟩).memory :=
 laidMet_laidAll (laid := Rows.fnExactParseSubstRow.laid) args (by kernel_rfl) (by kernel_rfl)
theorem tabs {W : World} (h : laidMetH Tryd.prog Rows.fnExactParseSubstRow.laid W) : Lib.TabIs Tryd.prog W "internal/strconv.uint64pow10" .u64 Lib.pow10Tab := by
 have h0 : laidMet Tryd.prog [("math/bits.deBruijn32tab", Rows.laid_math_bits_deBruijn32tab), ("math/bits.deBruijn64tab", Rows.laid_math_bits_deBruijn64tab), ("internal/strconv.uint64pow10", Rows.laid_internal_strconv_uint64pow10), ("strconv.ErrRange", Rows.laid_strconv_ErrRange), ("strconv.ErrSyntax", Rows.laid_strconv_ErrSyntax)] W := h
 have e : (Rows.laid_internal_strconv_uint64pow10 : DataW Unit) = Lib.tabData .u64 Lib.pow10Tab := by kernel_rfl
 rw [e] at h0
 exact Lib.tabIs_of_head (g := 2) (t := 124) (e := 111) (n := 20) (by kernel_rfl) (by kernel_rfl) (by kernel_rfl) (by kernel_rfl) (by kernel_rfl) (by kernel_rfl) h0.tail.tail
theorem star : "*" ++ "errors.errorString" = "*errors.errorString" := by decide
theorem rowErr (u : TypeId) (h : Tryd.prog.typeName? 3 u = some "*errors.errorString") : u = 129 :=
 typeName_ptr_named (nm := "errors.errorString") (by rw [star]; kernel_rfl) (by kernel_rfl) (by decide) u (by rw [star]; exact h)
theorem sentErrSyntax {W : World} (h : laidMetH Tryd.prog Rows.fnExactParseSubstRow.laid W) : ∃ pe, W.var? Tryd.prog "strconv.ErrSyntax" = some #[.iface 129 pe] := by
 have h0 : laidMet Tryd.prog [("math/bits.deBruijn32tab", Rows.laid_math_bits_deBruijn32tab), ("math/bits.deBruijn64tab", Rows.laid_math_bits_deBruijn64tab), ("internal/strconv.uint64pow10", Rows.laid_internal_strconv_uint64pow10), ("strconv.ErrRange", Rows.laid_strconv_ErrRange), ("strconv.ErrSyntax", Rows.laid_strconv_ErrSyntax)] W := h
 obtain ⟨a, s, hv, -, -, -⟩ := laid_sentinel (g := 0) (te := 131) (ts := 9) h0.tail.tail.tail.tail (by kernel_rfl) (ti := 76) (by kernel_rfl) Tryd.underlying76 rowErr Tryd.underlying129 Tryd.underlying131 rfl rfl (by kernel_rfl) (by kernel_rfl) (by kernel_rfl)
 exact ⟨_, hv⟩
theorem sentErrRange {W : World} (h : laidMetH Tryd.prog Rows.fnExactParseSubstRow.laid W) : ∃ pe, W.var? Tryd.prog "strconv.ErrRange" = some #[.iface 129 pe] := by
 have h0 : laidMet Tryd.prog [("math/bits.deBruijn32tab", Rows.laid_math_bits_deBruijn32tab), ("math/bits.deBruijn64tab", Rows.laid_math_bits_deBruijn64tab), ("internal/strconv.uint64pow10", Rows.laid_internal_strconv_uint64pow10), ("strconv.ErrRange", Rows.laid_strconv_ErrRange), ("strconv.ErrSyntax", Rows.laid_strconv_ErrSyntax)] W := h
 obtain ⟨a, s, hv, -, -, -⟩ := laid_sentinel (g := 1) (te := 131) (ts := 9) h0.tail.tail.tail (by kernel_rfl) (ti := 76) (by kernel_rfl) Tryd.underlying76 rowErr Tryd.underlying129 Tryd.underlying131 rfl rfl (by kernel_rfl) (by kernel_rfl) (by kernel_rfl)
 exact ⟨_, hv⟩
set_option maxRecDepth 100000 in
theorem lifted (os : Os) (started : os.Started) (H : Type) (enc : TypeId × Value → H) :
  ReturnsInHanded {} Tryd.checked os 5 .any (fun w args => (Rows.fnExactParseSubstSpec.pre enc Tryd.prog Tryd.f5 [] false w args ∧ laidMetH Tryd.prog Rows.fnExactParseSubstRow.laid w) ∧ sizedMet enc Tryd.prog Tryd.f5 (OpenSpec.ofChange Rows.fnExactParseSubstSpec) false w args)
   (Rows.fnExactParseSubstSpec.post enc Tryd.prog Tryd.f5 false true false false) := by
 refine returnsInHanded_of_change_and (C := Tryd.checked) (X := fun w _ => laidMetH Tryd.prog Rows.fnExactParseSubstRow.laid w) (fun _ _ _ hh h => h.of_heap hh) own started (by kernel_rfl) Tryd.func5
  (ChangeSpec.witness_at (enc := enc) (C := Tryd.checked) (os := os) (X := fun w _ => laidMetH Tryd.prog Rows.fnExactParseSubstRow.laid w) false (World.laidAll Tryd.prog os Rows.fnExactParseSubstRow.laid) #[.string ByteArray.empty] 8 (World.laidAll_os _ _ _) (by kernel_rfl) (by kernel_rfl) (by kernel_rfl) (by kernel_rfl) (by kernel_rfl) (laid_met os _)) ?_
 intro W base args ds gs before hval0 hW hcnd _ hL _
 have hval : ∀ (j : Nat) t v, Tryd.f5.params[j]? = some t → args[j]? = some v → Value.okWide Tryd.prog W .any base t v := hval0
 have hW' := hW
 have hlt : ∀ p ∈ before, p.block < W.heap.size := fun p hp => hW.lt p hp
 obtain ⟨p, q, hA0, hV, rfl, hfz, hnd⟩ := hW
 have hA : DataW.TrodAll enc Tryd.prog W 0 (fun _ => true) true Tryd.f5.params.toList args.toList ds p := hA0
 rw [Tryd.params5] at hA hval
 obtain ⟨v0, vs0, d0, ds0, p0, q0, hargs, rfl, rfl, h0, r0⟩ := trodAll_cons hA
 obtain ⟨rfl, rfl, rfl⟩ := trodAll_nil r0
 obtain rfl : args = #[v0] := by cases args; simp_all
 obtain ⟨rfl, rfl⟩ := trodVars_none hV
 obtain ⟨x0, hx0, hr0⟩ := Go.Abs.arg_one agg9 (hval 0 9 v0 rfl rfl) h0 closed lf9 rfl
 obtain ⟨a0, rfl, hs0⟩ := Go.Abs.sh_str lf9 hx0
 clear hA0 hval0
 simp only [List.append_nil] at hW' hlt
 obtain ⟨pe, h1⟩ := sentErrSyntax hL
 obtain ⟨pr, h2⟩ := sentErrRange hL
 refine (walk a0 hs0 W v0 hr0 (tabs hL) _ _ _ _ h1 h2).mono fun e W' ⟨he, hg⟩ => ?_
 subst he
 exact ⟨_, rfl, Go.Abs.post_of_below (pa := p0 ++ ([])) (pv := []) hW' (fun _ _ _ => (trodAll_cons_mk (shut_bool Tryd.underlying4 _) trodAll_mk0))
  (fun sp hsp => trodAll_cons_mk (WideElems.Trod_stays laid readable9 row9 h0 (fun x hx => hg.same (hlt x (by simp [hx]))) (fun x hx => hsp x (by simp [hx]))) trodAll_mk0) (fun _ _ => rfl) (by simp)
  hg (ok_one (by kernel_rfl) rfl (okWide_bool_mk Tryd.underlying4 _))⟩
theorem over : Rows.fnExactParseSubstRow.holds Tryd.pinned (OpenSpec.ofChange Rows.fnExactParseSubstSpec) :=
 OpenClaim.holds_of_wide 5 Tryd.f5 rfl rfl rfl rfl rfl rfl rfl ⟨rfl, rfl, rfl, rfl, rfl⟩ rfl rfl rfl rfl rfl (by kernel_rfl) Tryd.func5 (by kernel_rfl)
  (of_decide_eq_true (by kernel_rfl)) (by unfold Func.isWrapper; first | (rw [if_pos (by decide +kernel)]; kernel_rfl) | (rw [if_neg (by decide +kernel)]; exact ⟨rfl, rfl⟩))
  (fun os started H enc _ => lifted os started H enc)
theorem proved : Rows.FnExactParseSubstCardSaid :=
 Claim7.holds_tied_plain_at .later [] [.data, .data, .data, .sentinel, .sentinel] true (true, "f55d0d54970b1828e758d1994518bc0f52a912ba4499100a86f741d623e8ef06") true over (fun _ h => by cases h) (by kernel_rfl) (fun _ h => by cases h) fnExactParseSubst_row_tie rfl ⟨rfl, rfl⟩ (by kernel_rfl) rfl
  (fun f fn hf hfn => by
   obtain rfl : f = 5 := Option.some.inj ((show Tryd.prog.funcNamed Rows.fnExactParseSubstRow.func = some 5 by kernel_rfl).symm.trans hf) |>.symm
   obtain rfl : fn = Tryd.f5 := (Option.some.inj (Tryd.func5.symm.trans hfn)).symm
   exact ⟨by kernel_rfl, fun j t ht => by
    rw [Tryd.params5] at ht
    have := List.mem_of_getElem? (l := Tryd.f5.params.toList) (i := j) (a := t) (by rw [Tryd.params5]; simpa using ht)
    rw [Tryd.params5] at this
    simp at this
    rcases this with rfl
    ·exact (show Tryd.prog.wantsStandIn 9 = false by kernel_rfl)⟩)
  (by kernel_rfl)
#print axioms proved
end Go.Proofs.YtccphilpfmfagaaDoor.fnExactParseSubst
