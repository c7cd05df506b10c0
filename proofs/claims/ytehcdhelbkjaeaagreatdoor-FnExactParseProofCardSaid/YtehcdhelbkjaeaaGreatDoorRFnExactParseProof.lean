import Derived.Test.YtehcdhelbkjaeaaGreatDoorRows
import Derived.WalkKit
import Derived.ProofKit
import Derived.OpenShut
import Derived.ShutString
import Derived.Carry
import Derived.Test.YtehcdhelbkjaeaaGreatDoorLFnExactParseProof
import Derived.Test.YtehcdhelbkjaeaaGreatDoorCards
import Derived.Test.YtehcdhelbkjaeaaGreatDoorTie
import Derived.Lay
import Derived.SevenTiedAt
import Derived.Stop.Joined
import Derived.Stop.LaidErr
namespace Go.Proofs.YtehcdhelbkjaeaaGreatDoor.fnExactParseProof
open Go.ChangeShapes Go.WideShapes Go.ChangeAt Go.RowKit
set_option linter.unusedVariables false
theorem own:ownKnob Tryz.prog.godebug=none:=by kernel_rfl
theorem closed:Go.Abs.closedB Tryz.prog [68,162,66]=true:=by kernel_rfl
theorem laid:laidOutB Tryz.prog=true:=by kernel_rfl
theorem agg24:Go.Abs.tAgg Tryz.prog 24=some true:=by kernel_rfl
theorem readable24:Tryz.prog.readableRec 24=true:=by kernel_rfl
theorem row24:24<Tryz.prog.types.size:=of_decide_eq_true (by kernel_rfl)
theorem lf24:Go.Abs.leaves Tryz.prog 6 24=some [.sl 68]:=by kernel_rfl
theorem agg9:Go.Abs.tAgg Tryz.prog 9=some false:=by kernel_rfl
theorem readable9:Tryz.prog.readableRec 9=true:=by kernel_rfl
theorem row9:9<Tryz.prog.types.size:=of_decide_eq_true (by kernel_rfl)
theorem lf9:Go.Abs.leaves Tryz.prog 6 9=some [.str]:=by kernel_rfl
theorem walk (a0:Go.Abs.Pg) (a1:List UInt8) (ha0:Go.Abs.Sh Tryz.prog 24 (a0.enc)) (ha1:a1.length≤maxLen) (w:World) (v0:Value) (v1:Value) (r0:Go.Abs.RdD w (fun b _=>b<w.heap.size) (.agg a0.enc) v0) (r1:Go.Abs.RdD w (fun b _=>b<w.heap.size) (.str a1) v1) (ht:Lib.TabIs Tryz.prog w "internal/strconv.uint64pow10" .u64 Lib.pow10Tab) (te tr:TypeId) (pe pr:Value) (h1:w.var? Tryz.prog "strconv.ErrSyntax" = some #[.iface te pe]) (h2:w.var? Tryz.prog "strconv.ErrRange" = some #[.iface tr pr]) :
  Calls Tryz.prog 3 #[v0,v1] w fun e w'=>e=.returned (.bool true)∧Below w.heap.size w w':=by
 refine Go.Abs.ACalls.boolTs (args:=[.agg a0.enc,.str a1]) (ts:=[(2,Lib.pow10Tab.map fun z=>Value.int .u64 z),(0,[.iface te pe]),(1,[.iface tr pr])]) (lawFnExactParseProof a0 a1 ha0 ha1 te tr pe pr) w _ rfl (fun i d v' hd hv'=>?_) (fun t hm=>?_)
 rotate_left
 ·simp only [List.mem_cons,List.not_mem_nil,or_false] at hm
  rcases hm with rfl | rfl | rfl
  ·exact ⟨fun j=>(World.var?_cell (by kernel_rfl) ht j).trans (by simp),by decide⟩
  ·exact ⟨fun j=>(World.var?_cell (by kernel_rfl) h1 j).trans (by simp),by simp⟩
  ·exact ⟨fun j=>(World.var?_cell (by kernel_rfl) h2 j).trans (by simp),by simp⟩
 match i with
 | 0 =>
  simp at hd
  subst hd
  have:v'=v0:=by simpa using hv'.symm
  subst this
  exact r0
 | 1 =>
  simp at hd
  subst hd
  have:v'=v1:=by simpa using hv'.symm
  subst this
  exact r1
 | i+2=>simp at hd
theorem laid_met (os:Os) (args:Array Value):laidMetH Tryz.prog Rows.fnExactParseProofRow.laid ((World.laidAll Tryz.prog os Rows.fnExactParseProofRow.laid).forCall (fun _ _=>0) ⟨#[],args,[]⟩).memory:=
 laidMet_laidAll (laid:=Rows.fnExactParseProofRow.laid) args (by kernel_rfl) (by kernel_rfl)
theorem tabs {W:World} (h:laidMetH Tryz.prog Rows.fnExactParseProofRow.laid W):Lib.TabIs Tryz.prog W "internal/strconv.uint64pow10" .u64 Lib.pow10Tab:=by
 have h0:laidMet Tryz.prog [("math/bits.deBruijn32tab",Rows.laid_math_bits_deBruijn32tab),("math/bits.deBruijn64tab",Rows.laid_math_bits_deBruijn64tab),("internal/strconv.uint64pow10",Rows.laid_internal_strconv_uint64pow10),("strconv.ErrRange",Rows.laid_strconv_ErrRange),("strconv.ErrSyntax",Rows.laid_strconv_ErrSyntax)] W:=h
 have e:(Rows.laid_internal_strconv_uint64pow10:DataW Unit)=Lib.tabData .u64 Lib.pow10Tab:=by kernel_rfl
 rw [e] at h0
 exact Lib.tabIs_of_head (g:=2) (t:=206) (e:=187) (n:=20) (by kernel_rfl) (by kernel_rfl) (by kernel_rfl) (by kernel_rfl) (by kernel_rfl) (by kernel_rfl) h0.tail.tail
theorem star : "*" ++ "errors.errorString" = "*errors.errorString":=by decide
theorem rowErr (u:TypeId) (h:Tryz.prog.typeName? 3 u=some "*errors.errorString"):u=202:=
 typeName_ptr_named (nm:= "errors.errorString") (by rw [star];kernel_rfl) (by kernel_rfl) (by decide) u (by rw [star];exact h)
theorem sentErrSyntax {W:World} (h:laidMetH Tryz.prog Rows.fnExactParseProofRow.laid W):∃pe,W.var? Tryz.prog "strconv.ErrSyntax" = some #[.iface 202 pe]:=by
 have h0:laidMet Tryz.prog [("math/bits.deBruijn32tab",Rows.laid_math_bits_deBruijn32tab),("math/bits.deBruijn64tab",Rows.laid_math_bits_deBruijn64tab),("internal/strconv.uint64pow10",Rows.laid_internal_strconv_uint64pow10),("strconv.ErrRange",Rows.laid_strconv_ErrRange),("strconv.ErrSyntax",Rows.laid_strconv_ErrSyntax)] W:=h
 obtain ⟨a,s,hv,-,-,-⟩:=laid_sentinel (g:=0) (te:=204) (ts:=9) h0.tail.tail.tail.tail (by kernel_rfl) (ti:=145) (by kernel_rfl) Tryz.underlying145 rowErr Tryz.underlying202 Tryz.underlying204 rfl rfl (by kernel_rfl) (by kernel_rfl) (by kernel_rfl)
 exact ⟨_,hv⟩
theorem sentErrRange {W:World} (h:laidMetH Tryz.prog Rows.fnExactParseProofRow.laid W):∃pe,W.var? Tryz.prog "strconv.ErrRange" = some #[.iface 202 pe]:=by
 have h0:laidMet Tryz.prog [("math/bits.deBruijn32tab",Rows.laid_math_bits_deBruijn32tab),("math/bits.deBruijn64tab",Rows.laid_math_bits_deBruijn64tab),("internal/strconv.uint64pow10",Rows.laid_internal_strconv_uint64pow10),("strconv.ErrRange",Rows.laid_strconv_ErrRange),("strconv.ErrSyntax",Rows.laid_strconv_ErrSyntax)] W:=h
 obtain ⟨a,s,hv,-,-,-⟩:=laid_sentinel (g:=1) (te:=204) (ts:=9) h0.tail.tail.tail (by kernel_rfl) (ti:=145) (by kernel_rfl) Tryz.underlying145 rowErr Tryz.underlying202 Tryz.underlying204 rfl rfl (by kernel_rfl) (by kernel_rfl) (by kernel_rfl)
 exact ⟨_,hv⟩
set_option maxRecDepth 100000 in
theorem lifted (os:Os) (started:os.Started) (H:Type) (enc:TypeId×Value→H) :
  ReturnsInHanded {} Tryz.checked os 3 .any (fun w args=>(Rows.fnExactParseProofSpec.pre enc Tryz.prog Tryz.f3 [] false w args∧laidMetH Tryz.prog Rows.fnExactParseProofRow.laid w)∧sizedMet enc Tryz.prog Tryz.f3 (OpenSpec.ofChange Rows.fnExactParseProofSpec) false w args)
   (Rows.fnExactParseProofSpec.post enc Tryz.prog Tryz.f3 false true false false):=by
 refine returnsInHanded_of_change_and (C:=Tryz.checked) (X:=fun w _=>laidMetH Tryz.prog Rows.fnExactParseProofRow.laid w) (fun _ _ _ hh h=>h.of_heap hh) own started (by kernel_rfl) Tryz.func3
  (ChangeSpec.witness_at (enc:=enc) (C:=Tryz.checked) (os:=os) (X:=fun w _=>laidMetH Tryz.prog Rows.fnExactParseProofRow.laid w) false (World.laidAll Tryz.prog os Rows.fnExactParseProofRow.laid) #[.agg #[.slice none 0 0],.string ByteArray.empty] 8 (World.laidAll_os _ _ _) (by kernel_rfl) (by kernel_rfl) (by kernel_rfl) (by kernel_rfl) (by kernel_rfl) (laid_met os _)) ?_
 intro W base args ds gs before hval0 hW hcnd _ hL _
 have hval:∀(j:Nat) t v,Tryz.f3.params[j]? = some t→args[j]? = some v→Value.okWide Tryz.prog W .any base t v:=hval0
 have hW':=hW
 have hlt:∀p∈before,p.block<W.heap.size:=fun p hp=>hW.lt p hp
 obtain ⟨p,q,hA0,hV,rfl,hfz,hnd⟩:=hW
 have hA:DataW.TrodAll enc Tryz.prog W 0 (fun _=>true) true Tryz.f3.params.toList args.toList ds p:=hA0
 rw [Tryz.params3] at hA hval
 obtain ⟨v0,vs0,d0,ds0,p0,q0,hargs,rfl,rfl,h0,r0⟩:=trodAll_cons hA
 obtain ⟨v1,vs1,d1,ds1,p1,q1,rfl,rfl,rfl,h1,r1⟩:=trodAll_cons r0
 obtain ⟨rfl,rfl,rfl⟩:=trodAll_nil r1
 obtain rfl:args=#[v0,v1]:=by cases args;simp_all
 obtain ⟨rfl,rfl⟩:=trodVars_none hV
 obtain ⟨x0,hx0,hr0⟩:=Go.Abs.arg_agg agg24 (hval 0 24 v0 rfl rfl) h0 closed lf24 rfl
 obtain ⟨a0,rfl⟩:=sh_Pg x0 hx0
 obtain ⟨x1,hx1,hr1⟩:=Go.Abs.arg_one agg9 (hval 1 9 v1 rfl rfl) h1 closed lf9 rfl
 obtain ⟨a1,rfl,hs1⟩:=Go.Abs.sh_str lf9 hx1
 clear hA0 hval0
 simp only [List.append_nil] at hW' hlt
 obtain ⟨pe,hy1⟩:=sentErrSyntax hL
 obtain ⟨pr,hy2⟩:=sentErrRange hL
 refine (walk a0 a1 hx0 hs1 W v0 v1 hr0 hr1 (tabs hL) _ _ _ _ hy1 hy2).mono fun e W' ⟨he,hg⟩=>?_
 subst he
 exact ⟨_,rfl,Go.Abs.post_of_below (pa:=p0++(p1++([]))) (pv:=[]) hW' (fun _ _ _=>(trodAll_cons_mk (shut_bool Tryz.underlying4 _) trodAll_mk0))
  (fun sp hsp=>trodAll_cons_mk (WideElems.Trod_stays laid readable24 row24 h0 (fun x hx=>hg.same (hlt x (by simp [hx]))) (fun x hx=>hsp x (by simp [hx]))) (trodAll_cons_mk (WideElems.Trod_stays laid readable9 row9 h1 (fun x hx=>hg.same (hlt x (by simp [hx]))) (fun x hx=>hsp x (by simp [hx]))) trodAll_mk0)) (fun _ _=>rfl) (by simp)
  hg (ok_one (by kernel_rfl) rfl (okWide_bool_mk Tryz.underlying4 _))⟩
theorem and2 {a b:Bool} (h:a=true) (k:b=true):(a && b)=true:=by rw [h,k];rfl
theorem k0:(Rows.fnExactParseProofRow.wf (OpenSpec.ofChange Rows.fnExactParseProofSpec))=true:=by kernel_rfl
theorem k1:(laidOutB Tryz.pinned.checked.prog)=true:=by kernel_rfl
theorem k2:(mapsRowed Tryz.pinned.checked.prog)=true:=by kernel_rfl
theorem k3:(Tryz.f3.params.all (Tryz.pinned.checked.prog.readableRec ·))=true:=by kernel_rfl
theorem k4:(namedTie Tryz.pinned.checked.prog Rows.fnExactParseProofRow.named Rows.fnExactParseProofSpec.vars)=true:=by kernel_rfl
theorem k5:((Rows.fnExactParseProofRow.stops == []))=true:=by kernel_rfl
theorem k6:((Tryz.pinned.checked.prog.stops == []))=true:=by kernel_rfl
theorem k7:((Rows.fnExactParseProofRow.knobs == []))=true:=by kernel_rfl
theorem k8:((Tryz.pinned.checked.prog.stopKnobs == []))=true:=by kernel_rfl
theorem k9:((Rows.fnExactParseProofRow.inPlace == Tryz.pinned.checked.prog.inPlace 3))=true:=by kernel_rfl
theorem k10:((Rows.fnExactParseProofRow.unfollowed == Tryz.pinned.checked.prog.unfollowed 3))=true:=by kernel_rfl
theorem k11:((Rows.fnExactParseProofRow.recurses == Tryz.pinned.checked.prog.recurses 3))=true:=by kernel_rfl
theorem k12:((Rows.fnExactParseProofRow.named == Tryz.pinned.checked.prog.varsNamed 3))=true:=by kernel_rfl
theorem k13:((Rows.fnExactParseProofRow.maps == (Tryz.f3.params.toList++Rows.fnExactParseProofSpec.plain.varTypes Tryz.pinned.checked.prog).any (Tryz.pinned.checked.prog.mapsRec ·)))=true:=by kernel_rfl
theorem k14:((Rows.fnExactParseProofRow.ifaces == (Tryz.f3.params.toList++Rows.fnExactParseProofSpec.plain.varTypes Tryz.pinned.checked.prog).any (Tryz.pinned.checked.prog.ifacesRec ·)))=true:=by kernel_rfl
theorem k15:((Rows.fnExactParseProofRow.mapsOut == Tryz.pinned.checked.prog.mapsAmong Tryz.f3.resultTypes.toList))=true:=by kernel_rfl
theorem k16:((Rows.fnExactParseProofRow.loops == (Tryz.f3.params.toList++Rows.fnExactParseProofSpec.plain.varTypes Tryz.pinned.checked.prog).any (Tryz.pinned.checked.prog.loopsFrom ·)))=true:=by kernel_rfl
theorem k17:((Rows.fnExactParseProofRow.wideKeys == (Tryz.f3.params.toList++Rows.fnExactParseProofSpec.plain.varTypes Tryz.pinned.checked.prog++Tryz.f3.resultTypes.toList).any (Tryz.pinned.checked.prog.wideKeysFrom ·)))=true:=by kernel_rfl
theorem k18:(Rows.fnExactParseProofSpec.vars.all (Tryz.pinned.checked.prog.varReadable ·))=true:=by kernel_rfl
theorem k19:(Tryz.f3.resultTypes.all (fun t=>Tryz.pinned.checked.prog.readableRec t && decide (t<Tryz.pinned.checked.prog.types.size)))=true:=by kernel_rfl
theorem k20:((Rows.fnExactParseProofRow.ifacesOut == Tryz.f3.resultTypes.toList.any (Tryz.pinned.checked.prog.ifacesRec ·)))=true:=by kernel_rfl
theorem k21:((Rows.fnExactParseProofRow.loopsOut == Tryz.f3.resultTypes.toList.any (Tryz.pinned.checked.prog.loopsFrom ·)))=true:=by kernel_rfl
theorem k22:((Rows.fnExactParseProofRow.plainKeys == Tryz.pinned.checked.prog.plainKeys))=true:=by kernel_rfl
theorem k23:(Rows.fnExactParseProofRow.shortTexts.isNone)=true:=by kernel_rfl
theorem k24:(Tryz.pinned.checked.prog.stopsHeard)=true:=by kernel_rfl
theorem k25:(Tryz.pinned.checked.prog.mayEnter)=true:=by kernel_rfl
theorem k26:((Rows.fnExactParseProofRow.lifted == Tryz.pinned.checked.prog.liftsFinal))=true:=by kernel_rfl
theorem k27:((Tryz.pinned.checked.prog.make == some Rows.fnExactParseProofRow.make))=true:=by kernel_rfl
theorem k28:((Rows.fnExactParseProofRow.kinds == (if Rows.fnExactParseProofRow.domain.isEmpty then [] else Tryz.f3.params.toList.map fun t=>match Tryz.pinned.checked.prog.underlying t with | some (.int k)=>some k | _=>none)))=true:=by kernel_rfl
theorem k29:((Rows.fnExactParseProofRow.pinned == Rows.fnExactParseProofRow.pinnedBy))=true:=by kernel_rfl
theorem k30:((Rows.fnExactParseProofRow.veiled == (Tryz.f3.params.toList++Rows.fnExactParseProofSpec.plain.varTypes Tryz.pinned.checked.prog++Tryz.f3.resultTypes.toList).any (Tryz.pinned.checked.prog.veiledRec ·)))=true:=by kernel_rfl
theorem k31:(Rows.fnExactParseProofRow.veiledFits Tryz.pinned.checked.prog Tryz.f3.params.toList (Tryz.f3.params.toList++Rows.fnExactParseProofSpec.plain.varTypes Tryz.pinned.checked.prog++Tryz.f3.resultTypes.toList))=true:=by kernel_rfl
set_option maxRecDepth 100000 in
theorem closedAll:joinedFacts Tryz.pinned.checked.prog 3 Tryz.f3 Rows.fnExactParseProofSpec Rows.fnExactParseProofRow=true:=by
 unfold joinedFacts
 exact (and2 (and2 (and2 (and2 (and2 (and2 (and2 (and2 (and2 (and2 (and2 (and2 (and2 (and2 (and2 (and2 (and2 (and2 (and2 (and2 (and2 (and2 (and2 (and2 (and2 (and2 (and2 (and2 (and2 (and2 (and2 k0 k1) k2) k3) k4) k5) k6) k7) k8) k9) k10) k11) k12) k13) k14) k15) k16) k17) k18) k19) k20) k21) k22) k23) k24) k25) k26) k27) k28) k29) k30) k31)
theorem named:Tryz.pinned.checked.prog.funcNamed Rows.fnExactParseProofRow.func=some 3:=by kernel_rfl
theorem over:Rows.fnExactParseProofRow.holds Tryz.pinned (OpenSpec.ofChange Rows.fnExactParseProofSpec):=
 OpenClaim.holds_of_wide 3 Tryz.f3 rfl rfl rfl rfl rfl rfl rfl ⟨rfl,rfl,rfl,rfl,rfl⟩ rfl rfl rfl rfl rfl named Tryz.func3 closedAll
  (of_decide_eq_true (by kernel_rfl)) (by unfold Func.isWrapper;first | (rw [if_pos (by decide +kernel)];kernel_rfl) | (rw [if_neg (by decide +kernel)];exact ⟨rfl,rfl⟩))
  (fun os started H enc _=>lifted os started H enc)
theorem proved:Rows.FnExactParseProofCardSaid:=
 Claim7.holds_tied_plain_at .later [] [.data,.data,.data,.sentinel,.sentinel] true (true,"c91a9f534b9627a934c4a76f82bd6cc1ffdca8196dafe8aad27b54dc00fb5894") true over (fun _ h=>by cases h) (by kernel_rfl) (fun _ h=>by cases h) fnExactParseProof_row_tie rfl ⟨rfl,rfl⟩ (by kernel_rfl) rfl
  (fun f fn hf hfn=>by
   obtain rfl:f=3:=Option.some.inj ((show Tryz.prog.funcNamed Rows.fnExactParseProofRow.func=some 3 by kernel_rfl).symm.trans hf) |>.symm
   obtain rfl:fn=Tryz.f3:=(Option.some.inj (Tryz.func3.symm.trans hfn)).symm
   exact ⟨by kernel_rfl,fun j t ht=>by
    rw [Tryz.params3] at ht
    have:=List.mem_of_getElem? (l:=Tryz.f3.params.toList) (i:=j) (a:=t) (by rw [Tryz.params3];simpa using ht)
    rw [Tryz.params3] at this
    simp at this
    rcases this with rfl | rfl
    ·exact (show Tryz.prog.wantsStandIn 24=false by kernel_rfl)
    ·exact (show Tryz.prog.wantsStandIn 9=false by kernel_rfl)⟩)
  (by kernel_rfl)
#print axioms proved
end Go.Proofs.YtehcdhelbkjaeaaGreatDoor.fnExactParseProof
