import Derived.Test.YtehgpkadkdekmaaGreatDoorJ16
import Derived.Test.YtehgpkadkdekmaaGreatDoorRows
import Derived.WalkKit
import Derived.ProofKit
import Derived.OpenShut
import Derived.ShutString
import Derived.Carry
import Derived.Test.YtehgpkadkdekmaaGreatDoorCards
import Derived.Test.YtehgpkadkdekmaaGreatDoorTie
import Derived.Lay
import Derived.SevenTiedAt
import Derived.Stop.Joined
import Derived.Stop.LaidErr
namespace Go.Proofs.YtehgpkadkdekmaaGreatDoor.fnProofs
open Go.ChangeShapes Go.WideShapes Go.ChangeAt Go.RowKit
set_option linter.unusedVariables false
theorem own:ownKnob Tryz.prog.godebug=none:=by kernel_rfl
theorem closed:Go.Abs.closedB Tryz.prog [5]=true:=by kernel_rfl
theorem laid:laidOutB Tryz.prog=true:=by kernel_rfl
theorem co1:Go.Abs.tAgg Tryz.prog 22=some false:=by kernel_rfl
theorem bf8:Tryz.prog.readableRec 22=true:=by kernel_rfl
theorem cn1:22<Tryz.prog.types.size:=of_decide_eq_true (by kernel_rfl)
theorem lf22:Go.Abs.leaves Tryz.prog 6 22=some [.sl 5]:=by kernel_rfl
theorem walk (a0:List UInt8) (w:World) (v0:Value) (r0:Go.Abs.RdD w (fun b _=>b<w.heap.size) (.sl (Go.Abs.bytesD a0)) v0) (ht:Lib.TabIs Tryz.prog w "internal/strconv.uint64pow10" .u64 Lib.pow10Tab) :
  Calls Tryz.prog 3 #[v0] w fun e w'=>e=.returned (.bool true)/\Below w.heap.size w w':=by
 refine Go.Abs.ACalls.boolT (args:=[.sl (Go.Abs.bytesD a0)]) (g:=0) (tv:=Lib.pow10Tab.map fun z=>Value.int .u64 z) (aT5 a0 ) w _ rfl (fun i d v' hd hv'=>?_) (fun j=>(World.var?_cell (by kernel_rfl) ht j).trans (by simp)) (by decide);match i with
 | 0 =>
  simp at hd;subst hd;have:v'=v0:=by simpa using hv'.symm
  subst this;exact r0
 | i+1=>simp at hd
theorem bE2 (os:Os) (args:Array Value):laidMetH Tryz.prog Rows.fnProofsRow.laid ((World.laidAll Tryz.prog os Rows.fnProofsRow.laid).forCall (fun _ _=>0) ⟨#[],args,[]⟩).memory:=
 laidMet_laidAll (laid:=Rows.fnProofsRow.laid) args (by kernel_rfl) (by kernel_rfl)
theorem tabs {W:World} (h:laidMetH Tryz.prog Rows.fnProofsRow.laid W):Lib.TabIs Tryz.prog W "internal/strconv.uint64pow10" .u64 Lib.pow10Tab:=by
 have h0:laidMet Tryz.prog [("math/bits.deBruijn32tab",Rows.laid_math_bits_deBruijn32tab),("math/bits.deBruijn64tab",Rows.laid_math_bits_deBruijn64tab),("internal/strconv.uint64pow10",Rows.laid_internal_strconv_uint64pow10)] W:=h;have e:(Rows.laid_internal_strconv_uint64pow10:DataW Unit)=Lib.tabData .u64 Lib.pow10Tab:=by kernel_rfl
 rw[e] at h0;exact Lib.tabIs_of_head (g:=0) (t:=242) (e:=226) (n:=20) (by kernel_rfl) (by kernel_rfl) (by kernel_rfl) (by kernel_rfl) (by kernel_rfl) (by kernel_rfl) h0.tail.tail
set_option maxRecDepth 100000 in
theorem lifted (os:Os) (started:os.Started) (H:Type) (enc:TypeId×Value->H) :
  ReturnsInHanded {} Tryz.checked os 3 .any (fun w args=>(Rows.fnProofsSpec.pre enc Tryz.prog Tryz.f3 [] false w args/\laidMetH Tryz.prog Rows.fnProofsRow.laid w)/\sizedMet enc Tryz.prog Tryz.f3 (OpenSpec.ofChange Rows.fnProofsSpec) false w args)
   (Rows.fnProofsSpec.post enc Tryz.prog Tryz.f3 false true false false):=by
 refine returnsInHanded_of_change_and (C:=Tryz.checked) (X:=fun w _=>laidMetH Tryz.prog Rows.fnProofsRow.laid w) (fun _ _ _ hh h=>h.of_heap hh) own started (by kernel_rfl) Tryz.func3
  (ChangeSpec.witness_at (enc:=enc) (C:=Tryz.checked) (os:=os) (X:=fun w _=>laidMetH Tryz.prog Rows.fnProofsRow.laid w) false (World.laidAll Tryz.prog os Rows.fnProofsRow.laid) #[.slice none 0 0] 8 (World.laidAll_os _ _ _) (by kernel_rfl) (by kernel_rfl) (by kernel_rfl) (by kernel_rfl) (by kernel_rfl) (bE2 os _)) ?_
 intro W base args ds gs before hval0 hW hcnd _ hL _;have hval:∀(j:Nat) t v,Tryz.f3.params[j]? = some t->args[j]? = some v->Value.okWide Tryz.prog W .any base t v:=hval0;have hW':=hW;have hlt:∀p∈before,p.block<W.heap.size:=fun p hp=>hW.lt p hp;obtain⟨p,q,hA0,hV,rfl,hfz,hnd⟩:=hW;have hA:DataW.TrodAll enc Tryz.prog W 0 (fun _=>true) true Tryz.f3.params.toList args.toList ds p:=hA0;rw[Tryz.params3] at hA hval;obtain⟨v0,vs0,d0,ds0,p0,q0,hargs,rfl,rfl,h0,r0⟩:=trodAll_cons hA;obtain⟨rfl,rfl,rfl⟩:=trodAll_nil r0;obtain rfl:args=#[v0]:=by cases args;simp_all
 obtain⟨rfl,rfl⟩:=trodVars_none hV;obtain⟨x0,hx0,hr0⟩:=Go.Abs.arg_one co1 (hval 0 22 v0 rfl rfl) h0 closed lf22 rfl;obtain⟨a0,rfl⟩:=Go.Abs.sl_bytes lf22 (by kernel_rfl) hx0;clear hA0 hval0;simp only[List.append_nil] at hW' hlt;refine(walk a0  W v0 hr0 (tabs hL)).mono fun e W' ⟨he,hg⟩=>?_;subst he
 exact⟨_,rfl,Go.Abs.post_of_below (pa:=p0++([])) (pv:=[]) hW' (fun _ _ _=>(trodAll_cons_mk (shut_bool Tryz.underlying4 _) trodAll_mk0))
  (fun sp hsp=>trodAll_cons_mk (WideElems.Trod_stays laid bf8 cn1 h0 (fun x hx=>hg.same (hlt x (by simp[hx]))) (fun x hx=>hsp x (by simp[hx]))) trodAll_mk0) (fun _ _=>rfl) (by simp)
  hg (ok_one (by kernel_rfl) rfl (okWide_bool_mk Tryz.underlying4 _))⟩
theorem ah7 {a b:Bool} (h:a=true) (k:b=true):(a && b)=true:=by rw[h,k];rfl
theorem k0:(Rows.fnProofsRow.wf (OpenSpec.ofChange Rows.fnProofsSpec))=true:=by kernel_rfl
theorem k1:(laidOutB Tryz.pinned.checked.prog)=true:=by kernel_rfl
theorem k2:(mapsRowed Tryz.pinned.checked.prog)=true:=by kernel_rfl
theorem k3:(Tryz.f3.params.all (Tryz.pinned.checked.prog.readableRec ·))=true:=by kernel_rfl
theorem k4:(namedTie Tryz.pinned.checked.prog Rows.fnProofsRow.named Rows.fnProofsSpec.vars)=true:=by kernel_rfl
theorem k5:((Rows.fnProofsRow.stops == []))=true:=by kernel_rfl
theorem k6:((Tryz.pinned.checked.prog.stops == []))=true:=by kernel_rfl
theorem k7:((Rows.fnProofsRow.knobs == []))=true:=by kernel_rfl
theorem k8:((Tryz.pinned.checked.prog.stopKnobs == []))=true:=by kernel_rfl
theorem k9:((Rows.fnProofsRow.inPlace == Tryz.pinned.checked.prog.inPlace 3))=true:=by kernel_rfl
theorem k10:((Rows.fnProofsRow.unfollowed == Tryz.pinned.checked.prog.unfollowed 3))=true:=by kernel_rfl
theorem k11:((Rows.fnProofsRow.recurses == Tryz.pinned.checked.prog.recurses 3))=true:=by kernel_rfl
theorem k12:((Rows.fnProofsRow.named == Tryz.pinned.checked.prog.varsNamed 3))=true:=by kernel_rfl
theorem k13:((Rows.fnProofsRow.maps == (Tryz.f3.params.toList++Rows.fnProofsSpec.plain.varTypes Tryz.pinned.checked.prog).any (Tryz.pinned.checked.prog.mapsRec ·)))=true:=by kernel_rfl
theorem k14:((Rows.fnProofsRow.ifaces == (Tryz.f3.params.toList++Rows.fnProofsSpec.plain.varTypes Tryz.pinned.checked.prog).any (Tryz.pinned.checked.prog.ifacesRec ·)))=true:=by kernel_rfl
theorem k15:((Rows.fnProofsRow.mapsOut == Tryz.pinned.checked.prog.mapsAmong Tryz.f3.resultTypes.toList))=true:=by kernel_rfl
theorem k16:((Rows.fnProofsRow.loops == (Tryz.f3.params.toList++Rows.fnProofsSpec.plain.varTypes Tryz.pinned.checked.prog).any (Tryz.pinned.checked.prog.loopsFrom ·)))=true:=by kernel_rfl
theorem k17:((Rows.fnProofsRow.wideKeys == (Tryz.f3.params.toList++Rows.fnProofsSpec.plain.varTypes Tryz.pinned.checked.prog++Tryz.f3.resultTypes.toList).any (Tryz.pinned.checked.prog.wideKeysFrom ·)))=true:=by kernel_rfl
theorem k18:(Rows.fnProofsSpec.vars.all (Tryz.pinned.checked.prog.varReadable ·))=true:=by kernel_rfl
theorem k19:(Tryz.f3.resultTypes.all (fun t=>Tryz.pinned.checked.prog.readableRec t && decide (t<Tryz.pinned.checked.prog.types.size)))=true:=by kernel_rfl
theorem k20:((Rows.fnProofsRow.ifacesOut == Tryz.f3.resultTypes.toList.any (Tryz.pinned.checked.prog.ifacesRec ·)))=true:=by kernel_rfl
theorem k21:((Rows.fnProofsRow.loopsOut == Tryz.f3.resultTypes.toList.any (Tryz.pinned.checked.prog.loopsFrom ·)))=true:=by kernel_rfl
theorem k22:((Rows.fnProofsRow.plainKeys == Tryz.pinned.checked.prog.plainKeys))=true:=by kernel_rfl
theorem k23:(Rows.fnProofsRow.shortTexts.isNone)=true:=by kernel_rfl
theorem k24:(Tryz.pinned.checked.prog.stopsHeard)=true:=by kernel_rfl
theorem k25:(Tryz.pinned.checked.prog.mayEnter)=true:=by kernel_rfl
theorem k26:((Rows.fnProofsRow.lifted == Tryz.pinned.checked.prog.liftsFinal))=true:=by kernel_rfl
theorem k27:((Tryz.pinned.checked.prog.make == some Rows.fnProofsRow.make))=true:=by kernel_rfl
theorem k28:((Rows.fnProofsRow.kinds == (if Rows.fnProofsRow.domain.isEmpty then [] else Tryz.f3.params.toList.map fun t=>match Tryz.pinned.checked.prog.underlying t with | some (.int k)=>some k | _=>none)))=true:=by kernel_rfl
theorem k29:((Rows.fnProofsRow.pinned == Rows.fnProofsRow.pinnedBy))=true:=by kernel_rfl
theorem k30:((Rows.fnProofsRow.veiled == (Tryz.f3.params.toList++Rows.fnProofsSpec.plain.varTypes Tryz.pinned.checked.prog++Tryz.f3.resultTypes.toList).any (Tryz.pinned.checked.prog.veiledRec ·)))=true:=by kernel_rfl
theorem k31:(Rows.fnProofsRow.veiledFits Tryz.pinned.checked.prog Tryz.f3.params.toList (Tryz.f3.params.toList++Rows.fnProofsSpec.plain.varTypes Tryz.pinned.checked.prog++Tryz.f3.resultTypes.toList))=true:=by kernel_rfl
set_option maxRecDepth 100000 in
theorem bx9:joinedFacts Tryz.pinned.checked.prog 3 Tryz.f3 Rows.fnProofsSpec Rows.fnProofsRow=true:=by
 unfold joinedFacts;exact(ah7 (ah7 (ah7 (ah7 (ah7 (ah7 (ah7 (ah7 (ah7 (ah7 (ah7 (ah7 (ah7 (ah7 (ah7 (ah7 (ah7 (ah7 (ah7 (ah7 (ah7 (ah7 (ah7 (ah7 (ah7 (ah7 (ah7 (ah7 (ah7 (ah7 (ah7 k0 k1) k2) k3) k4) k5) k6) k7) k8) k9) k10) k11) k12) k13) k14) k15) k16) k17) k18) k19) k20) k21) k22) k23) k24) k25) k26) k27) k28) k29) k30) k31)
theorem named:Tryz.pinned.checked.prog.funcNamed Rows.fnProofsRow.func=some 3:=by kernel_rfl
theorem over:Rows.fnProofsRow.holds Tryz.pinned (OpenSpec.ofChange Rows.fnProofsSpec):=
 OpenClaim.holds_of_wide 3 Tryz.f3 rfl rfl rfl rfl rfl rfl rfl ⟨rfl,rfl,rfl,rfl,rfl⟩ rfl rfl rfl rfl rfl named Tryz.func3 bx9
  (of_decide_eq_true (by kernel_rfl)) (by unfold Func.isWrapper;first | rw[if_pos (by decide +kernel)];kernel_rfl | rw[if_neg (by decide +kernel)];exact⟨rfl,rfl⟩)
  (fun os started H enc _=>lifted os started H enc)
theorem proved:Rows.FnProofsCardSaid:=
 Claim7.holds_tied_plain_at .later [] [.data,.data,.data] true (true,"17695b0ab7e5b6908e43c3163a7752b8b008fb635ca7ef8620902c053c7151b3") false over (fun _ h=>by cases h) (by kernel_rfl) (fun _ h=>by cases h) fnProofs_row_tie rfl ⟨rfl,rfl⟩ (by kernel_rfl) rfl
  (fun f fn hf hfn=>by
   obtain rfl:f=3:=Option.some.inj ((show Tryz.prog.funcNamed Rows.fnProofsRow.func=some 3 by kernel_rfl).symm.trans hf) |>.symm;obtain rfl:fn=Tryz.f3:=(Option.some.inj (Tryz.func3.symm.trans hfn)).symm;exact⟨by kernel_rfl,fun j t ht=>by
    rw[Tryz.params3] at ht;have:=List.mem_of_getElem? (l:=Tryz.f3.params.toList) (i:=j) (a:=t) (by rw[Tryz.params3];simpa using ht);rw[Tryz.params3] at this;simp at this;rcases this with rfl
    ·exact(show Tryz.prog.wantsStandIn 22=false by kernel_rfl)⟩)
  (by kernel_rfl)
#print axioms proved
end Go.Proofs.YtehgpkadkdekmaaGreatDoor.fnProofs
