import Derived.Test.YtmfkcdelddmfpaaGreatJ16
import Derived.Test.YtmfkcdelddmfpaaGreatRows
import Derived.WalkKit
import Derived.ProofKit
import Derived.OpenShut
import Derived.ShutString
import Derived.Carry
namespace Go.Proofs.YtmfkcdelddmfpaaGreat.fnProofCheck
open Go.ChangeShapes Go.WideShapes Go.ChangeAt Go.RowKit
set_option linter.unusedVariables false
theorem own:ownKnob Tryz.prog.godebug=none:=by kernel_rfl
theorem closed:Go.Abs.closedB Tryz.prog [5]=true:=by kernel_rfl
theorem laid:laidOutB Tryz.prog=true:=by kernel_rfl
theorem ci1:Go.Abs.tAgg Tryz.prog 22=some false:=by kernel_rfl
theorem be6:Tryz.prog.readableRec 22=true:=by kernel_rfl
theorem ch2:22<Tryz.prog.types.size:=of_decide_eq_true (by kernel_rfl)
theorem lf22:Go.Abs.leaves Tryz.prog 6 22=some [.sl 5]:=by kernel_rfl
theorem walk (a0:List UInt8) (w:World) (v0:Value) (r0:Go.Abs.RdD w (fun b _=>b<w.heap.size) (.sl (Go.Abs.bytesD a0)) v0) :
  Calls Tryz.prog 3 #[v0] w fun e w'=>e=.returned (.bool true)/\Below w.heap.size w w':=by
 refine (au0 a0 ).bool w _ rfl (fun i d v' hd hv'=>?_);match i with
 | 0 =>
  simp at hd;subst hd;have:v'=v0:=by simpa using hv'.symm
  subst this;exact r0
 | i+1=>simp at hd
set_option maxRecDepth 100000 in
theorem lifted (os:Os) (started:os.Started) (H:Type) (enc:TypeId×Value->H) :
  ReturnsInHanded {} Tryz.checked os 3 .any (Rows.fnProofCheckSpec.pre6 enc Tryz.prog Tryz.f3 Rows.fnProofCheckRow.domain false) (Rows.fnProofCheckSpec.post enc Tryz.prog Tryz.f3 false true false false):=by
 refine returnsInHanded_of_change (C:=Tryz.checked) own started (by kernel_rfl) Tryz.func3
  (ChangeSpec.witness6 (enc:=enc) (C:=Tryz.checked) false ⟨#[],#[.slice none 0 0],[]⟩ 8 (by kernel_rfl) (by kernel_rfl) (by kernel_rfl) (by kernel_rfl)) ?_
 intro W base args ds gs before hval0 hW hcnd _;have hval:∀(j:Nat) t v,Tryz.f3.params[j]? = some t->args[j]? = some v->Value.okWide Tryz.prog W .any base t v:=hval0;have hW':=hW;have hlt:∀p∈before,p.block<W.heap.size:=fun p hp=>hW.lt p hp;obtain ⟨p,q,hA0,hV,rfl,hfz,hnd⟩:=hW;have hA:DataW.TrodAll enc Tryz.prog W 0 (fun _=>true) true Tryz.f3.params.toList args.toList ds p:=hA0;rw [Tryz.params3] at hA hval;obtain ⟨v0,vs0,d0,ds0,p0,q0,hargs,rfl,rfl,h0,r0⟩:=trodAll_cons hA;obtain ⟨rfl,rfl,rfl⟩:=trodAll_nil r0;obtain rfl:args=#[v0]:=by cases args;simp_all
 obtain ⟨rfl,rfl⟩:=trodVars_none hV;obtain ⟨x0,hx0,hr0⟩:=Go.Abs.arg_one ci1 (hval 0 22 v0 rfl rfl) h0 closed lf22 rfl;obtain ⟨a0,rfl⟩:=Go.Abs.sl_bytes lf22 (by kernel_rfl) hx0;clear hA0 hval0;simp only [List.append_nil] at hW' hlt;refine (walk a0  W v0 hr0).mono fun e W' ⟨he,hg⟩=>?_;subst he
 exact ⟨_,rfl,Go.Abs.post_of_below (pa:=p0++([])) (pv:=[]) hW' (fun _ _ _=>(trodAll_cons_mk (shut_bool Tryz.underlying4 _) trodAll_mk0))
  (fun sp hsp=>trodAll_cons_mk (WideElems.Trod_stays laid be6 ch2 h0 (fun x hx=>hg.same (hlt x (by simp [hx]))) (fun x hx=>hsp x (by simp [hx]))) trodAll_mk0) (fun _ _=>rfl) (by simp)
  hg (ok_one (by kernel_rfl) rfl (okWide_bool_mk Tryz.underlying4 _))⟩
theorem ag6 {a b:Bool} (h:a=true) (k:b=true):(a && b)=true:=by rw [h,k];rfl
theorem k0:(Rows.fnProofCheckRow.wf (OpenSpec.ofChange Rows.fnProofCheckSpec))=true:=by kernel_rfl
theorem k1:(laidOutB Tryz.pinned.checked.prog)=true:=by kernel_rfl
theorem k2:(mapsRowed Tryz.pinned.checked.prog)=true:=by kernel_rfl
theorem k3:(Tryz.f3.params.all (Tryz.pinned.checked.prog.readableRec ·))=true:=by kernel_rfl
theorem k4:(namedTie Tryz.pinned.checked.prog Rows.fnProofCheckRow.named Rows.fnProofCheckSpec.vars)=true:=by kernel_rfl
theorem k5:((Rows.fnProofCheckRow.stops == []))=true:=by kernel_rfl
theorem k6:((Tryz.pinned.checked.prog.stops == []))=true:=by kernel_rfl
theorem k7:((Rows.fnProofCheckRow.knobs == []))=true:=by kernel_rfl
theorem k8:((Tryz.pinned.checked.prog.stopKnobs == []))=true:=by kernel_rfl
theorem k9:((Rows.fnProofCheckRow.inPlace == Tryz.pinned.checked.prog.inPlace 3))=true:=by kernel_rfl
theorem k10:((Rows.fnProofCheckRow.unfollowed == Tryz.pinned.checked.prog.unfollowed 3))=true:=by kernel_rfl
theorem k11:((Rows.fnProofCheckRow.recurses == Tryz.pinned.checked.prog.recurses 3))=true:=by kernel_rfl
theorem k12:((Rows.fnProofCheckRow.named == Tryz.pinned.checked.prog.varsNamed 3))=true:=by kernel_rfl
theorem k13:((Rows.fnProofCheckRow.maps == (Tryz.f3.params.toList++Rows.fnProofCheckSpec.plain.varTypes Tryz.pinned.checked.prog).any (Tryz.pinned.checked.prog.mapsRec ·)))=true:=by kernel_rfl
theorem k14:((Rows.fnProofCheckRow.ifaces == (Tryz.f3.params.toList++Rows.fnProofCheckSpec.plain.varTypes Tryz.pinned.checked.prog).any (Tryz.pinned.checked.prog.ifacesRec ·)))=true:=by kernel_rfl
theorem k15:((Rows.fnProofCheckRow.mapsOut == Tryz.pinned.checked.prog.mapsAmong Tryz.f3.resultTypes.toList))=true:=by kernel_rfl
theorem k16:((Rows.fnProofCheckRow.loops == (Tryz.f3.params.toList++Rows.fnProofCheckSpec.plain.varTypes Tryz.pinned.checked.prog).any (Tryz.pinned.checked.prog.loopsFrom ·)))=true:=by kernel_rfl
theorem k17:((Rows.fnProofCheckRow.wideKeys == (Tryz.f3.params.toList++Rows.fnProofCheckSpec.plain.varTypes Tryz.pinned.checked.prog++Tryz.f3.resultTypes.toList).any (Tryz.pinned.checked.prog.wideKeysFrom ·)))=true:=by kernel_rfl
theorem k18:(Rows.fnProofCheckSpec.vars.all (Tryz.pinned.checked.prog.varReadable ·))=true:=by kernel_rfl
theorem k19:(Tryz.f3.resultTypes.all (fun t=>Tryz.pinned.checked.prog.readableRec t && decide (t<Tryz.pinned.checked.prog.types.size)))=true:=by kernel_rfl
theorem k20:((Rows.fnProofCheckRow.ifacesOut == Tryz.f3.resultTypes.toList.any (Tryz.pinned.checked.prog.ifacesRec ·)))=true:=by kernel_rfl
theorem k21:((Rows.fnProofCheckRow.loopsOut == Tryz.f3.resultTypes.toList.any (Tryz.pinned.checked.prog.loopsFrom ·)))=true:=by kernel_rfl
theorem k22:((Rows.fnProofCheckRow.plainKeys == Tryz.pinned.checked.prog.plainKeys))=true:=by kernel_rfl
theorem k23:(Rows.fnProofCheckRow.shortTexts.isNone)=true:=by kernel_rfl
theorem k24:(Tryz.pinned.checked.prog.stopsHeard)=true:=by kernel_rfl
theorem k25:(Tryz.pinned.checked.prog.mayEnter)=true:=by kernel_rfl
theorem k26:((Rows.fnProofCheckRow.lifted == Tryz.pinned.checked.prog.liftsFinal))=true:=by kernel_rfl
theorem k27:((Tryz.pinned.checked.prog.make == some Rows.fnProofCheckRow.make))=true:=by kernel_rfl
theorem k28:((Rows.fnProofCheckRow.kinds == (if Rows.fnProofCheckRow.domain.isEmpty then [] else Tryz.f3.params.toList.map fun t=>match Tryz.pinned.checked.prog.underlying t with | some (.int k)=>some k | _=>none)))=true:=by kernel_rfl
theorem k29:((Rows.fnProofCheckRow.pinned == Rows.fnProofCheckRow.pinnedBy))=true:=by kernel_rfl
theorem k30:((Rows.fnProofCheckRow.veiled == (Tryz.f3.params.toList++Rows.fnProofCheckSpec.plain.varTypes Tryz.pinned.checked.prog++Tryz.f3.resultTypes.toList).any (Tryz.pinned.checked.prog.veiledRec ·)))=true:=by kernel_rfl
theorem k31:(Rows.fnProofCheckRow.veiledFits Tryz.pinned.checked.prog Tryz.f3.params.toList (Tryz.f3.params.toList++Rows.fnProofCheckSpec.plain.varTypes Tryz.pinned.checked.prog++Tryz.f3.resultTypes.toList))=true:=by kernel_rfl
set_option maxRecDepth 100000 in
theorem bu4:joinedFacts Tryz.pinned.checked.prog 3 Tryz.f3 Rows.fnProofCheckSpec Rows.fnProofCheckRow=true:=by
 unfold joinedFacts;exact (ag6 (ag6 (ag6 (ag6 (ag6 (ag6 (ag6 (ag6 (ag6 (ag6 (ag6 (ag6 (ag6 (ag6 (ag6 (ag6 (ag6 (ag6 (ag6 (ag6 (ag6 (ag6 (ag6 (ag6 (ag6 (ag6 (ag6 (ag6 (ag6 (ag6 (ag6 k0 k1) k2) k3) k4) k5) k6) k7) k8) k9) k10) k11) k12) k13) k14) k15) k16) k17) k18) k19) k20) k21) k22) k23) k24) k25) k26) k27) k28) k29) k30) k31)
theorem named:Tryz.pinned.checked.prog.funcNamed Rows.fnProofCheckRow.func=some 3:=by kernel_rfl
theorem over:Rows.fnProofCheckRow.holds Tryz.pinned (OpenSpec.ofChange Rows.fnProofCheckSpec):=
 OpenClaim.holds_of_wide 3 Tryz.f3 rfl rfl rfl rfl rfl rfl rfl ⟨rfl,rfl,rfl,rfl,rfl⟩ rfl rfl rfl rfl rfl named Tryz.func3 bu4
  (of_decide_eq_true (by kernel_rfl)) (by unfold Func.isWrapper;first | (rw [if_pos (by decide +kernel)];kernel_rfl) | (rw [if_neg (by decide +kernel)];exact ⟨rfl,rfl⟩))
  (fun os started H enc _=>lifted os started H enc)
theorem proved:Rows.FnProofCheckSaid:=
 over
#print axioms proved
end Go.Proofs.YtmfkcdelddmfpaaGreat.fnProofCheck
