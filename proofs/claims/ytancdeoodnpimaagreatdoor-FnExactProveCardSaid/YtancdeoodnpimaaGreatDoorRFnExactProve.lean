import Derived.Test.YtancdeoodnpimaaGreatDoorJ17
import Derived.Test.YtancdeoodnpimaaGreatDoorRows
import Derived.WalkKit
import Derived.ProofKit
import Derived.OpenShut
import Derived.ShutString
import Derived.Carry
import Derived.Test.YtancdeoodnpimaaGreatDoorCards
import Derived.Test.YtancdeoodnpimaaGreatDoorTie
import Derived.Lay
import Derived.SevenTiedAt
import Derived.Stop.Joined
import Derived.Stop.LaidErr
namespace Go.Proofs.YtancdeoodnpimaaGreatDoor.fnExactProve
open Go.ChangeShapes Go.WideShapes Go.ChangeAt Go.RowKit
set_option linter.unusedVariables false
theorem own:ownKnob Tryz.prog.godebug=none:=by kernel_rfl
theorem closed:Go.Abs.closedB Tryz.prog [90,57,88]=true:=by kernel_rfl
theorem laid:laidOutB Tryz.prog=true:=by kernel_rfl
theorem cl8:Go.Abs.tAgg Tryz.prog 24=some true:=by kernel_rfl
theorem bb7:Tryz.prog.readableRec 24=true:=by kernel_rfl
theorem cj3:24<Tryz.prog.types.size:=of_decide_eq_true (by kernel_rfl)
theorem lf24:Go.Abs.leaves Tryz.prog 6 24=some [.sl 90]:=by kernel_rfl
theorem cl7:Go.Abs.tAgg Tryz.prog 25=some false:=by kernel_rfl
theorem bb6:Tryz.prog.readableRec 25=true:=by kernel_rfl
theorem cj1:25<Tryz.prog.types.size:=of_decide_eq_true (by kernel_rfl)
theorem lf25:Go.Abs.leaves Tryz.prog 6 25=some [.sl 57]:=by kernel_rfl
theorem cl6:Go.Abs.tAgg Tryz.prog 27=some true:=by kernel_rfl
theorem bb5:Tryz.prog.readableRec 27=true:=by kernel_rfl
theorem cj0:27<Tryz.prog.types.size:=of_decide_eq_true (by kernel_rfl)
theorem lf27:Go.Abs.leaves Tryz.prog 6 27=some [.str,.sl 57]:=by kernel_rfl
theorem walk (a0:Go.Abs.Pg) (a1:List Go.Abs.Tm) (a2:Go.Abs.Fc) (ha0:Go.Abs.Sh Tryz.prog 24 (a0.enc)) (ha1:Go.Abs.Sh Tryz.prog 25 [.sl (a1.map Go.Abs.Tm.enc)]) (ha2:Go.Abs.Sh Tryz.prog 27 (a2.enc)) (w:World) (v0:Value) (v1:Value) (v2:Value) (r0:Go.Abs.RdD w (fun b _=>b<w.heap.size) (.agg a0.enc) v0) (r1:Go.Abs.RdD w (fun b _=>b<w.heap.size) (.sl (a1.map Go.Abs.Tm.enc)) v1) (r2:Go.Abs.RdD w (fun b _=>b<w.heap.size) (.agg a2.enc) v2) (ht:Lib.TabIs Tryz.prog w "internal/strconv.uint64pow10" .u64 Lib.pow10Tab) :
  Calls Tryz.prog 3 #[v0,v1,v2] w fun e w'=>e=.returned (.bool true)/\Below w.heap.size w w':=by
 refine Go.Abs.ACalls.boolT (args:=[.agg a0.enc,.sl (a1.map Go.Abs.Tm.enc),.agg a2.enc]) (g:=0) (tv:=Lib.pow10Tab.map fun z=>Value.int .u64 z) (at7 a0 a1 a2 ha0 ha1 ha2) w _ rfl (fun i d v' hd hv'=>?_) (fun j=>(World.var?_cell (by kernel_rfl) ht j).trans (by simp)) (by decide);match i with
 | 0 =>
  simp at hd;subst hd;have:v'=v0:=by simpa using hv'.symm
  subst this;exact r0
 | 1 =>
  simp at hd;subst hd;have:v'=v1:=by simpa using hv'.symm
  subst this;exact r1
 | 2 =>
  simp at hd;subst hd;have:v'=v2:=by simpa using hv'.symm
  subst this;exact r2
 | i+3=>simp at hd
theorem bx9 (os:Os) (args:Array Value):laidMetH Tryz.prog Rows.fnExactProveRow.laid ((World.laidAll Tryz.prog os Rows.fnExactProveRow.laid).forCall (fun _ _=>0) ⟨#[],args,[]⟩).memory:=
 laidMet_laidAll (laid:=Rows.fnExactProveRow.laid) args (by kernel_rfl) (by kernel_rfl)
theorem tabs {W:World} (h:laidMetH Tryz.prog Rows.fnExactProveRow.laid W):Lib.TabIs Tryz.prog W "internal/strconv.uint64pow10" .u64 Lib.pow10Tab:=by
 have h0:laidMet Tryz.prog [("math/bits.deBruijn32tab",Rows.laid_math_bits_deBruijn32tab),("math/bits.deBruijn64tab",Rows.laid_math_bits_deBruijn64tab),("internal/strconv.uint64pow10",Rows.laid_internal_strconv_uint64pow10)] W:=h;have e:(Rows.laid_internal_strconv_uint64pow10:DataW Unit)=Lib.tabData .u64 Lib.pow10Tab:=by kernel_rfl
 rw [e] at h0;exact Lib.tabIs_of_head (g:=0) (t:=246) (e:=229) (n:=20) (by kernel_rfl) (by kernel_rfl) (by kernel_rfl) (by kernel_rfl) (by kernel_rfl) (by kernel_rfl) h0.tail.tail
set_option maxRecDepth 100000 in
theorem lifted (os:Os) (started:os.Started) (H:Type) (enc:TypeId×Value->H) :
  ReturnsInHanded {} Tryz.checked os 3 .any (fun w args=>(Rows.fnExactProveSpec.pre enc Tryz.prog Tryz.f3 [] false w args/\laidMetH Tryz.prog Rows.fnExactProveRow.laid w)/\sizedMet enc Tryz.prog Tryz.f3 (OpenSpec.ofChange Rows.fnExactProveSpec) false w args)
   (Rows.fnExactProveSpec.post enc Tryz.prog Tryz.f3 false true false false):=by
 refine returnsInHanded_of_change_and (C:=Tryz.checked) (X:=fun w _=>laidMetH Tryz.prog Rows.fnExactProveRow.laid w) (fun _ _ _ hh h=>h.of_heap hh) own started (by kernel_rfl) Tryz.func3
  (ChangeSpec.witness_at (enc:=enc) (C:=Tryz.checked) (os:=os) (X:=fun w _=>laidMetH Tryz.prog Rows.fnExactProveRow.laid w) false (World.laidAll Tryz.prog os Rows.fnExactProveRow.laid) #[.agg #[.slice none 0 0],.slice none 0 0,.agg #[.string ByteArray.empty,.slice none 0 0]] 8 (World.laidAll_os _ _ _) (by kernel_rfl) (by kernel_rfl) (by kernel_rfl) (by kernel_rfl) (by kernel_rfl) (bx9 os _)) ?_
 intro W base args ds gs before hval0 hW hcnd _ hL _;have hval:∀(j:Nat) t v,Tryz.f3.params[j]? = some t->args[j]? = some v->Value.okWide Tryz.prog W .any base t v:=hval0;have hW':=hW;have hlt:∀p∈before,p.block<W.heap.size:=fun p hp=>hW.lt p hp;obtain ⟨p,q,hA0,hV,rfl,hfz,hnd⟩:=hW;have hA:DataW.TrodAll enc Tryz.prog W 0 (fun _=>true) true Tryz.f3.params.toList args.toList ds p:=hA0;rw [Tryz.params3] at hA hval;obtain ⟨v0,vs0,d0,ds0,p0,q0,hargs,rfl,rfl,h0,r0⟩:=trodAll_cons hA;obtain ⟨v1,vs1,d1,ds1,p1,q1,rfl,rfl,rfl,h1,r1⟩:=trodAll_cons r0;obtain ⟨v2,vs2,d2,ds2,p2,q2,rfl,rfl,rfl,h2,r2⟩:=trodAll_cons r1;obtain ⟨rfl,rfl,rfl⟩:=trodAll_nil r2;obtain rfl:args=#[v0,v1,v2]:=by cases args;simp_all
 obtain ⟨rfl,rfl⟩:=trodVars_none hV;obtain ⟨x0,hx0,hr0⟩:=Go.Abs.arg_agg cl8 (hval 0 24 v0 rfl rfl) h0 closed lf24 rfl;obtain ⟨a0,rfl⟩:=ci6 x0 hx0;obtain ⟨x1,hx1,hr1⟩:=Go.Abs.arg_one cl7 (hval 1 25 v1 rfl rfl) h1 closed lf25 rfl;obtain ⟨a1,rfl⟩:=ci4 hx1;obtain ⟨x2,hx2,hr2⟩:=Go.Abs.arg_agg cl6 (hval 2 27 v2 rfl rfl) h2 closed lf27 rfl;obtain ⟨a2,rfl⟩:=ci8 x2 hx2;clear hA0 hval0;simp only [List.append_nil] at hW' hlt;refine (walk a0 a1 a2 hx0 hx1 hx2 W v0 v1 v2 hr0 hr1 hr2 (tabs hL)).mono fun e W' ⟨he,hg⟩=>?_;subst he
 exact ⟨_,rfl,Go.Abs.post_of_below (pa:=p0++(p1++(p2++([])))) (pv:=[]) hW' (fun _ _ _=>(trodAll_cons_mk (shut_bool Tryz.underlying4 _) trodAll_mk0))
  (fun sp hsp=>trodAll_cons_mk (WideElems.Trod_stays laid bb7 cj3 h0 (fun x hx=>hg.same (hlt x (by simp [hx]))) (fun x hx=>hsp x (by simp [hx]))) (trodAll_cons_mk (WideElems.Trod_stays laid bb6 cj1 h1 (fun x hx=>hg.same (hlt x (by simp [hx]))) (fun x hx=>hsp x (by simp [hx]))) (trodAll_cons_mk (WideElems.Trod_stays laid bb5 cj0 h2 (fun x hx=>hg.same (hlt x (by simp [hx]))) (fun x hx=>hsp x (by simp [hx]))) trodAll_mk0))) (fun _ _=>rfl) (by simp)
  hg (ok_one (by kernel_rfl) rfl (okWide_bool_mk Tryz.underlying4 _))⟩
theorem af8 {a b:Bool} (h:a=true) (k:b=true):(a && b)=true:=by rw [h,k];rfl
theorem k0:(Rows.fnExactProveRow.wf (OpenSpec.ofChange Rows.fnExactProveSpec))=true:=by kernel_rfl
theorem k1:(laidOutB Tryz.pinned.checked.prog)=true:=by kernel_rfl
theorem k2:(mapsRowed Tryz.pinned.checked.prog)=true:=by kernel_rfl
theorem k3:(Tryz.f3.params.all (Tryz.pinned.checked.prog.readableRec ·))=true:=by kernel_rfl
theorem k4:(namedTie Tryz.pinned.checked.prog Rows.fnExactProveRow.named Rows.fnExactProveSpec.vars)=true:=by kernel_rfl
theorem k5:((Rows.fnExactProveRow.stops == []))=true:=by kernel_rfl
theorem k6:((Tryz.pinned.checked.prog.stops == []))=true:=by kernel_rfl
theorem k7:((Rows.fnExactProveRow.knobs == []))=true:=by kernel_rfl
theorem k8:((Tryz.pinned.checked.prog.stopKnobs == []))=true:=by kernel_rfl
theorem k9:((Rows.fnExactProveRow.inPlace == Tryz.pinned.checked.prog.inPlace 3))=true:=by kernel_rfl
theorem k10:((Rows.fnExactProveRow.unfollowed == Tryz.pinned.checked.prog.unfollowed 3))=true:=by kernel_rfl
theorem k11:((Rows.fnExactProveRow.recurses == Tryz.pinned.checked.prog.recurses 3))=true:=by kernel_rfl
theorem k12:((Rows.fnExactProveRow.named == Tryz.pinned.checked.prog.varsNamed 3))=true:=by kernel_rfl
theorem k13:((Rows.fnExactProveRow.maps == (Tryz.f3.params.toList++Rows.fnExactProveSpec.plain.varTypes Tryz.pinned.checked.prog).any (Tryz.pinned.checked.prog.mapsRec ·)))=true:=by kernel_rfl
theorem k14:((Rows.fnExactProveRow.ifaces == (Tryz.f3.params.toList++Rows.fnExactProveSpec.plain.varTypes Tryz.pinned.checked.prog).any (Tryz.pinned.checked.prog.ifacesRec ·)))=true:=by kernel_rfl
theorem k15:((Rows.fnExactProveRow.mapsOut == Tryz.pinned.checked.prog.mapsAmong Tryz.f3.resultTypes.toList))=true:=by kernel_rfl
theorem k16:((Rows.fnExactProveRow.loops == (Tryz.f3.params.toList++Rows.fnExactProveSpec.plain.varTypes Tryz.pinned.checked.prog).any (Tryz.pinned.checked.prog.loopsFrom ·)))=true:=by kernel_rfl
theorem k17:((Rows.fnExactProveRow.wideKeys == (Tryz.f3.params.toList++Rows.fnExactProveSpec.plain.varTypes Tryz.pinned.checked.prog++Tryz.f3.resultTypes.toList).any (Tryz.pinned.checked.prog.wideKeysFrom ·)))=true:=by kernel_rfl
theorem k18:(Rows.fnExactProveSpec.vars.all (Tryz.pinned.checked.prog.varReadable ·))=true:=by kernel_rfl
theorem k19:(Tryz.f3.resultTypes.all (fun t=>Tryz.pinned.checked.prog.readableRec t && decide (t<Tryz.pinned.checked.prog.types.size)))=true:=by kernel_rfl
theorem k20:((Rows.fnExactProveRow.ifacesOut == Tryz.f3.resultTypes.toList.any (Tryz.pinned.checked.prog.ifacesRec ·)))=true:=by kernel_rfl
theorem k21:((Rows.fnExactProveRow.loopsOut == Tryz.f3.resultTypes.toList.any (Tryz.pinned.checked.prog.loopsFrom ·)))=true:=by kernel_rfl
theorem k22:((Rows.fnExactProveRow.plainKeys == Tryz.pinned.checked.prog.plainKeys))=true:=by kernel_rfl
theorem k23:(Rows.fnExactProveRow.shortTexts.isNone)=true:=by kernel_rfl
theorem k24:(Tryz.pinned.checked.prog.stopsHeard)=true:=by kernel_rfl
theorem k25:(Tryz.pinned.checked.prog.mayEnter)=true:=by kernel_rfl
theorem k26:((Rows.fnExactProveRow.lifted == Tryz.pinned.checked.prog.liftsFinal))=true:=by kernel_rfl
theorem k27:((Tryz.pinned.checked.prog.make == some Rows.fnExactProveRow.make))=true:=by kernel_rfl
theorem k28:((Rows.fnExactProveRow.kinds == (if Rows.fnExactProveRow.domain.isEmpty then [] else Tryz.f3.params.toList.map fun t=>match Tryz.pinned.checked.prog.underlying t with | some (.int k)=>some k | _=>none)))=true:=by kernel_rfl
theorem k29:((Rows.fnExactProveRow.pinned == Rows.fnExactProveRow.pinnedBy))=true:=by kernel_rfl
theorem k30:((Rows.fnExactProveRow.veiled == (Tryz.f3.params.toList++Rows.fnExactProveSpec.plain.varTypes Tryz.pinned.checked.prog++Tryz.f3.resultTypes.toList).any (Tryz.pinned.checked.prog.veiledRec ·)))=true:=by kernel_rfl
theorem k31:(Rows.fnExactProveRow.veiledFits Tryz.pinned.checked.prog Tryz.f3.params.toList (Tryz.f3.params.toList++Rows.fnExactProveSpec.plain.varTypes Tryz.pinned.checked.prog++Tryz.f3.resultTypes.toList))=true:=by kernel_rfl
set_option maxRecDepth 100000 in
theorem br7:joinedFacts Tryz.pinned.checked.prog 3 Tryz.f3 Rows.fnExactProveSpec Rows.fnExactProveRow=true:=by
 unfold joinedFacts;exact (af8 (af8 (af8 (af8 (af8 (af8 (af8 (af8 (af8 (af8 (af8 (af8 (af8 (af8 (af8 (af8 (af8 (af8 (af8 (af8 (af8 (af8 (af8 (af8 (af8 (af8 (af8 (af8 (af8 (af8 (af8 k0 k1) k2) k3) k4) k5) k6) k7) k8) k9) k10) k11) k12) k13) k14) k15) k16) k17) k18) k19) k20) k21) k22) k23) k24) k25) k26) k27) k28) k29) k30) k31)
theorem named:Tryz.pinned.checked.prog.funcNamed Rows.fnExactProveRow.func=some 3:=by kernel_rfl
theorem over:Rows.fnExactProveRow.holds Tryz.pinned (OpenSpec.ofChange Rows.fnExactProveSpec):=
 OpenClaim.holds_of_wide 3 Tryz.f3 rfl rfl rfl rfl rfl rfl rfl ⟨rfl,rfl,rfl,rfl,rfl⟩ rfl rfl rfl rfl rfl named Tryz.func3 br7
  (of_decide_eq_true (by kernel_rfl)) (by unfold Func.isWrapper;first | (rw [if_pos (by decide +kernel)];kernel_rfl) | (rw [if_neg (by decide +kernel)];exact ⟨rfl,rfl⟩))
  (fun os started H enc _=>lifted os started H enc)
theorem proved:Rows.FnExactProveCardSaid:=
 Claim7.holds_tied_plain_at .later [] [.data,.data,.data] true (true,"a1b0f604f6a09afcc7c161f07f27b071fb5f33c5abd7012c4af6d6f1fa9e1e54") false over (fun _ h=>by cases h) (by kernel_rfl) (fun _ h=>by cases h) fnExactProve_row_tie rfl ⟨rfl,rfl⟩ (by kernel_rfl) rfl
  (fun f fn hf hfn=>by
   obtain rfl:f=3:=Option.some.inj ((show Tryz.prog.funcNamed Rows.fnExactProveRow.func=some 3 by kernel_rfl).symm.trans hf) |>.symm;obtain rfl:fn=Tryz.f3:=(Option.some.inj (Tryz.func3.symm.trans hfn)).symm;exact ⟨by kernel_rfl,fun j t ht=>by
    rw [Tryz.params3] at ht;have:=List.mem_of_getElem? (l:=Tryz.f3.params.toList) (i:=j) (a:=t) (by rw [Tryz.params3];simpa using ht);rw [Tryz.params3] at this;simp at this;rcases this with rfl | rfl | rfl
    ·exact (show Tryz.prog.wantsStandIn 24=false by kernel_rfl)
    ·exact (show Tryz.prog.wantsStandIn 25=false by kernel_rfl)
    ·exact (show Tryz.prog.wantsStandIn 27=false by kernel_rfl)⟩)
  (by kernel_rfl)
#print axioms proved
end Go.Proofs.YtancdeoodnpimaaGreatDoor.fnExactProve
