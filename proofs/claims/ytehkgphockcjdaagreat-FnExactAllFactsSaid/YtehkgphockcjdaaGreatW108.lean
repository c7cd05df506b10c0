import Derived.Test.YtehkgphockcjdaaGreatW107
import Derived.Test.YtehkgphockcjdaaGreatW41
import Derived.Test.YtehkgphockcjdaaGreatW20
import Derived.Test.YtehkgphockcjdaaGreatW22
namespace Go.Proofs.YtehkgphockcjdaaGreat
open Go.Abs
set_option maxRecDepth 100000
set_option maxHeartbeats 8000000
set_option linter.unusedSimpArgs false
set_option linter.unusedVariables false
theorem l02CopyAll_gn (l:List Tm) (hw:wtR (l.map Tm.enc)≤2000000):Gives Tryz.prog 48 [.sl (l.map Tm.enc)] (.d (.sl (l.map Tm.enc))):=by
 have h:=l02CopyAll_T l hw
 refine ACalls.frozen (ds:=[.sl (l.map Tm.enc)]) (m:=1) h (fun c H' ⟨h1,e,B,h2⟩ _=>?_)
 subst h1 h2;rfl
theorem l02CopyAll_V (l:List V) (hw:wtR (l.map V.enc)≤2000000):Gives Tryz.prog 48 [.sl (l.map V.enc)] (.d (.sl (l.map V.enc))):=by
 have h:=l02CopyAll_gn (l.map V.tm) (by rw [enc_tms];exact hw)
 rw [enc_tms] at h;exact h
theorem l18Copy_V (l:List FcV) (hl:l.length≤2000000) (hw:∀x,x∈l→wtR (x.2.map V.enc)≤2000000):Gives Tryz.prog 24 [.sl (l.map fcE)] (.d (.sl (l.map fcE))):=by
 have hmx:maxLen=9223372036854775807:=rfl
 refine aE_ Tryz.func24 ?_
 refine rS_ Tryz.func24 ?_
 simp only [go_sem,seval]
 refine AW.adopt 3 2 57 (by decide) rfl ?_
 refine AW.rng l [7,8] 9 7 (fun p:List FcV=>[(3,.own 0 p.length)]) (fun _ p=>[.grow p.length 2 57 (p.map fcE)]) (fun r p=>p++r=l) [] rfl (by simp) rfl wk3_ (fun i x r p hxi hdr hlt hm hinv hnext=>?_) (fun p hinv=>?_)
 ·have hxm:=List.mem_of_getElem? hxi
  have hc:=l02CopyAll_V x.2 (hw x hxm)
  have hpl:p.length+(r.length+1)=l.length:=by rw [←hinv];simp
  have hxe:=fcE_eq x
  generalize hX:fcE x=X at *
  subst hxe
  refine run_sound Tryz.func24 mixed 9 _ _ (by kernel_rfl) ?_
  simp only [go_sem,seval,run.eq_1,hlt,idx_of hxi,hX]
  refine AW.drawA mixed #[true,true,true,true,true,true,true,true,true,false] [(1,.box [.d (.str x.1),.d (.sl (x.2.map V.enc))])] [] [0,1,2,3,4,5,6,7,8] [9] none (by kernel_rfl) trivial (by simp [holdsB]) ?_
  simp only [go_sem,seval]
  repeat' (first
   | ((first
    | (refine hc.calls rfl ?_)
    | (refine ⟨sd,?_⟩))<;>(try simp only [go_sem,seval]))
   | fail)
  refine rS_ Tryz.func24 ?_
  simp only [go_sem,seval]
  repeat' (first
   | (simp (disch:=omega) only [wrap_ok])
   | fail)
  refine hnext (p++[x]) _ (by simp [←hinv]) (by refine ⟨by simp [mkS,hX],by simp [mkS,hX],by simp only [mkS,List.all_cons,List.all_nil,O.refsLt,C.refsLt,C.refsLt1,all_dmap];first | done | rfl | (simp;done),?_⟩;simp [mkS,Abs.get,C.refsLtT,C.refsLt,C.refsLt1])
 ·simp only [List.append_nil] at hinv
  subst hinv
  refine rS_ Tryz.func24 ?_
  simp only [go_sem,seval]
theorem uniwts {u:List V} (hu:Uni u) (l:List V) (hl:∀v,v∈l→v∈u) (hn:l.length≤12):wtR (l.map V.enc)≤2000000:=by
 have:=oks_wtV l (List.all_eq_true.2 fun v hv=>hu.ok v (hl v hv))
 omega
def Over (G L R:List RV):Prop:=(L.length≤2000∧G=L++R)∨(L.length=2001∧∃X,G=L++X)
theorem Over.le {G L R:List RV} (h:Over G L R):L.length≤2001:=by rcases h with h | h<;>omega
theorem Over.full {G L R R':List RV} (h:Over G L R) (hl:¬L.length≤2000):Over G L R':=by
 rcases h with h | h
 ·omega
 ·exact Or.inr h
theorem Over.step {G L R R':List RV} {o:Option RV} (h:Over G L R) (hl:L.length≤2000) (hr:R=o.toList++R'):Over G (L++o.toList) R':=by
 rcases h with ⟨h1,h2⟩ | h
 ·subst hr
  have e:G=(L++o.toList)++R':=by rw [h2,List.append_assoc]
  have h3:(L++o.toList).length≤2001:=by cases o<;>simp<;>omega
  by_cases h4:(L++o.toList).length≤2000
  ·exact Or.inl ⟨h4,e⟩
  ·exact Or.inr ⟨by omega,_,e⟩
 ·omega
def vrs (n:Nat):List (List D):=intsD ((List.range n).map fun i:Nat=>(i:Int))
theorem vrs_0:vrs 0=[]:=rfl
end Go.Proofs.YtehkgphockcjdaaGreat
