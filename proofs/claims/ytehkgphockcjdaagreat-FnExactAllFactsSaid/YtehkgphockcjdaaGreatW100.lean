import Derived.Test.YtehkgphockcjdaaGreatFx
import Derived.Test.YtehkgphockcjdaaGreatA10
open List renaming append_assoc→a_
open Nat renaming le_refl→b_
namespace Go.Proofs.YtehkgphockcjdaaGreat
open Go.Abs
set_option maxRecDepth 100000
set_option maxHeartbeats 4000000
set_option linter.unusedSimpArgs false
set_option linter.unusedVariables false
theorem wrapN {x:Int} (n:Nat) (e:x=n) (h:n≤9223372036854775807):IntKind.i64.wrap x=(n:Int):=by
 rw [e];exact wrap_ok (by omega) (by omega)
section
variable {α:Type} {g sf:FuncId} {cs ds:List C} {n m:Nat} {Hs:(Nat→α)→List O} {lt:α→α→Bool}
theorem swapRange_R (h:Srtr Tryz.prog g cs sf ds n m Hs lt) (hn:n<4611686018427387904) (a b k:Nat) (f:Nat→α) (h1:a+k≤b) (h2:b+k≤n) :
  ACalls Tryz.prog 116 [.agg [.fn g cs,.xfn sf ds],.d (.int .i64 a),.d (.int .i64 b),.d (.int .i64 k)] (Hs f) (fun c H'=>c=.tup []∧H'=Hs (srx a b k f)):=by
 refine aE_ Tryz.func116 ?_
 refine rS_ Tryz.func116 ?_
 simp only [go_sem,seval,h.len,h.gog,h.at0,h.atj,h.set0,h.setj,h.tk,h.tk0,h.tkj,h.refs,h.refsj,h.hcaps,h.capsj,h.hcaps2,h.capsj2,a_]
 refine AW.lp [1,2,3,4] (fun i:Nat=>[(8,.d (.int .i64 (i:Int)))]) (fun _ i=>Hs (srx a b i f)++[.box [.fn g cs,.xfn sf ds]]) (fun i=>i≤k) (fun i=>k - i) 0 (Nat.zero_le _) (by rw [srx_0];exact by refine ⟨by simp [mkS,h.len],by simp only [mkS,List.length_append,List.length_cons,List.length_nil,h.len,h.tkj,h.tk0,h.tk];first | done | rfl | (simp;done),by simp [mkS,O.refsLt,C.refsLt,C.refsLt1,h.len,h.refs,h.refsj,h.hcaps,h.capsj,h.hcaps2,h.capsj2,all_dmap,all_dcomp,-List.all_eq_true],?_⟩;simp [mkS,Abs.get,C.refsLtT,C.refsLt,C.refsLt1,h.len,h.hcaps,h.capsj,h.hcaps2,h.capsj2,-List.all_eq_true]) ?_
 intro i hi hnext
 by_cases hc:i<k
 ·have n1:(i:Int)<(k:Int):=by omega
  have w1:IntKind.i64.wrap ((a:Int)+(i:Int))=((a+i:Nat):Int):=wrapN _ (by omega) (by omega)
  have w2:IntKind.i64.wrap ((b:Int)+(i:Int))=((b+i:Nat):Int):=wrapN _ (by omega) (by omega)
  have w3:IntKind.i64.wrap ((i:Int)+1)=((i+1:Nat):Int):=wrapN _ (by omega) (by omega)
  have hs:=h.swap (srx a b i f) [.box [.fn g cs,.xfn sf ds]] (a+i) (b+i) (by omega) (by omega)
  rw [srx_s a b i f (by omega)] at hs
  refine rS_ Tryz.func116 ?_
  simp only [go_sem,seval,n1,w1,w2,w3,h.len,h.gog,h.at0,h.atj,h.set0,h.setj,h.tk,h.tk0,h.tkj,h.refs,h.refsj,h.hcaps,h.capsj,h.hcaps2,h.capsj2,a_]
  repeat' (first
   | ((refine hs.mono ?_<;>(rintro c H' ⟨rfl,rfl⟩))<;>(try simp only [go_sem,seval,n1,w1,w2,w3,h.len,h.gog,h.at0,h.atj,h.set0,h.setj,h.tk,h.tk0,h.tkj,h.refs,h.refsj,h.hcaps,h.capsj,h.hcaps2,h.capsj2,a_]))
   | fail)
  all_goals refine hnext (i+1) _ (by omega) (by omega) wk1_
 ·have n1:¬(i:Int)<(k:Int):=by omega
  obtain rfl:i=k:=by omega
  refine rS_ Tryz.func116 ?_
  simp only [go_sem,seval,n1,h.len,h.gog,h.at0,h.atj,h.set0,h.setj,h.tk,h.tk0,h.tkj,h.refs,h.refsj,h.hcaps,h.capsj,h.hcaps2,h.capsj2,a_]
theorem insertionSort_R (h:Srtr Tryz.prog g cs sf ds n m Hs lt) (hw:Wk lt) (hn:n<4611686018427387904) (a b:Nat) (f:Nat→α) (hab:a≤b) (hb:b≤n) :
  ACalls Tryz.prog 109 [.agg [.fn g cs,.xfn sf ds],.d (.int .i64 a),.d (.int .i64 b)] (Hs f) (fun c H'=>c=.tup []∧∃f',Mv n a b f f'∧srt lt f' a b∧H'=Hs f'):=by
 have w0:IntKind.i64.wrap ((a:Int)+1)=((a+1:Nat):Int):=wrapN _ (by omega) (by omega)
 refine aE_ Tryz.func109 ?_
 refine rS_ Tryz.func109 ?_
 simp only [go_sem,seval,h.len,h.gog,h.at0,h.atj,h.set0,h.setj,h.tk,h.tk0,h.tkj,h.refs,h.refsj,h.hcaps,h.capsj,h.hcaps2,h.capsj2,a_,w0]
 refine AW.lp [1,2,3] (fun u:Nat×(Nat→α)=>[(6,.d (.int .i64 (u.1:Int)))]) (fun _ u=>Hs u.2++[.box [.fn g cs,.xfn sf ds]]) (fun u=>a<u.1∧(u.1≤b∨u.1=a+1)∧Mv n a b f u.2∧srt lt u.2 a u.1) (fun u=>b - u.1) (a+1,f) ⟨by dsimp only;omega,.inr rfl,Mv.refl _ _ _ _,srt_one _ _ _ (b_ _)⟩ wk1_ ?_
 rintro ⟨i,f1⟩ ⟨h1,h2,h3,h4⟩ hnext
 dsimp only at h1 h2 h3 h4 hnext ⊢
 have hnx:=fun i' f' s'=>hnext (i',f') s'
 clear hnext
 by_cases hc:i<b
 ·have n1:(i:Int)<(b:Int):=by omega
  have w3:IntKind.i64.wrap ((i:Int)+1)=((i+1:Nat):Int):=wrapN _ (by omega) (by omega)
  refine rS_ Tryz.func109 ?_
  simp only [go_sem,seval,n1,h.len,h.gog,h.at0,h.atj,h.set0,h.setj,h.tk,h.tk0,h.tkj,h.refs,h.refsj,h.hcaps,h.capsj,h.hcaps2,h.capsj2,a_]
  refine AW.lp [1,2,3,6] (fun u:Nat×(Nat→α)=>[(7,.d (.int .i64 (u.1:Int)))]) (fun _ u=>Hs u.2++[.box [.fn g cs,.xfn sf ds]]) (fun u=>a≤u.1∧u.1≤i∧Mv n a b f u.2∧insI lt u.2 a u.1 i) (fun u=>u.1) (i,f1) ⟨by dsimp only;omega,b_ _,h3,insI_0 h4⟩ wk1_ ?_
  rintro ⟨j,f2⟩ ⟨j1,j2,j3,j4⟩ hnext
  dsimp only at j1 j2 j3 j4 hnext ⊢
  have hny:=fun i' f' s'=>hnext (i',f') s'
  clear hnext
  by_cases hj:a<j
  ·have n2:(a:Int)<(j:Int):=by omega
   have w1:IntKind.i64.wrap ((j:Int) - 1)=((j - 1:Nat):Int):=wrapN _ (by omega) (by omega)
   have hl:=h.less f2 [.box [.fn g cs,.xfn sf ds]] j (j - 1) (by omega) (by omega)
   have hs:=h.swap f2 [.box [.fn g cs,.xfn sf ds]] j (j - 1) (by omega) (by omega)
   cases hlt:lt (f2 j) (f2 (j - 1)) with
   | true =>
    rw [hlt] at hl
    refine rS_ Tryz.func109 ?_
    simp only [go_sem,seval,n2,w1,h.len,h.gog,h.at0,h.atj,h.set0,h.setj,h.tk,h.tk0,h.tkj,h.refs,h.refsj,h.hcaps,h.capsj,h.hcaps2,h.capsj2,a_]
    repeat' (first
     | ((first
      | (refine hl.mono ?_<;>(rintro c H' ⟨rfl,rfl⟩))
      | (refine hs.mono ?_<;>(rintro c H' ⟨rfl,rfl⟩)))<;>(try simp only [go_sem,seval,n2,w1,h.len,h.gog,h.at0,h.atj,h.set0,h.setj,h.tk,h.tk0,h.tkj,h.refs,h.refsj,h.hcaps,h.capsj,h.hcaps2,h.capsj2,a_]))
     | fail)
    all_goals refine hny (j - 1) _ _ ⟨by omega,by omega,j3.trans (.swp _ hb (by omega) (by omega) (by omega) (by omega)),insI_s hw j4 hj j2 hlt⟩ (by omega) wk1_
   | false =>
    rw [hlt] at hl
    have he:=insI_end hw j4 j1 j2 (.inr hlt)
    refine rS_ Tryz.func109 ?_
    simp only [go_sem,seval,n2,w1,h.len,h.gog,h.at0,h.atj,h.set0,h.setj,h.tk,h.tk0,h.tkj,h.refs,h.refsj,h.hcaps,h.capsj,h.hcaps2,h.capsj2,a_]
    repeat' (first
     | ((refine hl.mono ?_<;>(rintro c H' ⟨rfl,rfl⟩))<;>(try simp only [go_sem,seval,n2,w1,w3,h.len,h.gog,h.at0,h.atj,h.set0,h.setj,h.tk,h.tk0,h.tkj,h.refs,h.refsj,h.hcaps,h.capsj,h.hcaps2,h.capsj2,a_]))
     | fail)
    all_goals refine hnx (i+1) f2 _ ⟨by omega,.inl (by omega),j3,he⟩ (by omega) wk1_
  ·have n2:¬(a:Int)<(j:Int):=by omega
   have he:=insI_end hw j4 j1 j2 (.inl (by omega))
   refine rS_ Tryz.func109 ?_
   simp only [go_sem,seval,n2,h.len,h.gog,h.at0,h.atj,h.set0,h.setj,h.tk,h.tk0,h.tkj,h.refs,h.refsj,h.hcaps,h.capsj,h.hcaps2,h.capsj2,a_]
   repeat' (first
    | (simp (disch:=omega) only [wrap_ok])
    | fail)
   all_goals refine hnx (i+1) f2 _ ⟨by omega,.inl (by omega),j3,he⟩ (by omega) wk1_
 ·have n1:¬(i:Int)<(b:Int):=by omega
  refine rS_ Tryz.func109 ?_
  simp only [go_sem,seval,n1,h.len,h.gog,h.at0,h.atj,h.set0,h.setj,h.tk,h.tk0,h.tkj,h.refs,h.refsj,h.hcaps,h.capsj,h.hcaps2,h.capsj2,a_]
  repeat' (first
   | ((first
    | (refine ⟨sd,?_⟩)
    | (refine ⟨by assumption,?_⟩))<;>(try simp only [go_sem,seval,n1,h.len,h.gog,h.at0,h.atj,h.set0,h.setj,h.tk,h.tk0,h.tkj,h.refs,h.refsj,h.hcaps,h.capsj,h.hcaps2,h.capsj2,a_]))
   | fail)
  all_goals exact srt_sub h4 (b_ _) (by omega)
theorem rotate_R (h:Srtr Tryz.prog g cs sf ds n m Hs lt) (hn:n<4611686018427387904) (a c b:Nat) (f:Nat→α) (h1:a<c) (h2:c<b) (hb:b≤n) :
  ACalls Tryz.prog 114 [.agg [.fn g cs,.xfn sf ds],.d (.int .i64 a),.d (.int .i64 c),.d (.int .i64 b)] (Hs f) (fun r H'=>r=.tup []∧Mv n a b f (rot a c b f)∧H'=Hs (rot a c b f)):=by
 have hX:=h.ext [.box [.fn g cs,.xfn sf ds]] (by simp [O.refsLt,C.refsLt,h.capsj,h.capsj2,-List.all_eq_true])
 have w1:IntKind.i64.wrap ((c:Int) - (a:Int))=((c - a:Nat):Int):=wrapN _ (by omega) (by omega)
 have w2:IntKind.i64.wrap ((b:Int) - (c:Int))=((b - c:Nat):Int):=wrapN _ (by omega) (by omega)
 refine aE_ Tryz.func114 ?_
 refine rS_ Tryz.func114 ?_
 simp only [go_sem,seval,h.len,h.gog,h.at0,h.atj,h.set0,h.setj,h.tk,h.tk0,h.tkj,h.refs,h.refsj,h.hcaps,h.capsj,h.hcaps2,h.capsj2,a_,w1,w2]
 refine AW.lp [2,4] (fun u:Nat×Nat×(Nat→α)=>[(8,.d (.int .i64 (u.1:Int))),(9,.d (.int .i64 (u.2.1:Int)))]) (fun _ u=>Hs u.2.2++[.box [.fn g cs,.xfn sf ds]]) (fun u=>0<u.1∧0<u.2.1∧u.1≤c - a∧u.2.1≤b - c∧Mv n a b f u.2.2∧rot (c - u.1) c (c+u.2.1) u.2.2=rot a c b f) (fun u=>u.1+u.2.1) (c - a,b - c,f) ⟨by dsimp only;omega,by dsimp only;omega,b_ _,b_ _,Mv.refl _ _ _ _,by dsimp only;rw [show c - (c - a)=a by omega,show c+(b - c)=b by omega]⟩ wk1_ ?_
 rintro ⟨i,j,f1⟩ ⟨i1,i2,i3,i4,i5,i6⟩ hnext
 dsimp only at i1 i2 i3 i4 i5 i6 hnext ⊢
 have hnx:=fun i' j' f' s'=>hnext (i',j',f') s'
 clear hnext
 have v1:IntKind.i64.wrap ((c:Int) - (i:Int))=((c - i:Nat):Int):=wrapN _ (by omega) (by omega)
 have v2:IntKind.i64.wrap ((c:Int)+(j:Int))=((c+j:Nat):Int):=wrapN _ (by omega) (by omega)
 rcases Nat.lt_trichotomy i j with hij | hij | hij
 ·have n1:¬(i:Int)=(j:Int):=by omega
  have n2:¬(j:Int)<(i:Int):=by omega
  have v3:IntKind.i64.wrap ((c:Int)+(j:Int) - (i:Int))=((c+j - i:Nat):Int):=wrapN _ (by omega) (by omega)
  have v4:IntKind.i64.wrap ((j:Int) - (i:Int))=((j - i:Nat):Int):=wrapN _ (by omega) (by omega)
  have hs:=swapRange_R hX hn (c - i) (c+j - i) i f1 (by omega) (by omega)
  have hm:=srx_mv n (c - i) (c+j - i) f1 i (by omega) (by omega)
  have nb:((i:Int) != (j:Int))=true:=by simp;omega
  refine rS_ Tryz.func114 ?_
  simp only [go_sem,seval,nb,n2,v1,v2,v3,v4,h.len,h.gog,h.at0,h.atj,h.set0,h.setj,h.tk,h.tk0,h.tkj,h.refs,h.refsj,h.hcaps,h.capsj,h.hcaps2,h.capsj2,a_]
  repeat' (first
   | ((refine hs.mono ?_<;>(rintro c H' ⟨rfl,rfl⟩))<;>(try simp only [go_sem,seval,nb,n2,v1,v2,v3,v4,h.len,h.gog,h.at0,h.atj,h.set0,h.setj,h.tk,h.tk0,h.tkj,h.refs,h.refsj,h.hcaps,h.capsj,h.hcaps2,h.capsj2,a_]))
   | fail)
  all_goals refine hnx i (j - i) (srx (c - i) (c+j - i) i f1) _ ⟨i1,by dsimp only;omega,i3,by dsimp only;omega,i5.trans (hm.mono (by omega) (by omega)),?_⟩ (by dsimp only;omega) wk1_
  all_goals (rw [rot_lt c i j f1 hij (by omega) i1];exact i6)
 ·subst hij
  have hs:=swapRange_R hX hn (c - i) c i f1 (by omega) (by omega)
  have hm:=srx_mv n (c - i) c f1 i (by omega) (by omega)
  rw [rot_eq c i f1 (by omega),i6] at hs hm
  refine rS_ Tryz.func114 ?_
  simp only [go_sem,seval,v1,h.len,h.gog,h.at0,h.atj,h.set0,h.setj,h.tk,h.tk0,h.tkj,h.refs,h.refsj,h.hcaps,h.capsj,h.hcaps2,h.capsj2,a_]
  repeat' (first
   | ((refine hs.mono ?_<;>(rintro c H' ⟨rfl,rfl⟩))<;>(try simp only [go_sem,seval,v1,h.len,h.gog,h.at0,h.atj,h.set0,h.setj,h.tk,h.tk0,h.tkj,h.refs,h.refsj,h.hcaps,h.capsj,h.hcaps2,h.capsj2,a_]))
   | fail)
  all_goals exact i5.trans (hm.mono (by omega) (by omega))
 ·have n1:¬(i:Int)=(j:Int):=by omega
  have n2:(j:Int)<(i:Int):=by omega
  have v4:IntKind.i64.wrap ((i:Int) - (j:Int))=((i - j:Nat):Int):=wrapN _ (by omega) (by omega)
  have hs:=swapRange_R hX hn (c - i) c j f1 (by omega) (by omega)
  have hm:=srx_mv n (c - i) c f1 j (by omega) (by omega)
  have nb:((i:Int) != (j:Int))=true:=by simp;omega
  refine rS_ Tryz.func114 ?_
  simp only [go_sem,seval,nb,n2,v1,v4,h.len,h.gog,h.at0,h.atj,h.set0,h.setj,h.tk,h.tk0,h.tkj,h.refs,h.refsj,h.hcaps,h.capsj,h.hcaps2,h.capsj2,a_]
  repeat' (first
   | ((refine hs.mono ?_<;>(rintro c H' ⟨rfl,rfl⟩))<;>(try simp only [go_sem,seval,nb,n2,v1,v4,h.len,h.gog,h.at0,h.atj,h.set0,h.setj,h.tk,h.tk0,h.tkj,h.refs,h.refsj,h.hcaps,h.capsj,h.hcaps2,h.capsj2,a_]))
   | fail)
  all_goals refine hnx (i - j) j (srx (c - i) c j f1) _ ⟨by dsimp only;omega,i2,by dsimp only;omega,i4,i5.trans (hm.mono (by omega) (by omega)),?_⟩ (by dsimp only;omega) wk1_
  all_goals (rw [rot_gt c i j f1 hij (by omega) i2];exact i6)
end
end Go.Proofs.YtehkgphockcjdaaGreat
