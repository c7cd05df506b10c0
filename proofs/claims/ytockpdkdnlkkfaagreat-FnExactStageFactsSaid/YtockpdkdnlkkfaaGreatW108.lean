import Derived.Test.YtockpdkdnlkkfaaGreatFx
import Derived.Test.YtockpdkdnlkkfaaGreatA10
import Derived.Test.YtockpdkdnlkkfaaGreatW4
import Derived.Test.YtockpdkdnlkkfaaGreatP12
import Derived.Test.YtockpdkdnlkkfaaGreatShelf
import Derived.Test.YtockpdkdnlkkfaaGreatW6
import Derived.Test.YtockpdkdnlkkfaaGreatW9
import Derived.Test.YtockpdkdnlkkfaaGreatW41
import Derived.Test.YtockpdkdnlkkfaaGreatW38
import Derived.Test.YtockpdkdnlkkfaaGreatW17
import Derived.Test.YtockpdkdnlkkfaaGreatW20
import Derived.Test.YtockpdkdnlkkfaaGreatW22
namespace Go.Proofs.YtockpdkdnlkkfaaGreat
open Go.Abs
set_option maxRecDepth 100000
set_option maxHeartbeats 4000000
set_option linter.unusedSimpArgs false
set_option linter.unusedVariables false
theorem wrapN {x:Int} (n:Nat) (e:x=n) (h:n≤9223372036854775807):IntKind.i64.wrap x=(n:Int):=by
 rw [e];exact wrap_ok (by omega) (by omega)
section
variable {α:Type} {g sf:FuncId} {cs ds:List C} {n m:Nat} {Hs:(Nat→α)→List O} {lt:α→α→Bool}
theorem swapRange_R (h:Srtr Tryz.prog g cs sf ds n m Hs lt) (hn:n<4611686018427387904) (a b k:Nat) (f:Nat→α) (h1:a+k≤b) (h2:b+k≤n) :
  ACalls Tryz.prog 185 [.agg [.fn g cs,.xfn sf ds],.d (.int .i64 a),.d (.int .i64 b),.d (.int .i64 k)] (Hs f) (fun c H'=>c=.tup []∧H'=Hs (srx a b k f)):=by
 refine ACalls.enter (fn:=Tryz.f185) Tryz.func185 rfl (by show 4≤_;decide) ?_
 refine run_sound Tryz.func185 mixed 200 _ _ (by kernel_rfl) ?_
 simp only [go_sem,seval,h.len,h.gog,h.at0,h.atj,h.set0,h.setj,h.tk,h.tk0,h.tkj,h.refs,h.refsj,h.hcaps,h.capsj,h.hcaps2,h.capsj2,List.append_assoc]
 refine AW.lp [1,2,3,4] (fun i:Nat=>[(8,.d (.int .i64 (i:Int)))]) (fun _ i=>Hs (srx a b i f)++[.box [.fn g cs,.xfn sf ds]]) (fun i=>i≤k) (fun i=>k - i) 0 (Nat.zero_le _) (by rw [srx_0];exact by refine ⟨by simp [mkS,h.len],by simp only [mkS,List.length_append,List.length_cons,List.length_nil,h.len,h.tkj,h.tk0,h.tk];first | done | rfl | (simp;done),by simp [mkS,O.refsLt,C.refsLt,C.refsLt1,h.len,h.refs,h.refsj,h.hcaps,h.capsj,h.hcaps2,h.capsj2,all_dmap,all_dcomp,-List.all_eq_true],?_⟩;simp [mkS,Abs.get,C.refsLtT,C.refsLt,C.refsLt1,h.len,h.hcaps,h.capsj,h.hcaps2,h.capsj2,-List.all_eq_true]) ?_
 intro i hi hnext
 by_cases hc:i<k
 ·have n1:(i:Int)<(k:Int):=by omega
  have w1:IntKind.i64.wrap ((a:Int)+(i:Int))=((a+i:Nat):Int):=wrapN _ (by omega) (by omega)
  have w2:IntKind.i64.wrap ((b:Int)+(i:Int))=((b+i:Nat):Int):=wrapN _ (by omega) (by omega)
  have w3:IntKind.i64.wrap ((i:Int)+1)=((i+1:Nat):Int):=wrapN _ (by omega) (by omega)
  have hs:=h.swap (srx a b i f) [.box [.fn g cs,.xfn sf ds]] (a+i) (b+i) (by omega) (by omega)
  rw [srx_s a b i f (by omega)] at hs
  refine run_sound Tryz.func185 mixed 200 _ _ (by kernel_rfl) ?_
  simp only [go_sem,seval,n1,w1,w2,w3,h.len,h.gog,h.at0,h.atj,h.set0,h.setj,h.tk,h.tk0,h.tkj,h.refs,h.refsj,h.hcaps,h.capsj,h.hcaps2,h.capsj2,List.append_assoc]
  repeat' (first
   | ((refine hs.mono ?_<;>(rintro c H' ⟨rfl,rfl⟩))<;>(try simp only [go_sem,seval,n1,w1,w2,w3,h.len,h.gog,h.at0,h.atj,h.set0,h.setj,h.tk,h.tk0,h.tkj,h.refs,h.refsj,h.hcaps,h.capsj,h.hcaps2,h.capsj2,List.append_assoc]))
   | fail)
  all_goals refine hnext (i+1) _ (by omega) (by omega) (by refine ⟨by simp [mkS,h.len],by simp only [mkS,List.length_append,List.length_cons,List.length_nil,h.len,h.tkj,h.tk0,h.tk];first | done | rfl | (simp;done),by simp [mkS,O.refsLt,C.refsLt,C.refsLt1,h.len,h.refs,h.refsj,h.hcaps,h.capsj,h.hcaps2,h.capsj2,all_dmap,all_dcomp,-List.all_eq_true],?_⟩;simp [mkS,Abs.get,C.refsLtT,C.refsLt,C.refsLt1,h.len,h.hcaps,h.capsj,h.hcaps2,h.capsj2,-List.all_eq_true])
 ·have n1:¬(i:Int)<(k:Int):=by omega
  obtain rfl:i=k:=by omega
  refine run_sound Tryz.func185 mixed 200 _ _ (by kernel_rfl) ?_
  simp only [go_sem,seval,n1,h.len,h.gog,h.at0,h.atj,h.set0,h.setj,h.tk,h.tk0,h.tkj,h.refs,h.refsj,h.hcaps,h.capsj,h.hcaps2,h.capsj2,List.append_assoc]
theorem insertionSort_R (h:Srtr Tryz.prog g cs sf ds n m Hs lt) (hw:Wk lt) (hn:n<4611686018427387904) (a b:Nat) (f:Nat→α) (hab:a≤b) (hb:b≤n) :
  ACalls Tryz.prog 152 [.agg [.fn g cs,.xfn sf ds],.d (.int .i64 a),.d (.int .i64 b)] (Hs f) (fun c H'=>c=.tup []∧∃f',Mv n a b f f'∧srt lt f' a b∧H'=Hs f'):=by
 have w0:IntKind.i64.wrap ((a:Int)+1)=((a+1:Nat):Int):=wrapN _ (by omega) (by omega)
 refine ACalls.enter (fn:=Tryz.f152) Tryz.func152 rfl (by show 3≤_;decide) ?_
 refine run_sound Tryz.func152 mixed 200 _ _ (by kernel_rfl) ?_
 simp only [go_sem,seval,h.len,h.gog,h.at0,h.atj,h.set0,h.setj,h.tk,h.tk0,h.tkj,h.refs,h.refsj,h.hcaps,h.capsj,h.hcaps2,h.capsj2,List.append_assoc,w0]
 refine AW.lp [1,2,3] (fun u:Nat×(Nat→α)=>[(6,.d (.int .i64 (u.1:Int)))]) (fun _ u=>Hs u.2++[.box [.fn g cs,.xfn sf ds]]) (fun u=>a<u.1∧(u.1≤b∨u.1=a+1)∧Mv n a b f u.2∧srt lt u.2 a u.1) (fun u=>b - u.1) (a+1,f) ⟨by dsimp only;omega,.inr rfl,Mv.refl _ _ _ _,srt_one _ _ _ (Nat.le_refl _)⟩ (by refine ⟨by simp [mkS,h.len],by simp only [mkS,List.length_append,List.length_cons,List.length_nil,h.len,h.tkj,h.tk0,h.tk];first | done | rfl | (simp;done),by simp [mkS,O.refsLt,C.refsLt,C.refsLt1,h.len,h.refs,h.refsj,h.hcaps,h.capsj,h.hcaps2,h.capsj2,all_dmap,all_dcomp,-List.all_eq_true],?_⟩;simp [mkS,Abs.get,C.refsLtT,C.refsLt,C.refsLt1,h.len,h.hcaps,h.capsj,h.hcaps2,h.capsj2,-List.all_eq_true]) ?_
 rintro ⟨i,f1⟩ ⟨h1,h2,h3,h4⟩ hnext
 dsimp only at h1 h2 h3 h4 hnext ⊢
 have hnx:=fun i' f' s'=>hnext (i',f') s'
 clear hnext
 by_cases hc:i<b
 ·have n1:(i:Int)<(b:Int):=by omega
  have w3:IntKind.i64.wrap ((i:Int)+1)=((i+1:Nat):Int):=wrapN _ (by omega) (by omega)
  refine run_sound Tryz.func152 mixed 200 _ _ (by kernel_rfl) ?_
  simp only [go_sem,seval,n1,h.len,h.gog,h.at0,h.atj,h.set0,h.setj,h.tk,h.tk0,h.tkj,h.refs,h.refsj,h.hcaps,h.capsj,h.hcaps2,h.capsj2,List.append_assoc]
  refine AW.lp [1,2,3,6] (fun u:Nat×(Nat→α)=>[(7,.d (.int .i64 (u.1:Int)))]) (fun _ u=>Hs u.2++[.box [.fn g cs,.xfn sf ds]]) (fun u=>a≤u.1∧u.1≤i∧Mv n a b f u.2∧insI lt u.2 a u.1 i) (fun u=>u.1) (i,f1) ⟨by dsimp only;omega,Nat.le_refl _,h3,insI_0 h4⟩ (by refine ⟨by simp [mkS,h.len],by simp only [mkS,List.length_append,List.length_cons,List.length_nil,h.len,h.tkj,h.tk0,h.tk];first | done | rfl | (simp;done),by simp [mkS,O.refsLt,C.refsLt,C.refsLt1,h.len,h.refs,h.refsj,h.hcaps,h.capsj,h.hcaps2,h.capsj2,all_dmap,all_dcomp,-List.all_eq_true],?_⟩;simp [mkS,Abs.get,C.refsLtT,C.refsLt,C.refsLt1,h.len,h.hcaps,h.capsj,h.hcaps2,h.capsj2,-List.all_eq_true]) ?_
  rintro ⟨j,f2⟩ ⟨j1,j2,j3,j4⟩ hnext
  dsimp only at j1 j2 j3 j4 hnext ⊢
  have hny:=fun i' f' s'=>hnext (i',f') s'
  clear hnext
  by_cases hj:a<j
  ·have n2:(a:Int)<(j:Int):=by omega
   have w1:IntKind.i64.wrap ((j:Int) - 1)=((j - 1:Nat):Int):=wrapN _ (by omega) (by omega)
   have hl:=h.less f2 [.box [.fn g cs,.xfn sf ds]] j (j - 1) (by omega) (by omega)
   have hs:=h.swap f2 [.box [.fn g cs,.xfn sf ds]] j (j - 1) (by omega) (by omega)
   cases hlt:lt (f2 j) (f2 (j - 1)) with
   | true =>
    rw [hlt] at hl
    refine run_sound Tryz.func152 mixed 200 _ _ (by kernel_rfl) ?_
    simp only [go_sem,seval,n2,w1,h.len,h.gog,h.at0,h.atj,h.set0,h.setj,h.tk,h.tk0,h.tkj,h.refs,h.refsj,h.hcaps,h.capsj,h.hcaps2,h.capsj2,List.append_assoc]
    repeat' (first
     | ((first
      | (refine hl.mono ?_<;>(rintro c H' ⟨rfl,rfl⟩))
      | (refine hs.mono ?_<;>(rintro c H' ⟨rfl,rfl⟩)))<;>(try simp only [go_sem,seval,n2,w1,h.len,h.gog,h.at0,h.atj,h.set0,h.setj,h.tk,h.tk0,h.tkj,h.refs,h.refsj,h.hcaps,h.capsj,h.hcaps2,h.capsj2,List.append_assoc]))
     | fail)
    all_goals refine hny (j - 1) _ _ ⟨by omega,by omega,j3.trans (.swp _ hb (by omega) (by omega) (by omega) (by omega)),insI_s hw j4 hj j2 hlt⟩ (by omega) (by refine ⟨by simp [mkS,h.len],by simp only [mkS,List.length_append,List.length_cons,List.length_nil,h.len,h.tkj,h.tk0,h.tk];first | done | rfl | (simp;done),by simp [mkS,O.refsLt,C.refsLt,C.refsLt1,h.len,h.refs,h.refsj,h.hcaps,h.capsj,h.hcaps2,h.capsj2,all_dmap,all_dcomp,-List.all_eq_true],?_⟩;simp [mkS,Abs.get,C.refsLtT,C.refsLt,C.refsLt1,h.len,h.hcaps,h.capsj,h.hcaps2,h.capsj2,-List.all_eq_true])
   | false =>
    rw [hlt] at hl
    have he:=insI_end hw j4 j1 j2 (.inr hlt)
    refine run_sound Tryz.func152 mixed 200 _ _ (by kernel_rfl) ?_
    simp only [go_sem,seval,n2,w1,h.len,h.gog,h.at0,h.atj,h.set0,h.setj,h.tk,h.tk0,h.tkj,h.refs,h.refsj,h.hcaps,h.capsj,h.hcaps2,h.capsj2,List.append_assoc]
    repeat' (first
     | ((refine hl.mono ?_<;>(rintro c H' ⟨rfl,rfl⟩))<;>(try simp only [go_sem,seval,n2,w1,w3,h.len,h.gog,h.at0,h.atj,h.set0,h.setj,h.tk,h.tk0,h.tkj,h.refs,h.refsj,h.hcaps,h.capsj,h.hcaps2,h.capsj2,List.append_assoc]))
     | fail)
    all_goals refine hnx (i+1) f2 _ ⟨by omega,.inl (by omega),j3,he⟩ (by omega) (by refine ⟨by simp [mkS,h.len],by simp only [mkS,List.length_append,List.length_cons,List.length_nil,h.len,h.tkj,h.tk0,h.tk];first | done | rfl | (simp;done),by simp [mkS,O.refsLt,C.refsLt,C.refsLt1,h.len,h.refs,h.refsj,h.hcaps,h.capsj,h.hcaps2,h.capsj2,all_dmap,all_dcomp,-List.all_eq_true],?_⟩;simp [mkS,Abs.get,C.refsLtT,C.refsLt,C.refsLt1,h.len,h.hcaps,h.capsj,h.hcaps2,h.capsj2,-List.all_eq_true])
  ·have n2:¬(a:Int)<(j:Int):=by omega
   have he:=insI_end hw j4 j1 j2 (.inl (by omega))
   refine run_sound Tryz.func152 mixed 200 _ _ (by kernel_rfl) ?_
   simp only [go_sem,seval,n2,h.len,h.gog,h.at0,h.atj,h.set0,h.setj,h.tk,h.tk0,h.tkj,h.refs,h.refsj,h.hcaps,h.capsj,h.hcaps2,h.capsj2,List.append_assoc]
   repeat' (first
    | (simp (disch:=omega) only [wrap_ok])
    | fail)
   all_goals refine hnx (i+1) f2 _ ⟨by omega,.inl (by omega),j3,he⟩ (by omega) (by refine ⟨by simp [mkS,h.len],by simp only [mkS,List.length_append,List.length_cons,List.length_nil,h.len,h.tkj,h.tk0,h.tk];first | done | rfl | (simp;done),by simp [mkS,O.refsLt,C.refsLt,C.refsLt1,h.len,h.refs,h.refsj,h.hcaps,h.capsj,h.hcaps2,h.capsj2,all_dmap,all_dcomp,-List.all_eq_true],?_⟩;simp [mkS,Abs.get,C.refsLtT,C.refsLt,C.refsLt1,h.len,h.hcaps,h.capsj,h.hcaps2,h.capsj2,-List.all_eq_true])
 ·have n1:¬(i:Int)<(b:Int):=by omega
  refine run_sound Tryz.func152 mixed 200 _ _ (by kernel_rfl) ?_
  simp only [go_sem,seval,n1,h.len,h.gog,h.at0,h.atj,h.set0,h.setj,h.tk,h.tk0,h.tkj,h.refs,h.refsj,h.hcaps,h.capsj,h.hcaps2,h.capsj2,List.append_assoc]
  repeat' (first
   | ((first
    | (refine ⟨sd,?_⟩)
    | (refine ⟨by assumption,?_⟩))<;>(try simp only [go_sem,seval,n1,h.len,h.gog,h.at0,h.atj,h.set0,h.setj,h.tk,h.tk0,h.tkj,h.refs,h.refsj,h.hcaps,h.capsj,h.hcaps2,h.capsj2,List.append_assoc]))
   | fail)
  all_goals exact srt_sub h4 (Nat.le_refl _) (by omega)
theorem rotate_R (h:Srtr Tryz.prog g cs sf ds n m Hs lt) (hn:n<4611686018427387904) (a c b:Nat) (f:Nat→α) (h1:a<c) (h2:c<b) (hb:b≤n) :
  ACalls Tryz.prog 177 [.agg [.fn g cs,.xfn sf ds],.d (.int .i64 a),.d (.int .i64 c),.d (.int .i64 b)] (Hs f) (fun r H'=>r=.tup []∧Mv n a b f (rot a c b f)∧H'=Hs (rot a c b f)):=by
 have hX:=h.ext [.box [.fn g cs,.xfn sf ds]] (by simp [O.refsLt,C.refsLt,h.capsj,h.capsj2,-List.all_eq_true])
 have w1:IntKind.i64.wrap ((c:Int) - (a:Int))=((c - a:Nat):Int):=wrapN _ (by omega) (by omega)
 have w2:IntKind.i64.wrap ((b:Int) - (c:Int))=((b - c:Nat):Int):=wrapN _ (by omega) (by omega)
 refine ACalls.enter (fn:=Tryz.f177) Tryz.func177 rfl (by show 4≤_;decide) ?_
 refine run_sound Tryz.func177 mixed 200 _ _ (by kernel_rfl) ?_
 simp only [go_sem,seval,h.len,h.gog,h.at0,h.atj,h.set0,h.setj,h.tk,h.tk0,h.tkj,h.refs,h.refsj,h.hcaps,h.capsj,h.hcaps2,h.capsj2,List.append_assoc,w1,w2]
 refine AW.lp [2,4] (fun u:Nat×Nat×(Nat→α)=>[(8,.d (.int .i64 (u.1:Int))),(9,.d (.int .i64 (u.2.1:Int)))]) (fun _ u=>Hs u.2.2++[.box [.fn g cs,.xfn sf ds]]) (fun u=>0<u.1∧0<u.2.1∧u.1≤c - a∧u.2.1≤b - c∧Mv n a b f u.2.2∧rot (c - u.1) c (c+u.2.1) u.2.2=rot a c b f) (fun u=>u.1+u.2.1) (c - a,b - c,f) ⟨by dsimp only;omega,by dsimp only;omega,Nat.le_refl _,Nat.le_refl _,Mv.refl _ _ _ _,by dsimp only;rw [show c - (c - a)=a by omega,show c+(b - c)=b by omega]⟩ (by refine ⟨by simp [mkS,h.len],by simp only [mkS,List.length_append,List.length_cons,List.length_nil,h.len,h.tkj,h.tk0,h.tk];first | done | rfl | (simp;done),by simp [mkS,O.refsLt,C.refsLt,C.refsLt1,h.len,h.refs,h.refsj,h.hcaps,h.capsj,h.hcaps2,h.capsj2,all_dmap,all_dcomp,-List.all_eq_true],?_⟩;simp [mkS,Abs.get,C.refsLtT,C.refsLt,C.refsLt1,h.len,h.hcaps,h.capsj,h.hcaps2,h.capsj2,-List.all_eq_true]) ?_
 rintro ⟨i,j,f1⟩ ⟨i1,i2,i3,i4,i5,i6⟩ hnext
 dsimp only at i1 i2 i3 i4 i5 i6 hnext ⊢
 have hnx:=fun i' j' f' s'=>hnext (i',j',f') s'
 clear hnext
 have v1:IntKind.i64.wrap ((c:Int) - (i:Int))=((c - i:Nat):Int):=wrapN _ (by omega) (by omega)
 have v2:IntKind.i64.wrap ((c:Int)+(j:Int))=((c+j:Nat):Int):=wrapN _ (by omega) (by omega)
 rcases Nat.lt_trichotomy i j with hij | hij | hij
 ·have n1:¬(i:Int)=(j:Int):=by omega
  have n2:¬(j:Int)<(i:Int):=by omega
  have v3:IntKind.i64.wrap ((c:Int)+(j:Int) - (i:Int))=((c+j - i:Nat):Int):=wrapN _ (by omega) (by omega)
  have v4:IntKind.i64.wrap ((j:Int) - (i:Int))=((j - i:Nat):Int):=wrapN _ (by omega) (by omega)
  have hs:=swapRange_R hX hn (c - i) (c+j - i) i f1 (by omega) (by omega)
  have hm:=srx_mv n (c - i) (c+j - i) f1 i (by omega) (by omega)
  have nb:((i:Int) != (j:Int))=true:=by simp;omega
  refine run_sound Tryz.func177 mixed 200 _ _ (by kernel_rfl) ?_
  simp only [go_sem,seval,nb,n2,v1,v2,v3,v4,h.len,h.gog,h.at0,h.atj,h.set0,h.setj,h.tk,h.tk0,h.tkj,h.refs,h.refsj,h.hcaps,h.capsj,h.hcaps2,h.capsj2,List.append_assoc]
  repeat' (first
   | ((refine hs.mono ?_<;>(rintro c H' ⟨rfl,rfl⟩))<;>(try simp only [go_sem,seval,nb,n2,v1,v2,v3,v4,h.len,h.gog,h.at0,h.atj,h.set0,h.setj,h.tk,h.tk0,h.tkj,h.refs,h.refsj,h.hcaps,h.capsj,h.hcaps2,h.capsj2,List.append_assoc]))
   | fail)
  all_goals refine hnx i (j - i) (srx (c - i) (c+j - i) i f1) _ ⟨i1,by dsimp only;omega,i3,by dsimp only;omega,i5.trans (hm.mono (by omega) (by omega)),?_⟩ (by dsimp only;omega) (by refine ⟨by simp [mkS,h.len],by simp only [mkS,List.length_append,List.length_cons,List.length_nil,h.len,h.tkj,h.tk0,h.tk];first | done | rfl | (simp;done),by simp [mkS,O.refsLt,C.refsLt,C.refsLt1,h.len,h.refs,h.refsj,h.hcaps,h.capsj,h.hcaps2,h.capsj2,all_dmap,all_dcomp,-List.all_eq_true],?_⟩;simp [mkS,Abs.get,C.refsLtT,C.refsLt,C.refsLt1,h.len,h.hcaps,h.capsj,h.hcaps2,h.capsj2,-List.all_eq_true])
  all_goals (rw [rot_lt c i j f1 hij (by omega) i1];exact i6)
 ·subst hij
  have hs:=swapRange_R hX hn (c - i) c i f1 (by omega) (by omega)
  have hm:=srx_mv n (c - i) c f1 i (by omega) (by omega)
  rw [rot_eq c i f1 (by omega),i6] at hs hm
  refine run_sound Tryz.func177 mixed 200 _ _ (by kernel_rfl) ?_
  simp only [go_sem,seval,v1,h.len,h.gog,h.at0,h.atj,h.set0,h.setj,h.tk,h.tk0,h.tkj,h.refs,h.refsj,h.hcaps,h.capsj,h.hcaps2,h.capsj2,List.append_assoc]
  repeat' (first
   | ((refine hs.mono ?_<;>(rintro c H' ⟨rfl,rfl⟩))<;>(try simp only [go_sem,seval,v1,h.len,h.gog,h.at0,h.atj,h.set0,h.setj,h.tk,h.tk0,h.tkj,h.refs,h.refsj,h.hcaps,h.capsj,h.hcaps2,h.capsj2,List.append_assoc]))
   | fail)
  all_goals exact i5.trans (hm.mono (by omega) (by omega))
 ·have n1:¬(i:Int)=(j:Int):=by omega
  have n2:(j:Int)<(i:Int):=by omega
  have v4:IntKind.i64.wrap ((i:Int) - (j:Int))=((i - j:Nat):Int):=wrapN _ (by omega) (by omega)
  have hs:=swapRange_R hX hn (c - i) c j f1 (by omega) (by omega)
  have hm:=srx_mv n (c - i) c f1 j (by omega) (by omega)
  have nb:((i:Int) != (j:Int))=true:=by simp;omega
  refine run_sound Tryz.func177 mixed 200 _ _ (by kernel_rfl) ?_
  simp only [go_sem,seval,nb,n2,v1,v4,h.len,h.gog,h.at0,h.atj,h.set0,h.setj,h.tk,h.tk0,h.tkj,h.refs,h.refsj,h.hcaps,h.capsj,h.hcaps2,h.capsj2,List.append_assoc]
  repeat' (first
   | ((refine hs.mono ?_<;>(rintro c H' ⟨rfl,rfl⟩))<;>(try simp only [go_sem,seval,nb,n2,v1,v4,h.len,h.gog,h.at0,h.atj,h.set0,h.setj,h.tk,h.tk0,h.tkj,h.refs,h.refsj,h.hcaps,h.capsj,h.hcaps2,h.capsj2,List.append_assoc]))
   | fail)
  all_goals refine hnx (i - j) j (srx (c - i) c j f1) _ ⟨by dsimp only;omega,i2,by dsimp only;omega,i4,i5.trans (hm.mono (by omega) (by omega)),?_⟩ (by dsimp only;omega) (by refine ⟨by simp [mkS,h.len],by simp only [mkS,List.length_append,List.length_cons,List.length_nil,h.len,h.tkj,h.tk0,h.tk];first | done | rfl | (simp;done),by simp [mkS,O.refsLt,C.refsLt,C.refsLt1,h.len,h.refs,h.refsj,h.hcaps,h.capsj,h.hcaps2,h.capsj2,all_dmap,all_dcomp,-List.all_eq_true],?_⟩;simp [mkS,Abs.get,C.refsLtT,C.refsLt,C.refsLt1,h.len,h.hcaps,h.capsj,h.hcaps2,h.capsj2,-List.all_eq_true])
  all_goals (rw [rot_gt c i j f1 hij (by omega) i2];exact i6)
end
set_option maxHeartbeats 8000000
theorem halfN (x y:Nat) (h:x+y<9223372036854775808):IntKind.i64.wrap (shrI .u64 (IntKind.u64.wrap ((x:Int)+(y:Int))) 1)=(((x+y) / 2:Nat):Int):=by
 have h1:IntKind.u64.wrap ((x:Int)+(y:Int))=(x:Int)+(y:Int):=by
  unfold IntKind.wrap;simp [IntKind.bits,IntKind.signed];omega
 rw [h1]
 unfold shrI
 have h2:((x:Int)+(y:Int)).fdiv (2 ^ (min (1:Int).toNat IntKind.u64.bits))=(((x+y) / 2:Nat):Int):=by
  show ((x:Int)+(y:Int)).fdiv 2=_
  rw [Int.fdiv_eq_ediv_of_nonneg _ (by omega)]
  omega
 rw [h2]
 exact wrapN _ rfl (by omega)
section
variable {α:Type} {g sf:FuncId} {cs ds:List C} {n:Nat} {lt:α→α→Bool}
theorem symMerge_R (hw:Wk lt) (hn:n<4611686018427387904):∀(k m:Nat) (Hs:(Nat→α)→List O) (h:Srtr Tryz.prog g cs sf ds n m Hs lt) (a c b:Nat) (f:Nat→α),b - a≤k→a<c→c<b→b≤n→srt lt f a c→srt lt f c b →
  ACalls Tryz.prog 153 [.agg [.fn g cs,.xfn sf ds],.d (.int .i64 a),.d (.int .i64 c),.d (.int .i64 b)] (Hs f) (fun r H'=>r=.tup []∧∃f',Mv n a b f f'∧srt lt f' a b∧H'=Hs f'):=by
 intro k
 induction k with
 | zero=>intro m Hs h a c b f hk h1 h2;omega
 | succ k ih =>
 intro m Hs h a c b f hk h1 h2 hb hs1 hs2
 have hX:=h.ext [.box [.fn g cs,.xfn sf ds]] (by simp [O.refsLt,C.refsLt,h.capsj,h.capsj2,-List.all_eq_true])
 by_cases c1:c=a+1
 ·
  have w1:IntKind.i64.wrap ((c:Int) - (a:Int))=1:=by rw [show (c:Int) - a=1 by omega];decide
  refine ACalls.enter (fn:=Tryz.f153) Tryz.func153 rfl (by show 4≤_;decide) ?_
  refine run_sound Tryz.func153 mixed 200 _ _ (by kernel_rfl) ?_
  simp only [go_sem,seval,h.len,h.gog,h.at0,h.atj,h.set0,h.setj,h.tk,h.tk0,h.tkj,h.refs,h.refsj,h.hcaps,h.capsj,h.hcaps2,h.capsj2,List.append_assoc,w1]
  refine AW.lp [1,4] (fun u:Nat×Nat=>[(8,.d (.int .i64 (u.1:Int))),(9,.d (.int .i64 (u.2:Int)))]) (fun H _=>H) (fun u=>c≤u.1∧u.1≤u.2∧u.2≤b∧(∀x,c≤x→x<u.1→lt (f x) (f a)=true)∧(∀x,u.2≤x→x<b→lt (f x) (f a)=false)) (fun u=>u.2 - u.1) (c,b) ⟨Nat.le_refl _,by dsimp only;omega,Nat.le_refl _,fun x hx hx'=>by dsimp only at hx';omega,fun x hx hx'=>by dsimp only at hx;omega⟩ (by refine ⟨by simp [mkS,h.len],by simp only [mkS,List.length_append,List.length_cons,List.length_nil,h.len,h.tkj,h.tk0,h.tk];first | done | rfl | (simp;done),by simp [mkS,O.refsLt,C.refsLt,C.refsLt1,h.len,h.refs,h.refsj,h.hcaps,h.capsj,h.hcaps2,h.capsj2,all_dmap,all_dcomp,-List.all_eq_true],?_⟩;simp [mkS,Abs.get,C.refsLtT,C.refsLt,C.refsLt1,h.len,h.hcaps,h.capsj,h.hcaps2,h.capsj2,-List.all_eq_true]) ?_
  rintro ⟨i,j⟩ ⟨i1,i2,i3,i4,i5⟩ hnext
  dsimp only at i1 i2 i3 i4 i5 hnext ⊢
  have hnx:=fun i' j' s'=>hnext (i',j') s'
  clear hnext
  by_cases hij:i<j
  ·have n1:(i:Int)<(j:Int):=by omega
   have hh:=halfN i j (by omega)
   have w2:IntKind.i64.wrap ((i:Int)+(j:Int))=(i:Int)+(j:Int):=wrap_ok (by omega) (by omega)
   have hl:=h.less f [.box [.fn g cs,.xfn sf ds]] ((i+j) / 2) a (by omega) (by omega)
   have w3:IntKind.i64.wrap ((((i+j) / 2:Nat):Int)+1)=(((i+j) / 2+1:Nat):Int):=wrapN _ (by omega) (by omega)
   cases hlt:lt (f ((i+j) / 2)) (f a) with
   | true =>
    rw [hlt] at hl
    refine run_sound Tryz.func153 mixed 200 _ _ (by kernel_rfl) ?_
    simp only [go_sem,seval,n1,w2,hh,h.len,h.gog,h.at0,h.atj,h.set0,h.setj,h.tk,h.tk0,h.tkj,h.refs,h.refsj,h.hcaps,h.capsj,h.hcaps2,h.capsj2,List.append_assoc]
    repeat' (first
     | ((refine hl.mono ?_<;>(rintro c H' ⟨rfl,rfl⟩))<;>(try simp only [go_sem,seval,n1,w2,hh,w3,h.len,h.gog,h.at0,h.atj,h.set0,h.setj,h.tk,h.tk0,h.tkj,h.refs,h.refsj,h.hcaps,h.capsj,h.hcaps2,h.capsj2,List.append_assoc]))
     | fail)
    refine hnx ((i+j) / 2+1) j _ ⟨by dsimp only;omega,by dsimp only;omega,i3,fun x hx hx'=>?_,i5⟩ (by dsimp only;omega) (by refine ⟨by simp [mkS,h.len],by simp only [mkS,List.length_append,List.length_cons,List.length_nil,h.len,h.tkj,h.tk0,h.tk];first | done | rfl | (simp;done),by simp [mkS,O.refsLt,C.refsLt,C.refsLt1,h.len,h.refs,h.refsj,h.hcaps,h.capsj,h.hcaps2,h.capsj2,all_dmap,all_dcomp,-List.all_eq_true],?_⟩;simp [mkS,Abs.get,C.refsLtT,C.refsLt,C.refsLt1,h.len,h.hcaps,h.capsj,h.hcaps2,h.capsj2,-List.all_eq_true])
    exact leq_lt hw (leq_of hw hs2 hx (by dsimp only at hx';omega) (by omega)) hlt
   | false =>
    rw [hlt] at hl
    refine run_sound Tryz.func153 mixed 200 _ _ (by kernel_rfl) ?_
    simp only [go_sem,seval,n1,w2,hh,h.len,h.gog,h.at0,h.atj,h.set0,h.setj,h.tk,h.tk0,h.tkj,h.refs,h.refsj,h.hcaps,h.capsj,h.hcaps2,h.capsj2,List.append_assoc]
    repeat' (first
     | ((refine hl.mono ?_<;>(rintro c H' ⟨rfl,rfl⟩))<;>(try simp only [go_sem,seval,n1,w2,hh,w3,h.len,h.gog,h.at0,h.atj,h.set0,h.setj,h.tk,h.tk0,h.tkj,h.refs,h.refsj,h.hcaps,h.capsj,h.hcaps2,h.capsj2,List.append_assoc]))
     | fail)
    refine hnx i ((i+j) / 2) _ ⟨i1,by dsimp only;omega,by dsimp only;omega,i4,fun x hx hx'=>?_⟩ (by dsimp only;omega) (by refine ⟨by simp [mkS,h.len],by simp only [mkS,List.length_append,List.length_cons,List.length_nil,h.len,h.tkj,h.tk0,h.tk];first | done | rfl | (simp;done),by simp [mkS,O.refsLt,C.refsLt,C.refsLt1,h.len,h.refs,h.refsj,h.hcaps,h.capsj,h.hcaps2,h.capsj2,all_dmap,all_dcomp,-List.all_eq_true],?_⟩;simp [mkS,Abs.get,C.refsLtT,C.refsLt,C.refsLt1,h.len,h.hcaps,h.capsj,h.hcaps2,h.capsj2,-List.all_eq_true])
    exact hw.tr _ _ _ hlt (leq_of hw hs2 (by omega) hx hx')
  ·have n1:¬(i:Int)<(j:Int):=by omega
   obtain rfl:i=j:=by omega
   have w2:IntKind.i64.wrap ((i:Int) - 1)=((i - 1:Nat):Int):=wrapN _ (by omega) (by omega)
   refine run_sound Tryz.func153 mixed 16 _ _ (by kernel_rfl) ?_
   simp only [go_sem,seval,run.eq_1,n1,h.len,h.gog,h.at0,h.atj,h.set0,h.setj,h.tk,h.tk0,h.tkj,h.refs,h.refsj,h.hcaps,h.capsj,h.hcaps2,h.capsj2,List.append_assoc]
   refine AW.lp [4,8] (fun k:Nat=>[(11,.d (.int .i64 (k:Int)))]) (fun _ k=>Hs (mvU a k f)++[.box [.fn g cs,.xfn sf ds]]) (fun k=>a≤k∧k≤i - 1) (fun k=>i - 1 - k) a ⟨Nat.le_refl _,by omega⟩ (by rw [mvU_0];exact by refine ⟨by simp [mkS,h.len],by simp only [mkS,List.length_append,List.length_cons,List.length_nil,h.len,h.tkj,h.tk0,h.tk];first | done | rfl | (simp;done),by simp [mkS,O.refsLt,C.refsLt,C.refsLt1,h.len,h.refs,h.refsj,h.hcaps,h.capsj,h.hcaps2,h.capsj2,all_dmap,all_dcomp,-List.all_eq_true],?_⟩;simp [mkS,Abs.get,C.refsLtT,C.refsLt,C.refsLt1,h.len,h.hcaps,h.capsj,h.hcaps2,h.capsj2,-List.all_eq_true]) ?_
   intro k' hk' hny
   by_cases hc:k'<i - 1
   ·have n2:(k':Int)<((i - 1:Nat):Int):=by omega
    have w4:IntKind.i64.wrap ((k':Int)+1)=((k'+1:Nat):Int):=wrapN _ (by omega) (by omega)
    have hs:=h.swap (mvU a k' f) [.box [.fn g cs,.xfn sf ds]] k' (k'+1) (by omega) (by omega)
    rw [mvU_s a k' f hk'.1] at hs
    refine run_sound Tryz.func153 mixed 200 _ _ (by kernel_rfl) ?_
    simp only [go_sem,seval,n2,w2,w4,h.len,h.gog,h.at0,h.atj,h.set0,h.setj,h.tk,h.tk0,h.tkj,h.refs,h.refsj,h.hcaps,h.capsj,h.hcaps2,h.capsj2,List.append_assoc]
    repeat' (first
     | ((refine hs.mono ?_<;>(rintro c H' ⟨rfl,rfl⟩))<;>(try simp only [go_sem,seval,n2,w2,w4,h.len,h.gog,h.at0,h.atj,h.set0,h.setj,h.tk,h.tk0,h.tkj,h.refs,h.refsj,h.hcaps,h.capsj,h.hcaps2,h.capsj2,List.append_assoc]))
     | fail)
    all_goals refine hny (k'+1) _ ⟨by omega,by omega⟩ (by omega) (by refine ⟨by simp [mkS,h.len],by simp only [mkS,List.length_append,List.length_cons,List.length_nil,h.len,h.tkj,h.tk0,h.tk];first | done | rfl | (simp;done),by simp [mkS,O.refsLt,C.refsLt,C.refsLt1,h.len,h.refs,h.refsj,h.hcaps,h.capsj,h.hcaps2,h.capsj2,all_dmap,all_dcomp,-List.all_eq_true],?_⟩;simp [mkS,Abs.get,C.refsLtT,C.refsLt,C.refsLt1,h.len,h.hcaps,h.capsj,h.hcaps2,h.capsj2,-List.all_eq_true])
   ·have n2:¬(k':Int)<((i - 1:Nat):Int):=by omega
    obtain rfl:k'=i - 1:=by omega
    have hM:=mvU_mv n a b f (i - 1) hk'.1 (by omega) hb
    have hS:=mvU_srt hw (by rw [←c1];exact hs2) (show a<i by omega) i3 (fun x hx hx'=>i4 x (by omega) hx') i5
    refine run_sound Tryz.func153 mixed 200 _ _ (by kernel_rfl) ?_
    simp only [go_sem,seval,n2,w2,h.len,h.gog,h.at0,h.atj,h.set0,h.setj,h.tk,h.tk0,h.tkj,h.refs,h.refsj,h.hcaps,h.capsj,h.hcaps2,h.capsj2,List.append_assoc]
    repeat' (first
     | (exact ⟨_,hM,hS,rfl⟩)
     | fail)
 ·by_cases c2:b=c+1
  ·
   have w1:IntKind.i64.wrap ((c:Int) - (a:Int))=((c - a:Nat):Int):=wrapN _ (by omega) (by omega)
   have n0:¬((c - a:Nat):Int)=1:=by omega
   have w5:IntKind.i64.wrap ((b:Int) - (c:Int))=1:=by rw [show (b:Int) - c=1 by omega];decide
   refine ACalls.enter (fn:=Tryz.f153) Tryz.func153 rfl (by show 4≤_;decide) ?_
   refine run_sound Tryz.func153 mixed 200 _ _ (by kernel_rfl) ?_
   simp only [go_sem,seval,h.len,h.gog,h.at0,h.atj,h.set0,h.setj,h.tk,h.tk0,h.tkj,h.refs,h.refsj,h.hcaps,h.capsj,h.hcaps2,h.capsj2,List.append_assoc,w1,w5,n0]
   refine AW.lp [2,4] (fun u:Nat×Nat=>[(12,.d (.int .i64 (u.1:Int))),(13,.d (.int .i64 (u.2:Int)))]) (fun H _=>H) (fun u=>a≤u.1∧u.1≤u.2∧u.2≤c∧(∀x,a≤x→x<u.1→lt (f c) (f x)=false)∧(∀x,u.2≤x→x<c→lt (f c) (f x)=true)) (fun u=>u.2 - u.1) (a,c) ⟨Nat.le_refl _,by dsimp only;omega,Nat.le_refl _,fun x hx hx'=>by dsimp only at hx';omega,fun x hx hx'=>by dsimp only at hx;omega⟩ (by refine ⟨by simp [mkS,h.len],by simp only [mkS,List.length_append,List.length_cons,List.length_nil,h.len,h.tkj,h.tk0,h.tk];first | done | rfl | (simp;done),by simp [mkS,O.refsLt,C.refsLt,C.refsLt1,h.len,h.refs,h.refsj,h.hcaps,h.capsj,h.hcaps2,h.capsj2,all_dmap,all_dcomp,-List.all_eq_true],?_⟩;simp [mkS,Abs.get,C.refsLtT,C.refsLt,C.refsLt1,h.len,h.hcaps,h.capsj,h.hcaps2,h.capsj2,-List.all_eq_true]) ?_
   rintro ⟨i,j⟩ ⟨i1,i2,i3,i4,i5⟩ hnext
   dsimp only at i1 i2 i3 i4 i5 hnext ⊢
   have hnx:=fun i' j' s'=>hnext (i',j') s'
   clear hnext
   by_cases hij:i<j
   ·have n1:(i:Int)<(j:Int):=by omega
    have hh:=halfN i j (by omega)
    have w2:IntKind.i64.wrap ((i:Int)+(j:Int))=(i:Int)+(j:Int):=wrap_ok (by omega) (by omega)
    have hl:=h.less f [.box [.fn g cs,.xfn sf ds]] c ((i+j) / 2) (by omega) (by omega)
    have w3:IntKind.i64.wrap ((((i+j) / 2:Nat):Int)+1)=(((i+j) / 2+1:Nat):Int):=wrapN _ (by omega) (by omega)
    cases hlt:lt (f c) (f ((i+j) / 2)) with
    | false =>
     rw [hlt] at hl
     refine run_sound Tryz.func153 mixed 200 _ _ (by kernel_rfl) ?_
     simp only [go_sem,seval,n1,w2,hh,h.len,h.gog,h.at0,h.atj,h.set0,h.setj,h.tk,h.tk0,h.tkj,h.refs,h.refsj,h.hcaps,h.capsj,h.hcaps2,h.capsj2,List.append_assoc]
     repeat' (first
      | ((refine hl.mono ?_<;>(rintro c H' ⟨rfl,rfl⟩))<;>(try simp only [go_sem,seval,n1,w2,hh,w3,h.len,h.gog,h.at0,h.atj,h.set0,h.setj,h.tk,h.tk0,h.tkj,h.refs,h.refsj,h.hcaps,h.capsj,h.hcaps2,h.capsj2,List.append_assoc]))
      | fail)
     refine hnx ((i+j) / 2+1) j _ ⟨by dsimp only;omega,by dsimp only;omega,i3,fun x hx hx'=>?_,i5⟩ (by dsimp only;omega) (by refine ⟨by simp [mkS,h.len],by simp only [mkS,List.length_append,List.length_cons,List.length_nil,h.len,h.tkj,h.tk0,h.tk];first | done | rfl | (simp;done),by simp [mkS,O.refsLt,C.refsLt,C.refsLt1,h.len,h.refs,h.refsj,h.hcaps,h.capsj,h.hcaps2,h.capsj2,all_dmap,all_dcomp,-List.all_eq_true],?_⟩;simp [mkS,Abs.get,C.refsLtT,C.refsLt,C.refsLt1,h.len,h.hcaps,h.capsj,h.hcaps2,h.capsj2,-List.all_eq_true])
     exact hw.tr _ _ _ (leq_of hw hs1 hx (by dsimp only at hx';omega) (by omega)) hlt
    | true =>
     rw [hlt] at hl
     refine run_sound Tryz.func153 mixed 200 _ _ (by kernel_rfl) ?_
     simp only [go_sem,seval,n1,w2,hh,h.len,h.gog,h.at0,h.atj,h.set0,h.setj,h.tk,h.tk0,h.tkj,h.refs,h.refsj,h.hcaps,h.capsj,h.hcaps2,h.capsj2,List.append_assoc]
     repeat' (first
      | ((refine hl.mono ?_<;>(rintro c H' ⟨rfl,rfl⟩))<;>(try simp only [go_sem,seval,n1,w2,hh,w3,h.len,h.gog,h.at0,h.atj,h.set0,h.setj,h.tk,h.tk0,h.tkj,h.refs,h.refsj,h.hcaps,h.capsj,h.hcaps2,h.capsj2,List.append_assoc]))
      | fail)
     refine hnx i ((i+j) / 2) _ ⟨i1,by dsimp only;omega,by dsimp only;omega,i4,fun x hx hx'=>?_⟩ (by dsimp only;omega) (by refine ⟨by simp [mkS,h.len],by simp only [mkS,List.length_append,List.length_cons,List.length_nil,h.len,h.tkj,h.tk0,h.tk];first | done | rfl | (simp;done),by simp [mkS,O.refsLt,C.refsLt,C.refsLt1,h.len,h.refs,h.refsj,h.hcaps,h.capsj,h.hcaps2,h.capsj2,all_dmap,all_dcomp,-List.all_eq_true],?_⟩;simp [mkS,Abs.get,C.refsLtT,C.refsLt,C.refsLt1,h.len,h.hcaps,h.capsj,h.hcaps2,h.capsj2,-List.all_eq_true])
     exact lt_leq hw hlt (leq_of hw hs1 (by omega) hx hx')
   ·have n1:¬(i:Int)<(j:Int):=by omega
    obtain rfl:i=j:=by omega
    refine run_sound Tryz.func153 mixed 16 _ _ (by kernel_rfl) ?_
    simp only [go_sem,seval,run.eq_1,n1,h.len,h.gog,h.at0,h.atj,h.set0,h.setj,h.tk,h.tk0,h.tkj,h.refs,h.refsj,h.hcaps,h.capsj,h.hcaps2,h.capsj2,List.append_assoc]
    refine AW.lp [4,12] (fun d:Nat=>[(15,.d (.int .i64 ((c - d:Nat):Int)))]) (fun _ d=>Hs (mvD c (c - d) f)++[.box [.fn g cs,.xfn sf ds]]) (fun d=>d≤c - i) (fun d=>c - i - d) 0 (Nat.zero_le _) (by rw [Nat.sub_zero,mvD_0];exact by refine ⟨by simp [mkS,h.len],by simp only [mkS,List.length_append,List.length_cons,List.length_nil,h.len,h.tkj,h.tk0,h.tk];first | done | rfl | (simp;done),by simp [mkS,O.refsLt,C.refsLt,C.refsLt1,h.len,h.refs,h.refsj,h.hcaps,h.capsj,h.hcaps2,h.capsj2,all_dmap,all_dcomp,-List.all_eq_true],?_⟩;simp [mkS,Abs.get,C.refsLtT,C.refsLt,C.refsLt1,h.len,h.hcaps,h.capsj,h.hcaps2,h.capsj2,-List.all_eq_true]) ?_
    intro d hd hny
    by_cases hc:d<c - i
    ·have n2:(i:Int)<((c - d:Nat):Int):=by omega
     have w4:IntKind.i64.wrap (((c - d:Nat):Int) - 1)=((c - (d+1):Nat):Int):=wrapN _ (by omega) (by omega)
     have hs:=h.swap (mvD c (c - d) f) [.box [.fn g cs,.xfn sf ds]] (c - d) (c - d - 1) (by omega) (by omega)
     rw [mvD_s c (c - d) f (by omega) (by omega),show c - d - 1=c - (d+1) by omega] at hs
     refine run_sound Tryz.func153 mixed 200 _ _ (by kernel_rfl) ?_
     simp only [go_sem,seval,n2,w4,h.len,h.gog,h.at0,h.atj,h.set0,h.setj,h.tk,h.tk0,h.tkj,h.refs,h.refsj,h.hcaps,h.capsj,h.hcaps2,h.capsj2,List.append_assoc]
     repeat' (first
      | ((refine hs.mono ?_<;>(rintro c H' ⟨rfl,rfl⟩))<;>(try simp only [go_sem,seval,n2,w4,h.len,h.gog,h.at0,h.atj,h.set0,h.setj,h.tk,h.tk0,h.tkj,h.refs,h.refsj,h.hcaps,h.capsj,h.hcaps2,h.capsj2,List.append_assoc]))
      | fail)
     all_goals refine hny (d+1) _ (by omega) (by omega) (by refine ⟨by simp [mkS,h.len],by simp only [mkS,List.length_append,List.length_cons,List.length_nil,h.len,h.tkj,h.tk0,h.tk];first | done | rfl | (simp;done),by simp [mkS,O.refsLt,C.refsLt,C.refsLt1,h.len,h.refs,h.refsj,h.hcaps,h.capsj,h.hcaps2,h.capsj2,all_dmap,all_dcomp,-List.all_eq_true],?_⟩;simp [mkS,Abs.get,C.refsLtT,C.refsLt,C.refsLt1,h.len,h.hcaps,h.capsj,h.hcaps2,h.capsj2,-List.all_eq_true])
    ·have n2:¬(i:Int)<((c - d:Nat):Int):=by omega
     obtain rfl:d=c - i:=by omega
     have hM:=mvD_mv n a c f (by omega) (c - i) (by omega) (by omega)
     rw [←c2,show c - (c - i)=i by omega] at hM
     have hS:=mvD_srt hw hs1 i3 i1 i4 i5
     rw [←c2] at hS
     rw [show c - (c - i)=i by omega] at n2 ⊢
     refine run_sound Tryz.func153 mixed 200 _ _ (by kernel_rfl) ?_
     simp only [go_sem,seval,n2,h.len,h.gog,h.at0,h.atj,h.set0,h.setj,h.tk,h.tk0,h.tkj,h.refs,h.refsj,h.hcaps,h.capsj,h.hcaps2,h.capsj2,List.append_assoc]
     repeat' (first
      | (exact ⟨_,hM,hS,rfl⟩)
      | fail)
  ·
   have w1:IntKind.i64.wrap ((c:Int) - (a:Int))=((c - a:Nat):Int):=wrapN _ (by omega) (by omega)
   have n0:¬((c - a:Nat):Int)=1:=by omega
   have w5:IntKind.i64.wrap ((b:Int) - (c:Int))=((b - c:Nat):Int):=wrapN _ (by omega) (by omega)
   have n5:¬((b - c:Nat):Int)=1:=by omega
   have hh:=halfN a b (by omega)
   have w6:IntKind.i64.wrap ((a:Int)+(b:Int))=(a:Int)+(b:Int):=wrap_ok (by omega) (by omega)
   obtain ⟨mid,hmid⟩:∃mid,(a+b) / 2=mid:=⟨_,rfl⟩
   rw [hmid] at hh
   have w7:IntKind.i64.wrap ((mid:Int)+(c:Int))=(mid:Int)+(c:Int):=wrap_ok (by omega) (by omega)
   have w8:IntKind.i64.wrap ((mid:Int)+(c:Int) - 1)=((mid+c - 1:Nat):Int):=wrapN _ (by omega) (by omega)
   by_cases hc:mid<c
   ·obtain ⟨s0,hs0⟩:∃s0,mid+c - b=s0:=⟨_,rfl⟩
    have n6:(mid:Int)<(c:Int):=by omega
    have w9:IntKind.i64.wrap ((mid:Int)+(c:Int) - (b:Int))=(s0:Int):=wrapN _ (by omega) (by omega)
    have hrng:∀x,s0≤x→x<mid→a≤x∧x<c∧c≤mid+c - 1 - x∧mid+c - 1 - x<b:=fun x h1 h2=>by omega
    have hA0:s0=a∨mid+c - s0=b:=.inr (by omega)
    have hB0:mid=c∨mid=mid:=.inr rfl
    refine ACalls.enter (fn:=Tryz.f153) Tryz.func153 rfl (by show 4≤_;decide) ?_
    refine run_sound Tryz.func153 mixed 200 _ _ (by kernel_rfl) ?_
    simp only [go_sem,seval,h.len,h.gog,h.at0,h.atj,h.set0,h.setj,h.tk,h.tk0,h.tkj,h.refs,h.refsj,h.hcaps,h.capsj,h.hcaps2,h.capsj2,List.append_assoc,w1,w5,n0,n5,w6,hh,w7,w8,w9,n6]
    refine AW.lp [1,2,3,4,16,17,20] (fun u:Nat×Nat=>[(18,.d (.int .i64 (u.1:Int))),(19,.d (.int .i64 (u.2:Int)))]) (fun H _=>H) (fun u=>Cut lt f (mid+c - 1) s0 mid u.1 u.2) (fun u=>u.2 - u.1) (s0,mid) ⟨Nat.le_refl _,by dsimp only;omega,Nat.le_refl _,fun x h1 h2=>absurd h2 (by dsimp only;omega),fun x h1 h2=>absurd h2 (by dsimp only at h1;omega)⟩ (by refine ⟨by simp [mkS,h.len],by simp only [mkS,List.length_append,List.length_cons,List.length_nil,h.len,h.tkj,h.tk0,h.tk];first | done | rfl | (simp;done),by simp [mkS,O.refsLt,C.refsLt,C.refsLt1,h.len,h.refs,h.refsj,h.hcaps,h.capsj,h.hcaps2,h.capsj2,all_dmap,all_dcomp,-List.all_eq_true],?_⟩;simp [mkS,Abs.get,C.refsLtT,C.refsLt,C.refsLt1,h.len,h.hcaps,h.capsj,h.hcaps2,h.capsj2,-List.all_eq_true]) ?_
    rintro ⟨s,r⟩ hcut hnext
    dsimp only at hcut hnext ⊢
    have hnx:=fun i' j' s'=>hnext (i',j') s'
    clear hnext
    have q1:=hcut.lo
    have q2:=hcut.le
    have q3:=hcut.hi
    by_cases hsr:s<r
    ·have n1:(s:Int)<(r:Int):=by omega
     have hh2:=halfN s r (by omega)
     have w10:IntKind.i64.wrap ((s:Int)+(r:Int))=(s:Int)+(r:Int):=wrap_ok (by omega) (by omega)
     obtain ⟨y,hy⟩:∃y,(s+r) / 2=y:=⟨_,rfl⟩
     rw [hy] at hh2
     have w11:IntKind.i64.wrap (((mid+c - 1:Nat):Int) - (y:Int))=((mid+c - 1 - y:Nat):Int):=wrapN _ (by omega) (by omega)
     have w12:IntKind.i64.wrap ((y:Int)+1)=((y+1:Nat):Int):=wrapN _ (by omega) (by omega)
     have hl:=h.less f [.box [.fn g cs,.xfn sf ds]] (mid+c - 1 - y) y (by omega) (by omega)
     cases hlt:lt (f (mid+c - 1 - y)) (f y) with
     | false =>
      rw [hlt] at hl
      refine run_sound Tryz.func153 mixed 200 _ _ (by kernel_rfl) ?_
      simp only [go_sem,seval,n1,w10,hh2,w11,h.len,h.gog,h.at0,h.atj,h.set0,h.setj,h.tk,h.tk0,h.tkj,h.refs,h.refsj,h.hcaps,h.capsj,h.hcaps2,h.capsj2,List.append_assoc]
      repeat' (first
       | ((refine hl.mono ?_<;>(rintro c H' ⟨rfl,rfl⟩))<;>(try simp only [go_sem,seval,n1,w10,hh2,w11,w12,h.len,h.gog,h.at0,h.atj,h.set0,h.setj,h.tk,h.tk0,h.tkj,h.refs,h.refsj,h.hcaps,h.capsj,h.hcaps2,h.capsj2,List.append_assoc]))
       | fail)
      refine hnx (y+1) r _ (hcut.up hw hs1 hs2 hrng (by omega) (by omega) hlt) (by dsimp only;omega) (by refine ⟨by simp [mkS,h.len],by simp only [mkS,List.length_append,List.length_cons,List.length_nil,h.len,h.tkj,h.tk0,h.tk];first | done | rfl | (simp;done),by simp [mkS,O.refsLt,C.refsLt,C.refsLt1,h.len,h.refs,h.refsj,h.hcaps,h.capsj,h.hcaps2,h.capsj2,all_dmap,all_dcomp,-List.all_eq_true],?_⟩;simp [mkS,Abs.get,C.refsLtT,C.refsLt,C.refsLt1,h.len,h.hcaps,h.capsj,h.hcaps2,h.capsj2,-List.all_eq_true])
     | true =>
      rw [hlt] at hl
      refine run_sound Tryz.func153 mixed 200 _ _ (by kernel_rfl) ?_
      simp only [go_sem,seval,n1,w10,hh2,w11,h.len,h.gog,h.at0,h.atj,h.set0,h.setj,h.tk,h.tk0,h.tkj,h.refs,h.refsj,h.hcaps,h.capsj,h.hcaps2,h.capsj2,List.append_assoc]
      repeat' (first
       | ((refine hl.mono ?_<;>(rintro c H' ⟨rfl,rfl⟩))<;>(try simp only [go_sem,seval,n1,w10,hh2,w11,w12,h.len,h.gog,h.at0,h.atj,h.set0,h.setj,h.tk,h.tk0,h.tkj,h.refs,h.refsj,h.hcaps,h.capsj,h.hcaps2,h.capsj2,List.append_assoc]))
       | fail)
      refine hnx s y _ (hcut.dn hw hs1 hs2 hrng (by omega) (by omega) hlt) (by dsimp only;omega) (by refine ⟨by simp [mkS,h.len],by simp only [mkS,List.length_append,List.length_cons,List.length_nil,h.len,h.tkj,h.tk0,h.tk];first | done | rfl | (simp;done),by simp [mkS,O.refsLt,C.refsLt,C.refsLt1,h.len,h.refs,h.refsj,h.hcaps,h.capsj,h.hcaps2,h.capsj2,all_dmap,all_dcomp,-List.all_eq_true],?_⟩;simp [mkS,Abs.get,C.refsLtT,C.refsLt,C.refsLt1,h.len,h.hcaps,h.capsj,h.hcaps2,h.capsj2,-List.all_eq_true])
    ·have n1:¬(s:Int)<(r:Int):=by omega
     obtain rfl:s=r:=by omega
     obtain ⟨e,he⟩:∃e,mid+c - s=e:=⟨_,rfl⟩
     have w13:IntKind.i64.wrap ((mid:Int)+(c:Int) - (s:Int))=(e:Int):=wrapN _ (by omega) (by omega)
     have hA:s=a∨e=b∨leq lt (f (s - 1)) (f e):=by
      by_cases e0:s=s0
      ·rcases hA0 with h0 | h0
       ·exact .inl (by omega)
       ·exact .inr (.inl (by omega))
      ·have:=hcut.bel (s - 1) (by omega) (by omega)
       rw [show mid+c - 1 - (s - 1)=e by omega] at this
       exact .inr (.inr this)
     have hB:s=c∨e=c∨lt (f (e - 1)) (f s)=true:=by
      by_cases e0:s=mid
      ·rcases hB0 with h0 | h0
       ·exact .inl (by omega)
       ·exact .inr (.inl (by omega))
      ·have:=hcut.abv s (Nat.le_refl _) (by omega)
       rw [show mid+c - 1 - s=e - 1 by omega] at this
       exact .inr (.inr this)
     have hx:=sym_cross hw hs1 hs2 (s:=s) (e:=e) (mid:=mid) (by omega) (by omega) (by omega) (by omega) (by omega) hA hB
     obtain ⟨l1,l2,l3,l4⟩:=rot_lo hs1 hs2 (s:=s) (e:=e) (mid:=mid) (by omega) (by omega) (by omega) (by omega) (by omega)
     have hnxt:=hnx
     clear hnx hcut hA hB
     rcases (show (s=c∧s<mid)∨(s=c∧s=mid)∨(s<c∧s=mid)∨(s<c∧s<mid) by omega) with ⟨p1,p2⟩ | ⟨p1,p2⟩ | ⟨p1,p2⟩ | ⟨p1,p2⟩
     ·have g1:¬(s:Int)<(c:Int):=by omega
      have g2:(a:Int)<(s:Int):=by omega
      have g3:(s:Int)<(mid:Int):=by omega
      have g4:¬(mid:Int)<(e:Int):=by omega
      rw [p1,rot_id1] at hx l1 l2 l3 l4
      rw [←p1] at l1 l2
      have hl:=ih _ _ hX a s mid f (by omega) (by omega) (by omega) (by omega) l1 l2
      refine run_sound Tryz.func153 mixed 200 _ _ (by kernel_rfl) ?_
      simp only [go_sem,seval,n1,w13,g1,g2,g3,g4,h.len,h.gog,h.at0,h.atj,h.set0,h.setj,h.tk,h.tk0,h.tkj,h.refs,h.refsj,h.hcaps,h.capsj,h.hcaps2,h.capsj2,List.append_assoc]
      repeat' (first
       | ((first
        | (refine hl.mono ?_<;>(rintro c H' ⟨rfl,f2,m2,s2,rfl⟩))
        | (refine ⟨sd,?_⟩)
        | (refine ⟨by assumption,?_⟩))<;>(try simp only [go_sem,seval,n1,w13,g1,g2,g3,g4,h.len,h.gog,h.at0,h.atj,h.set0,h.setj,h.tk,h.tk0,h.tkj,h.refs,h.refsj,h.hcaps,h.capsj,h.hcaps2,h.capsj2,List.append_assoc]))
       | fail)
      have s4:=m2.srt_out l4 (.inr (by omega))
      first | exact srt_join hx m2 s2 (.refl n mid b f2) (srt_sub s4 (by omega) (Nat.le_refl _)) | exact ⟨(m2.mono (Nat.le_refl _) (by omega)),srt_join hx m2 s2 (.refl n mid b f2) (srt_sub s4 (by omega) (Nat.le_refl _))⟩ | exact ⟨_,(m2.mono (Nat.le_refl _) (by omega)),srt_join hx m2 s2 (.refl n mid b f2) (srt_sub s4 (by omega) (Nat.le_refl _)),rfl⟩
     ·have g1:¬(s:Int)<(c:Int):=by omega
      have g2:(a:Int)<(s:Int):=by omega
      have g3:¬(s:Int)<(mid:Int):=by omega
      have g4:¬(mid:Int)<(e:Int):=by omega
      rw [p1,rot_id1] at hx l1 l2 l3 l4
      refine run_sound Tryz.func153 mixed 200 _ _ (by kernel_rfl) ?_
      simp only [go_sem,seval,n1,w13,g1,g2,g3,g4,h.len,h.gog,h.at0,h.atj,h.set0,h.setj,h.tk,h.tk0,h.tkj,h.refs,h.refsj,h.hcaps,h.capsj,h.hcaps2,h.capsj2,List.append_assoc]
      repeat' (first
       | ((first
        | (refine ⟨sd,?_⟩)
        | (refine ⟨by assumption,?_⟩))<;>(try simp only [go_sem,seval,n1,w13,g1,g2,g3,g4,h.len,h.gog,h.at0,h.atj,h.set0,h.setj,h.tk,h.tk0,h.tkj,h.refs,h.refsj,h.hcaps,h.capsj,h.hcaps2,h.capsj2,List.append_assoc]))
       | fail)
      all_goals first | exact srt_join hx (.refl n a mid f) (srt_sub l1 (Nat.le_refl _) (by omega)) (.refl n mid b f) (srt_sub l4 (by omega) (Nat.le_refl _)) | exact ⟨(.refl _ _ _ _),srt_join hx (.refl n a mid f) (srt_sub l1 (Nat.le_refl _) (by omega)) (.refl n mid b f) (srt_sub l4 (by omega) (Nat.le_refl _))⟩ | exact ⟨_,(.refl _ _ _ _),srt_join hx (.refl n a mid f) (srt_sub l1 (Nat.le_refl _) (by omega)) (.refl n mid b f) (srt_sub l4 (by omega) (Nat.le_refl _)),rfl⟩
     ·have g1:(s:Int)<(c:Int):=by omega
      have g2:¬(c:Int)<(e:Int):=by omega
      have g3:(a:Int)<(s:Int):=by omega
      have g4:¬(s:Int)<(mid:Int):=by omega
      have g5:(mid:Int)<(e:Int):=by omega
      have g6:(e:Int)<(b:Int):=by omega
      rw [show e=c by omega,rot_id2] at hx l1 l2 l3 l4
      rw [show c=e by omega] at l3 l4
      have hr2:=fun (f2:Nat→α) (m:Mv n a mid f f2)=>ih _ _ hX mid e b f2 (by omega) (by omega) (by omega) hb (m.srt_out l3 (.inr (Nat.le_refl _))) (m.srt_out l4 (.inr (by omega)))
      refine run_sound Tryz.func153 mixed 200 _ _ (by kernel_rfl) ?_
      simp only [go_sem,seval,n1,w13,g1,g2,g3,g4,g5,g6,h.len,h.gog,h.at0,h.atj,h.set0,h.setj,h.tk,h.tk0,h.tkj,h.refs,h.refsj,h.hcaps,h.capsj,h.hcaps2,h.capsj2,List.append_assoc]
      repeat' (first
       | ((first
        | (refine (hr2 _ (Mv.refl n a mid f)).mono ?_<;>(rintro c H' ⟨rfl,f3,m3,s3,rfl⟩))
        | (refine ⟨by assumption,?_⟩))<;>(try simp only [go_sem,seval,n1,w13,g1,g2,g3,g4,g5,g6,h.len,h.gog,h.at0,h.atj,h.set0,h.setj,h.tk,h.tk0,h.tkj,h.refs,h.refsj,h.hcaps,h.capsj,h.hcaps2,h.capsj2,List.append_assoc]))
       | fail)
      first | exact srt_join hx (.refl n a mid f) (srt_sub l1 (Nat.le_refl _) (by omega)) m3 s3 | exact ⟨(m3.mono (by omega) (Nat.le_refl _)),srt_join hx (.refl n a mid f) (srt_sub l1 (Nat.le_refl _) (by omega)) m3 s3⟩ | exact ⟨_,(m3.mono (by omega) (Nat.le_refl _)),srt_join hx (.refl n a mid f) (srt_sub l1 (Nat.le_refl _) (by omega)) m3 s3,rfl⟩
     ·have g1:(s:Int)<(c:Int):=by omega
      have g2:(c:Int)<(e:Int):=by omega
      have g4:(s:Int)<(mid:Int):=by omega
      have g5:(mid:Int)<(e:Int):=by omega
      have hrt:=rotate_R hX hn s c e f p1 (by omega) (by omega)
      generalize hF:rot s c e f=F at hx l1 l2 l3 l4 hrt
      have hr2:=fun (f2:Nat→α) (m:Mv n a mid F f2) (hh:e<b)=>ih _ _ hX mid e b f2 (by omega) (by omega) (by omega) hb (m.srt_out l3 (.inr (Nat.le_refl _))) (m.srt_out l4 (.inr (by omega)))
      by_cases d1:a<s
      ·have g3:(a:Int)<(s:Int):=by omega
       have hl:=ih _ _ hX a s mid F (by omega) d1 (by omega) (by omega) l1 l2
       by_cases d2:e<b
       ·have g6:(e:Int)<(b:Int):=by omega
        refine run_sound Tryz.func153 mixed 200 _ _ (by kernel_rfl) ?_
        simp only [go_sem,seval,n1,w13,g1,g2,g3,g4,g5,g6,h.len,h.gog,h.at0,h.atj,h.set0,h.setj,h.tk,h.tk0,h.tkj,h.refs,h.refsj,h.hcaps,h.capsj,h.hcaps2,h.capsj2,List.append_assoc]
        repeat' (first
         | ((first
          | (refine hrt.mono ?_<;>(rintro c H' ⟨rfl,hm1,rfl⟩))
          | (refine hl.mono ?_<;>(rintro c H' ⟨rfl,f2,m2,s2,rfl⟩))
          | (refine (hr2 _ m2 d2).mono ?_<;>(rintro c H' ⟨rfl,f3,m3,s3,rfl⟩))
          | (refine ⟨by assumption,?_⟩))<;>(try simp only [go_sem,seval,n1,w13,g1,g2,g3,g4,g5,g6,h.len,h.gog,h.at0,h.atj,h.set0,h.setj,h.tk,h.tk0,h.tkj,h.refs,h.refsj,h.hcaps,h.capsj,h.hcaps2,h.capsj2,List.append_assoc]))
         | fail)
        first | exact srt_join hx m2 s2 m3 s3 | exact ⟨(((hm1.mono (by omega) (by omega)).trans (m2.mono (Nat.le_refl _) (by omega))).trans (m3.mono (by omega) (Nat.le_refl _))),srt_join hx m2 s2 m3 s3⟩ | exact ⟨_,(((hm1.mono (by omega) (by omega)).trans (m2.mono (Nat.le_refl _) (by omega))).trans (m3.mono (by omega) (Nat.le_refl _))),srt_join hx m2 s2 m3 s3,rfl⟩
       ·have g6:¬(e:Int)<(b:Int):=by omega
        refine run_sound Tryz.func153 mixed 200 _ _ (by kernel_rfl) ?_
        simp only [go_sem,seval,n1,w13,g1,g2,g3,g4,g5,g6,h.len,h.gog,h.at0,h.atj,h.set0,h.setj,h.tk,h.tk0,h.tkj,h.refs,h.refsj,h.hcaps,h.capsj,h.hcaps2,h.capsj2,List.append_assoc]
        repeat' (first
         | ((first
          | (refine hrt.mono ?_<;>(rintro c H' ⟨rfl,hm1,rfl⟩))
          | (refine hl.mono ?_<;>(rintro c H' ⟨rfl,f2,m2,s2,rfl⟩))
          | (refine ⟨by assumption,?_⟩))<;>(try simp only [go_sem,seval,n1,w13,g1,g2,g3,g4,g5,g6,h.len,h.gog,h.at0,h.atj,h.set0,h.setj,h.tk,h.tk0,h.tkj,h.refs,h.refsj,h.hcaps,h.capsj,h.hcaps2,h.capsj2,List.append_assoc]))
         | fail)
        first | exact srt_join hx m2 s2 (.refl n mid b f2) (srt_sub (m2.srt_out l3 (.inr (Nat.le_refl _))) (Nat.le_refl _) (by omega)) | exact ⟨((hm1.mono (by omega) (by omega)).trans (m2.mono (Nat.le_refl _) (by omega))),srt_join hx m2 s2 (.refl n mid b f2) (srt_sub (m2.srt_out l3 (.inr (Nat.le_refl _))) (Nat.le_refl _) (by omega))⟩ | exact ⟨_,((hm1.mono (by omega) (by omega)).trans (m2.mono (Nat.le_refl _) (by omega))),srt_join hx m2 s2 (.refl n mid b f2) (srt_sub (m2.srt_out l3 (.inr (Nat.le_refl _))) (Nat.le_refl _) (by omega)),rfl⟩
      ·have g3:¬(a:Int)<(s:Int):=by omega
       have l2':srt lt F a mid:=srt_sub l2 (by omega) (Nat.le_refl _)
       by_cases d2:e<b
       ·have g6:(e:Int)<(b:Int):=by omega
        refine run_sound Tryz.func153 mixed 200 _ _ (by kernel_rfl) ?_
        simp only [go_sem,seval,n1,w13,g1,g2,g3,g4,g5,g6,h.len,h.gog,h.at0,h.atj,h.set0,h.setj,h.tk,h.tk0,h.tkj,h.refs,h.refsj,h.hcaps,h.capsj,h.hcaps2,h.capsj2,List.append_assoc]
        repeat' (first
         | ((first
          | (refine hrt.mono ?_<;>(rintro c H' ⟨rfl,hm1,rfl⟩))
          | (refine (hr2 _ (Mv.refl n a mid F) d2).mono ?_<;>(rintro c H' ⟨rfl,f3,m3,s3,rfl⟩))
          | (refine ⟨sd,?_⟩)
          | (refine ⟨by assumption,?_⟩))<;>(try simp only [go_sem,seval,n1,w13,g1,g2,g3,g4,g5,g6,h.len,h.gog,h.at0,h.atj,h.set0,h.setj,h.tk,h.tk0,h.tkj,h.refs,h.refsj,h.hcaps,h.capsj,h.hcaps2,h.capsj2,List.append_assoc]))
         | fail)
        first | exact srt_join hx (.refl n a mid F) l2' m3 s3 | exact ⟨((hm1.mono (by omega) (by omega)).trans (m3.mono (by omega) (Nat.le_refl _))),srt_join hx (.refl n a mid F) l2' m3 s3⟩ | exact ⟨_,((hm1.mono (by omega) (by omega)).trans (m3.mono (by omega) (Nat.le_refl _))),srt_join hx (.refl n a mid F) l2' m3 s3,rfl⟩
       ·have g6:¬(e:Int)<(b:Int):=by omega
        refine run_sound Tryz.func153 mixed 200 _ _ (by kernel_rfl) ?_
        simp only [go_sem,seval,n1,w13,g1,g2,g3,g4,g5,g6,h.len,h.gog,h.at0,h.atj,h.set0,h.setj,h.tk,h.tk0,h.tkj,h.refs,h.refsj,h.hcaps,h.capsj,h.hcaps2,h.capsj2,List.append_assoc]
        repeat' (first
         | ((first
          | (refine hrt.mono ?_<;>(rintro c H' ⟨rfl,hm1,rfl⟩))
          | (refine ⟨by assumption,?_⟩))<;>(try simp only [go_sem,seval,n1,w13,g1,g2,g3,g4,g5,g6,h.len,h.gog,h.at0,h.atj,h.set0,h.setj,h.tk,h.tk0,h.tkj,h.refs,h.refsj,h.hcaps,h.capsj,h.hcaps2,h.capsj2,List.append_assoc]))
         | fail)
        first | exact srt_join hx (.refl n a mid F) l2' (.refl n mid b F) (srt_sub l3 (Nat.le_refl _) (by omega)) | exact ⟨(hm1.mono (by omega) (by omega)),srt_join hx (.refl n a mid F) l2' (.refl n mid b F) (srt_sub l3 (Nat.le_refl _) (by omega))⟩ | exact ⟨_,(hm1.mono (by omega) (by omega)),srt_join hx (.refl n a mid F) l2' (.refl n mid b F) (srt_sub l3 (Nat.le_refl _) (by omega)),rfl⟩
   ·have n6:¬(mid:Int)<(c:Int):=by omega
    have hrng:∀x,a≤x→x<c→a≤x∧x<c∧c≤mid+c - 1 - x∧mid+c - 1 - x<b:=fun x h1 h2=>by omega
    have hA0:a=a∨mid+c - a=b:=.inl rfl
    have hB0:c=c∨c=mid:=.inl rfl
    refine ACalls.enter (fn:=Tryz.f153) Tryz.func153 rfl (by show 4≤_;decide) ?_
    refine run_sound Tryz.func153 mixed 200 _ _ (by kernel_rfl) ?_
    simp only [go_sem,seval,h.len,h.gog,h.at0,h.atj,h.set0,h.setj,h.tk,h.tk0,h.tkj,h.refs,h.refsj,h.hcaps,h.capsj,h.hcaps2,h.capsj2,List.append_assoc,w1,w5,n0,n5,w6,hh,w7,w8,n6]
    refine AW.lp [1,2,3,4,16,17,20] (fun u:Nat×Nat=>[(18,.d (.int .i64 (u.1:Int))),(19,.d (.int .i64 (u.2:Int)))]) (fun H _=>H) (fun u=>Cut lt f (mid+c - 1) a c u.1 u.2) (fun u=>u.2 - u.1) (a,c) ⟨Nat.le_refl _,by dsimp only;omega,Nat.le_refl _,fun x h1 h2=>absurd h2 (by dsimp only;omega),fun x h1 h2=>absurd h2 (by dsimp only at h1;omega)⟩ (by refine ⟨by simp [mkS,h.len],by simp only [mkS,List.length_append,List.length_cons,List.length_nil,h.len,h.tkj,h.tk0,h.tk];first | done | rfl | (simp;done),by simp [mkS,O.refsLt,C.refsLt,C.refsLt1,h.len,h.refs,h.refsj,h.hcaps,h.capsj,h.hcaps2,h.capsj2,all_dmap,all_dcomp,-List.all_eq_true],?_⟩;simp [mkS,Abs.get,C.refsLtT,C.refsLt,C.refsLt1,h.len,h.hcaps,h.capsj,h.hcaps2,h.capsj2,-List.all_eq_true]) ?_
    rintro ⟨s,r⟩ hcut hnext
    dsimp only at hcut hnext ⊢
    have hnx:=fun i' j' s'=>hnext (i',j') s'
    clear hnext
    have q1:=hcut.lo
    have q2:=hcut.le
    have q3:=hcut.hi
    by_cases hsr:s<r
    ·have n1:(s:Int)<(r:Int):=by omega
     have hh2:=halfN s r (by omega)
     have w10:IntKind.i64.wrap ((s:Int)+(r:Int))=(s:Int)+(r:Int):=wrap_ok (by omega) (by omega)
     obtain ⟨y,hy⟩:∃y,(s+r) / 2=y:=⟨_,rfl⟩
     rw [hy] at hh2
     have w11:IntKind.i64.wrap (((mid+c - 1:Nat):Int) - (y:Int))=((mid+c - 1 - y:Nat):Int):=wrapN _ (by omega) (by omega)
     have w12:IntKind.i64.wrap ((y:Int)+1)=((y+1:Nat):Int):=wrapN _ (by omega) (by omega)
     have hl:=h.less f [.box [.fn g cs,.xfn sf ds]] (mid+c - 1 - y) y (by omega) (by omega)
     cases hlt:lt (f (mid+c - 1 - y)) (f y) with
     | false =>
      rw [hlt] at hl
      refine run_sound Tryz.func153 mixed 200 _ _ (by kernel_rfl) ?_
      simp only [go_sem,seval,n1,w10,hh2,w11,h.len,h.gog,h.at0,h.atj,h.set0,h.setj,h.tk,h.tk0,h.tkj,h.refs,h.refsj,h.hcaps,h.capsj,h.hcaps2,h.capsj2,List.append_assoc]
      repeat' (first
       | ((refine hl.mono ?_<;>(rintro c H' ⟨rfl,rfl⟩))<;>(try simp only [go_sem,seval,n1,w10,hh2,w11,w12,h.len,h.gog,h.at0,h.atj,h.set0,h.setj,h.tk,h.tk0,h.tkj,h.refs,h.refsj,h.hcaps,h.capsj,h.hcaps2,h.capsj2,List.append_assoc]))
       | fail)
      refine hnx (y+1) r _ (hcut.up hw hs1 hs2 hrng (by omega) (by omega) hlt) (by dsimp only;omega) (by refine ⟨by simp [mkS,h.len],by simp only [mkS,List.length_append,List.length_cons,List.length_nil,h.len,h.tkj,h.tk0,h.tk];first | done | rfl | (simp;done),by simp [mkS,O.refsLt,C.refsLt,C.refsLt1,h.len,h.refs,h.refsj,h.hcaps,h.capsj,h.hcaps2,h.capsj2,all_dmap,all_dcomp,-List.all_eq_true],?_⟩;simp [mkS,Abs.get,C.refsLtT,C.refsLt,C.refsLt1,h.len,h.hcaps,h.capsj,h.hcaps2,h.capsj2,-List.all_eq_true])
     | true =>
      rw [hlt] at hl
      refine run_sound Tryz.func153 mixed 200 _ _ (by kernel_rfl) ?_
      simp only [go_sem,seval,n1,w10,hh2,w11,h.len,h.gog,h.at0,h.atj,h.set0,h.setj,h.tk,h.tk0,h.tkj,h.refs,h.refsj,h.hcaps,h.capsj,h.hcaps2,h.capsj2,List.append_assoc]
      repeat' (first
       | ((refine hl.mono ?_<;>(rintro c H' ⟨rfl,rfl⟩))<;>(try simp only [go_sem,seval,n1,w10,hh2,w11,w12,h.len,h.gog,h.at0,h.atj,h.set0,h.setj,h.tk,h.tk0,h.tkj,h.refs,h.refsj,h.hcaps,h.capsj,h.hcaps2,h.capsj2,List.append_assoc]))
       | fail)
      refine hnx s y _ (hcut.dn hw hs1 hs2 hrng (by omega) (by omega) hlt) (by dsimp only;omega) (by refine ⟨by simp [mkS,h.len],by simp only [mkS,List.length_append,List.length_cons,List.length_nil,h.len,h.tkj,h.tk0,h.tk];first | done | rfl | (simp;done),by simp [mkS,O.refsLt,C.refsLt,C.refsLt1,h.len,h.refs,h.refsj,h.hcaps,h.capsj,h.hcaps2,h.capsj2,all_dmap,all_dcomp,-List.all_eq_true],?_⟩;simp [mkS,Abs.get,C.refsLtT,C.refsLt,C.refsLt1,h.len,h.hcaps,h.capsj,h.hcaps2,h.capsj2,-List.all_eq_true])
    ·have n1:¬(s:Int)<(r:Int):=by omega
     obtain rfl:s=r:=by omega
     obtain ⟨e,he⟩:∃e,mid+c - s=e:=⟨_,rfl⟩
     have w13:IntKind.i64.wrap ((mid:Int)+(c:Int) - (s:Int))=(e:Int):=wrapN _ (by omega) (by omega)
     have hA:s=a∨e=b∨leq lt (f (s - 1)) (f e):=by
      by_cases e0:s=a
      ·rcases hA0 with h0 | h0
       ·exact .inl (by omega)
       ·exact .inr (.inl (by omega))
      ·have:=hcut.bel (s - 1) (by omega) (by omega)
       rw [show mid+c - 1 - (s - 1)=e by omega] at this
       exact .inr (.inr this)
     have hB:s=c∨e=c∨lt (f (e - 1)) (f s)=true:=by
      by_cases e0:s=c
      ·rcases hB0 with h0 | h0
       ·exact .inl (by omega)
       ·exact .inr (.inl (by omega))
      ·have:=hcut.abv s (Nat.le_refl _) (by omega)
       rw [show mid+c - 1 - s=e - 1 by omega] at this
       exact .inr (.inr this)
     have hx:=sym_cross hw hs1 hs2 (s:=s) (e:=e) (mid:=mid) (by omega) (by omega) (by omega) (by omega) (by omega) hA hB
     obtain ⟨l1,l2,l3,l4⟩:=rot_lo hs1 hs2 (s:=s) (e:=e) (mid:=mid) (by omega) (by omega) (by omega) (by omega) (by omega)
     have hnxt:=hnx
     clear hnx hcut hA hB
     rcases (show (s=c∧s<mid)∨(s=c∧s=mid)∨(s<c∧s=mid)∨(s<c∧s<mid) by omega) with ⟨p1,p2⟩ | ⟨p1,p2⟩ | ⟨p1,p2⟩ | ⟨p1,p2⟩
     ·have g1:¬(s:Int)<(c:Int):=by omega
      have g2:(a:Int)<(s:Int):=by omega
      have g3:(s:Int)<(mid:Int):=by omega
      have g4:¬(mid:Int)<(e:Int):=by omega
      rw [p1,rot_id1] at hx l1 l2 l3 l4
      rw [←p1] at l1 l2
      have hl:=ih _ _ hX a s mid f (by omega) (by omega) (by omega) (by omega) l1 l2
      refine run_sound Tryz.func153 mixed 200 _ _ (by kernel_rfl) ?_
      simp only [go_sem,seval,n1,w13,g1,g2,g3,g4,h.len,h.gog,h.at0,h.atj,h.set0,h.setj,h.tk,h.tk0,h.tkj,h.refs,h.refsj,h.hcaps,h.capsj,h.hcaps2,h.capsj2,List.append_assoc]
      repeat' (first
       | ((first
        | (refine hl.mono ?_<;>(rintro c H' ⟨rfl,f2,m2,s2,rfl⟩))
        | (refine ⟨by assumption,?_⟩))<;>(try simp only [go_sem,seval,n1,w13,g1,g2,g3,g4,h.len,h.gog,h.at0,h.atj,h.set0,h.setj,h.tk,h.tk0,h.tkj,h.refs,h.refsj,h.hcaps,h.capsj,h.hcaps2,h.capsj2,List.append_assoc]))
       | fail)
      have s4:=m2.srt_out l4 (.inr (by omega))
      first | exact srt_join hx m2 s2 (.refl n mid b f2) (srt_sub s4 (by omega) (Nat.le_refl _)) | exact ⟨(m2.mono (Nat.le_refl _) (by omega)),srt_join hx m2 s2 (.refl n mid b f2) (srt_sub s4 (by omega) (Nat.le_refl _))⟩ | exact ⟨_,(m2.mono (Nat.le_refl _) (by omega)),srt_join hx m2 s2 (.refl n mid b f2) (srt_sub s4 (by omega) (Nat.le_refl _)),rfl⟩
     ·have g1:¬(s:Int)<(c:Int):=by omega
      have g2:(a:Int)<(s:Int):=by omega
      have g3:¬(s:Int)<(mid:Int):=by omega
      have g4:¬(mid:Int)<(e:Int):=by omega
      rw [p1,rot_id1] at hx l1 l2 l3 l4
      refine run_sound Tryz.func153 mixed 200 _ _ (by kernel_rfl) ?_
      simp only [go_sem,seval,n1,w13,g1,g2,g3,g4,h.len,h.gog,h.at0,h.atj,h.set0,h.setj,h.tk,h.tk0,h.tkj,h.refs,h.refsj,h.hcaps,h.capsj,h.hcaps2,h.capsj2,List.append_assoc]
      repeat' (first
       | ((refine ⟨by assumption,?_⟩)<;>(try simp only [go_sem,seval,n1,w13,g1,g2,g3,g4,h.len,h.gog,h.at0,h.atj,h.set0,h.setj,h.tk,h.tk0,h.tkj,h.refs,h.refsj,h.hcaps,h.capsj,h.hcaps2,h.capsj2,List.append_assoc]))
       | fail)
      all_goals first | exact srt_join hx (.refl n a mid f) (srt_sub l1 (Nat.le_refl _) (by omega)) (.refl n mid b f) (srt_sub l4 (by omega) (Nat.le_refl _)) | exact ⟨(.refl _ _ _ _),srt_join hx (.refl n a mid f) (srt_sub l1 (Nat.le_refl _) (by omega)) (.refl n mid b f) (srt_sub l4 (by omega) (Nat.le_refl _))⟩ | exact ⟨_,(.refl _ _ _ _),srt_join hx (.refl n a mid f) (srt_sub l1 (Nat.le_refl _) (by omega)) (.refl n mid b f) (srt_sub l4 (by omega) (Nat.le_refl _)),rfl⟩
     ·have g1:(s:Int)<(c:Int):=by omega
      have g2:¬(c:Int)<(e:Int):=by omega
      have g3:(a:Int)<(s:Int):=by omega
      have g4:¬(s:Int)<(mid:Int):=by omega
      have g5:(mid:Int)<(e:Int):=by omega
      have g6:(e:Int)<(b:Int):=by omega
      rw [show e=c by omega,rot_id2] at hx l1 l2 l3 l4
      rw [show c=e by omega] at l3 l4
      have hr2:=fun (f2:Nat→α) (m:Mv n a mid f f2)=>ih _ _ hX mid e b f2 (by omega) (by omega) (by omega) hb (m.srt_out l3 (.inr (Nat.le_refl _))) (m.srt_out l4 (.inr (by omega)))
      refine run_sound Tryz.func153 mixed 200 _ _ (by kernel_rfl) ?_
      simp only [go_sem,seval,n1,w13,g1,g2,g3,g4,g5,g6,h.len,h.gog,h.at0,h.atj,h.set0,h.setj,h.tk,h.tk0,h.tkj,h.refs,h.refsj,h.hcaps,h.capsj,h.hcaps2,h.capsj2,List.append_assoc]
      repeat' (first
       | ((first
        | (refine (hr2 _ (Mv.refl n a mid f)).mono ?_<;>(rintro c H' ⟨rfl,f3,m3,s3,rfl⟩))
        | (refine ⟨sd,?_⟩)
        | (refine ⟨by assumption,?_⟩))<;>(try simp only [go_sem,seval,n1,w13,g1,g2,g3,g4,g5,g6,h.len,h.gog,h.at0,h.atj,h.set0,h.setj,h.tk,h.tk0,h.tkj,h.refs,h.refsj,h.hcaps,h.capsj,h.hcaps2,h.capsj2,List.append_assoc]))
       | fail)
      first | exact srt_join hx (.refl n a mid f) (srt_sub l1 (Nat.le_refl _) (by omega)) m3 s3 | exact ⟨(m3.mono (by omega) (Nat.le_refl _)),srt_join hx (.refl n a mid f) (srt_sub l1 (Nat.le_refl _) (by omega)) m3 s3⟩ | exact ⟨_,(m3.mono (by omega) (Nat.le_refl _)),srt_join hx (.refl n a mid f) (srt_sub l1 (Nat.le_refl _) (by omega)) m3 s3,rfl⟩
     ·have g1:(s:Int)<(c:Int):=by omega
      have g2:(c:Int)<(e:Int):=by omega
      have g4:(s:Int)<(mid:Int):=by omega
      have g5:(mid:Int)<(e:Int):=by omega
      have hrt:=rotate_R hX hn s c e f p1 (by omega) (by omega)
      generalize hF:rot s c e f=F at hx l1 l2 l3 l4 hrt
      have hr2:=fun (f2:Nat→α) (m:Mv n a mid F f2) (hh:e<b)=>ih _ _ hX mid e b f2 (by omega) (by omega) (by omega) hb (m.srt_out l3 (.inr (Nat.le_refl _))) (m.srt_out l4 (.inr (by omega)))
      by_cases d1:a<s
      ·have g3:(a:Int)<(s:Int):=by omega
       have hl:=ih _ _ hX a s mid F (by omega) d1 (by omega) (by omega) l1 l2
       by_cases d2:e<b
       ·have g6:(e:Int)<(b:Int):=by omega
        refine run_sound Tryz.func153 mixed 200 _ _ (by kernel_rfl) ?_
        simp only [go_sem,seval,n1,w13,g1,g2,g3,g4,g5,g6,h.len,h.gog,h.at0,h.atj,h.set0,h.setj,h.tk,h.tk0,h.tkj,h.refs,h.refsj,h.hcaps,h.capsj,h.hcaps2,h.capsj2,List.append_assoc]
        repeat' (first
         | ((first
          | (refine hrt.mono ?_<;>(rintro c H' ⟨rfl,hm1,rfl⟩))
          | (refine hl.mono ?_<;>(rintro c H' ⟨rfl,f2,m2,s2,rfl⟩))
          | (refine (hr2 _ m2 d2).mono ?_<;>(rintro c H' ⟨rfl,f3,m3,s3,rfl⟩))
          | (refine ⟨by assumption,?_⟩))<;>(try simp only [go_sem,seval,n1,w13,g1,g2,g3,g4,g5,g6,h.len,h.gog,h.at0,h.atj,h.set0,h.setj,h.tk,h.tk0,h.tkj,h.refs,h.refsj,h.hcaps,h.capsj,h.hcaps2,h.capsj2,List.append_assoc]))
         | fail)
        first | exact srt_join hx m2 s2 m3 s3 | exact ⟨(((hm1.mono (by omega) (by omega)).trans (m2.mono (Nat.le_refl _) (by omega))).trans (m3.mono (by omega) (Nat.le_refl _))),srt_join hx m2 s2 m3 s3⟩ | exact ⟨_,(((hm1.mono (by omega) (by omega)).trans (m2.mono (Nat.le_refl _) (by omega))).trans (m3.mono (by omega) (Nat.le_refl _))),srt_join hx m2 s2 m3 s3,rfl⟩
       ·have g6:¬(e:Int)<(b:Int):=by omega
        refine run_sound Tryz.func153 mixed 200 _ _ (by kernel_rfl) ?_
        simp only [go_sem,seval,n1,w13,g1,g2,g3,g4,g5,g6,h.len,h.gog,h.at0,h.atj,h.set0,h.setj,h.tk,h.tk0,h.tkj,h.refs,h.refsj,h.hcaps,h.capsj,h.hcaps2,h.capsj2,List.append_assoc]
        repeat' (first
         | ((first
          | (refine hrt.mono ?_<;>(rintro c H' ⟨rfl,hm1,rfl⟩))
          | (refine hl.mono ?_<;>(rintro c H' ⟨rfl,f2,m2,s2,rfl⟩))
          | (refine ⟨sd,?_⟩)
          | (refine ⟨by assumption,?_⟩))<;>(try simp only [go_sem,seval,n1,w13,g1,g2,g3,g4,g5,g6,h.len,h.gog,h.at0,h.atj,h.set0,h.setj,h.tk,h.tk0,h.tkj,h.refs,h.refsj,h.hcaps,h.capsj,h.hcaps2,h.capsj2,List.append_assoc]))
         | fail)
        first | exact srt_join hx m2 s2 (.refl n mid b f2) (srt_sub (m2.srt_out l3 (.inr (Nat.le_refl _))) (Nat.le_refl _) (by omega)) | exact ⟨((hm1.mono (by omega) (by omega)).trans (m2.mono (Nat.le_refl _) (by omega))),srt_join hx m2 s2 (.refl n mid b f2) (srt_sub (m2.srt_out l3 (.inr (Nat.le_refl _))) (Nat.le_refl _) (by omega))⟩ | exact ⟨_,((hm1.mono (by omega) (by omega)).trans (m2.mono (Nat.le_refl _) (by omega))),srt_join hx m2 s2 (.refl n mid b f2) (srt_sub (m2.srt_out l3 (.inr (Nat.le_refl _))) (Nat.le_refl _) (by omega)),rfl⟩
      ·have g3:¬(a:Int)<(s:Int):=by omega
       have l2':srt lt F a mid:=srt_sub l2 (by omega) (Nat.le_refl _)
       by_cases d2:e<b
       ·have g6:(e:Int)<(b:Int):=by omega
        refine run_sound Tryz.func153 mixed 200 _ _ (by kernel_rfl) ?_
        simp only [go_sem,seval,n1,w13,g1,g2,g3,g4,g5,g6,h.len,h.gog,h.at0,h.atj,h.set0,h.setj,h.tk,h.tk0,h.tkj,h.refs,h.refsj,h.hcaps,h.capsj,h.hcaps2,h.capsj2,List.append_assoc]
        repeat' (first
         | ((first
          | (refine hrt.mono ?_<;>(rintro c H' ⟨rfl,hm1,rfl⟩))
          | (refine (hr2 _ (Mv.refl n a mid F) d2).mono ?_<;>(rintro c H' ⟨rfl,f3,m3,s3,rfl⟩))
          | (refine ⟨by assumption,?_⟩))<;>(try simp only [go_sem,seval,n1,w13,g1,g2,g3,g4,g5,g6,h.len,h.gog,h.at0,h.atj,h.set0,h.setj,h.tk,h.tk0,h.tkj,h.refs,h.refsj,h.hcaps,h.capsj,h.hcaps2,h.capsj2,List.append_assoc]))
         | fail)
        first | exact srt_join hx (.refl n a mid F) l2' m3 s3 | exact ⟨((hm1.mono (by omega) (by omega)).trans (m3.mono (by omega) (Nat.le_refl _))),srt_join hx (.refl n a mid F) l2' m3 s3⟩ | exact ⟨_,((hm1.mono (by omega) (by omega)).trans (m3.mono (by omega) (Nat.le_refl _))),srt_join hx (.refl n a mid F) l2' m3 s3,rfl⟩
       ·have g6:¬(e:Int)<(b:Int):=by omega
        refine run_sound Tryz.func153 mixed 200 _ _ (by kernel_rfl) ?_
        simp only [go_sem,seval,n1,w13,g1,g2,g3,g4,g5,g6,h.len,h.gog,h.at0,h.atj,h.set0,h.setj,h.tk,h.tk0,h.tkj,h.refs,h.refsj,h.hcaps,h.capsj,h.hcaps2,h.capsj2,List.append_assoc]
        repeat' (first
         | ((first
          | (refine hrt.mono ?_<;>(rintro c H' ⟨rfl,hm1,rfl⟩))
          | (refine ⟨by assumption,?_⟩))<;>(try simp only [go_sem,seval,n1,w13,g1,g2,g3,g4,g5,g6,h.len,h.gog,h.at0,h.atj,h.set0,h.setj,h.tk,h.tk0,h.tkj,h.refs,h.refsj,h.hcaps,h.capsj,h.hcaps2,h.capsj2,List.append_assoc]))
         | fail)
        first | exact srt_join hx (.refl n a mid F) l2' (.refl n mid b F) (srt_sub l3 (Nat.le_refl _) (by omega)) | exact ⟨(hm1.mono (by omega) (by omega)),srt_join hx (.refl n a mid F) l2' (.refl n mid b F) (srt_sub l3 (Nat.le_refl _) (by omega))⟩ | exact ⟨_,(hm1.mono (by omega) (by omega)),srt_join hx (.refl n a mid F) l2' (.refl n mid b F) (srt_sub l3 (Nat.le_refl _) (by omega)),rfl⟩
end
section
variable {α:Type} {g sf:FuncId} {cs ds:List C} {n m:Nat} {Hs:(Nat→α)→List O} {lt:α→α→Bool}
theorem stable_R (hw:Wk lt) (hn:n≤1000000000000) (h:Srtr Tryz.prog g cs sf ds n m Hs lt) (f:Nat→α) :
  ACalls Tryz.prog 110 [.agg [.fn g cs,.xfn sf ds],.d (.int .i64 n)] (Hs f) (fun c H'=>c=.tup []∧∃f1,((List.range n).map f1).Perm ((List.range n).map f)∧srt lt f1 0 n∧H'=Hs f1):=by
 have hX:=h.ext [.box [.fn g cs,.xfn sf ds]] (by simp [O.refsLt,C.refsLt,h.capsj,h.capsj2,-List.all_eq_true])
 refine ACalls.enter (fn:=Tryz.f110) Tryz.func110 rfl (by show 2≤_;decide) ?_
 refine run_sound Tryz.func110 mixed 200 _ _ (by kernel_rfl) ?_
 simp only [go_sem,seval,h.len,h.gog,h.at0,h.atj,h.set0,h.setj,h.tk,h.tk0,h.tkj,h.refs,h.refsj,h.hcaps,h.capsj,h.hcaps2,h.capsj2,List.append_assoc]
 refine AW.lp [1,2,4] (fun u:Nat×Nat×(Nat→α)=>[(5,.d (.int .i64 (u.1:Int))),(6,.d (.int .i64 ((u.1:Int)+20)))]) (fun _ u=>Hs u.2.2++[.box [.fn g cs,.xfn sf ds]]) (fun u=>u.1=u.2.1 * 20∧u.1≤n∧Mv n 0 n f u.2.2∧blks lt u.2.2 20 n (u.2.1 * 20)) (fun u=>n - u.1) (0,0,f) ⟨by simp,Nat.zero_le _,.refl _ _ _ _,by simp [blks_0]⟩ (by refine ⟨by simp [mkS,h.len],by simp only [mkS,List.length_append,List.length_cons,List.length_nil,h.len,h.tkj,h.tk0,h.tk];first | done | rfl | (simp;done),by simp [mkS,O.refsLt,C.refsLt,C.refsLt1,h.len,h.refs,h.refsj,h.hcaps,h.capsj,h.hcaps2,h.capsj2,all_dmap,all_dcomp,-List.all_eq_true],?_⟩;simp [mkS,Abs.get,C.refsLtT,C.refsLt,C.refsLt1,h.len,h.hcaps,h.capsj,h.hcaps2,h.capsj2,-List.all_eq_true]) ?_
 rintro ⟨a,t,f1⟩ ⟨h1,h2,h3,h4⟩ hnext
 dsimp only at h1 h2 h3 h4 hnext ⊢
 have hnx:=fun a' t' f' s'=>hnext (a',t',f') s'
 clear hnext
 by_cases hc:a+20≤n
 ·have n1:(a:Int)+20≤(n:Int):=by omega
  have w1:IntKind.i64.wrap ((a:Int)+20+20)=(a:Int)+20+20:=wrap_ok (by omega) (by omega)
  have hi:=insertionSort_R hX hw (by omega) a (a+20) f1 (by omega) hc
  rw [Int.natCast_add] at hi
  refine run_sound Tryz.func110 mixed 200 _ _ (by kernel_rfl) ?_
  simp only [go_sem,seval,n1,h.len,h.gog,h.at0,h.atj,h.set0,h.setj,h.tk,h.tk0,h.tkj,h.refs,h.refsj,h.hcaps,h.capsj,h.hcaps2,h.capsj2,List.append_assoc]
  repeat' (first
   | ((refine hi.mono ?_<;>(rintro c H' ⟨rfl,f2,m2,s2,rfl⟩))<;>(try simp only [go_sem,seval,n1,w1,h.len,h.gog,h.at0,h.atj,h.set0,h.setj,h.tk,h.tk0,h.tkj,h.refs,h.refsj,h.hcaps,h.capsj,h.hcaps2,h.capsj2,List.append_assoc]))
   | fail)
  refine hnx (a+20) (t+1) f2 _ ⟨by dsimp only;omega,hc,h3.trans (m2.mono (Nat.zero_le _) hc),?_⟩ (by dsimp only;omega) (by refine ⟨by simp [mkS,h.len],by simp only [mkS,List.length_append,List.length_cons,List.length_nil,h.len,h.tkj,h.tk0,h.tk];first | done | rfl | (simp;done),by simp [mkS,O.refsLt,C.refsLt,C.refsLt1,h.len,h.refs,h.refsj,h.hcaps,h.capsj,h.hcaps2,h.capsj2,all_dmap,all_dcomp,-List.all_eq_true],?_⟩;simp [mkS,Abs.get,C.refsLtT,C.refsLt,C.refsLt1,h.len,h.hcaps,h.capsj,h.hcaps2,h.capsj2,-List.all_eq_true])
  rw [h1] at m2 s2
  exact blks_s (by omega) h4 m2 (by rw [Nat.min_eq_left (by omega)];exact s2)
 ·have n1:¬(a:Int)+20≤(n:Int):=by omega
  have hi:=insertionSort_R hX hw (by omega) a n f1 h2 (Nat.le_refl _)
  clear hnx
  refine run_sound Tryz.func110 mixed 12 _ _ (by kernel_rfl) ?_
  simp only [go_sem,seval,run.eq_1,n1,h.len,h.gog,h.at0,h.atj,h.set0,h.setj,h.tk,h.tk0,h.tkj,h.refs,h.refsj,h.hcaps,h.capsj,h.hcaps2,h.capsj2,List.append_assoc]
  repeat' (first
   | ((refine hi.mono ?_<;>(rintro c H' ⟨rfl,f2,m2,s2,rfl⟩))<;>(try simp only [go_sem,seval,n1,run.eq_1,h.len,h.gog,h.at0,h.atj,h.set0,h.setj,h.tk,h.tk0,h.tkj,h.refs,h.refsj,h.hcaps,h.capsj,h.hcaps2,h.capsj2,List.append_assoc]))
   | fail)
  have hb2:blks lt f2 20 n n:=by
   rw [h1] at m2 s2
   exact blks_all (by omega) h4 m2 s2 (by omega)
  have hM2:=h3.trans (m2.mono (Nat.zero_le _) (Nat.le_refl _))
  clear m2 s2 h1 h2 h3 h4 hc n1 hi
  refine AW.lp [1,2] (fun u:Nat×(Nat→α)=>[(4,.d (.int .i64 (u.1:Int)))]) (fun _ u=>Hs u.2++[.box [.fn g cs,.xfn sf ds]]) (fun u=>20≤u.1∧Mv n 0 n f u.2∧blks lt u.2 u.1 n n) (fun u=>n - u.1) (20,f2) ⟨Nat.le_refl _,hM2,hb2⟩ (by refine ⟨by simp [mkS,h.len],by simp only [mkS,List.length_append,List.length_cons,List.length_nil,h.len,h.tkj,h.tk0,h.tk];first | done | rfl | (simp;done),by simp [mkS,O.refsLt,C.refsLt,C.refsLt1,h.len,h.refs,h.refsj,h.hcaps,h.capsj,h.hcaps2,h.capsj2,all_dmap,all_dcomp,-List.all_eq_true],?_⟩;simp [mkS,Abs.get,C.refsLtT,C.refsLt,C.refsLt1,h.len,h.hcaps,h.capsj,h.hcaps2,h.capsj2,-List.all_eq_true]) ?_
  rintro ⟨bs,f3⟩ ⟨b1,b2,b3⟩ hnext
  dsimp only at b1 b2 b3 hnext ⊢
  have hny:=fun b' f' s'=>hnext (b',f') s'
  clear hnext
  by_cases hc:bs<n
  ·have n1:(bs:Int)<(n:Int):=by omega
   have w1:IntKind.i64.wrap (2 * (bs:Int))=2 * (bs:Int):=wrap_ok (by omega) (by omega)
   have w2:IntKind.i64.wrap ((bs:Int) * 2)=((bs * 2:Nat):Int):=wrapN _ (by omega) (by omega)
   refine run_sound Tryz.func110 mixed 200 _ _ (by kernel_rfl) ?_
   simp only [go_sem,seval,n1,w1,h.len,h.gog,h.at0,h.atj,h.set0,h.setj,h.tk,h.tk0,h.tkj,h.refs,h.refsj,h.hcaps,h.capsj,h.hcaps2,h.capsj2,List.append_assoc]
   refine AW.lp [1,2,4] (fun u:Nat×Nat×(Nat→α)=>[(5,.d (.int .i64 (u.1:Int))),(6,.d (.int .i64 ((u.1:Int)+2 * (bs:Int))))]) (fun _ u=>Hs u.2.2++[.box [.fn g cs,.xfn sf ds]]) (fun u=>u.1=u.2.1 * (2 * bs)∧u.1≤n∧Mv n 0 n f u.2.2∧blks lt u.2.2 (2 * bs) n (u.2.1 * (2 * bs))∧rest lt u.2.2 bs n (2 * u.2.1)) (fun u=>n - u.1) (0,0,f3) ⟨by simp,Nat.zero_le _,b2,by simp [blks_0],rest_of b3⟩ (by refine ⟨by simp [mkS,h.len],by simp only [mkS,List.length_append,List.length_cons,List.length_nil,h.len,h.tkj,h.tk0,h.tk];first | done | rfl | (simp;done),by simp [mkS,O.refsLt,C.refsLt,C.refsLt1,h.len,h.refs,h.refsj,h.hcaps,h.capsj,h.hcaps2,h.capsj2,all_dmap,all_dcomp,-List.all_eq_true],?_⟩;simp [mkS,Abs.get,C.refsLtT,C.refsLt,C.refsLt1,h.len,h.hcaps,h.capsj,h.hcaps2,h.capsj2,-List.all_eq_true]) ?_
   rintro ⟨a,t,f4⟩ ⟨h5,h6,h7,h8,h9⟩ hnext
   dsimp only at h5 h6 h7 h8 h9 hnext ⊢
   have hnz:=fun a' t' f' s'=>hnext (a',t',f') s'
   clear hnext
   have w3:IntKind.i64.wrap ((a:Int)+(bs:Int))=((a+bs:Nat):Int):=wrapN _ (by omega) (by omega)
   by_cases hd:a+2 * bs≤n
   ·have n2:(a:Int)+2 * (bs:Int)≤(n:Int):=by omega
    have w4:IntKind.i64.wrap ((a:Int)+2 * (bs:Int)+2 * (bs:Int))=(a:Int)+2 * (bs:Int)+2 * (bs:Int):=wrap_ok (by omega) (by omega)
    obtain ⟨r1,r2⟩:=rest_two h9 (by rw [←h5];omega)
    rw [←h5] at r1 r2
    rw [Nat.min_eq_left hd] at r2
    have hs:=symMerge_R hw (by omega) (a+2 * bs - a) _ _ hX a (a+bs) (a+2 * bs) f4 (Nat.le_refl _) (by omega) (by omega) hd r1 r2
    have hcast:((a+2 * bs:Nat):Int)=(a:Int)+2 * (bs:Int):=by omega
    rw [hcast] at hs
    refine run_sound Tryz.func110 mixed 200 _ _ (by kernel_rfl) ?_
    simp only [go_sem,seval,n2,w1,w3,h.len,h.gog,h.at0,h.atj,h.set0,h.setj,h.tk,h.tk0,h.tkj,h.refs,h.refsj,h.hcaps,h.capsj,h.hcaps2,h.capsj2,List.append_assoc]
    repeat' (first
     | ((refine hs.mono ?_<;>(rintro c H' ⟨rfl,f5,m5,s5,rfl⟩))<;>(try simp only [go_sem,seval,n2,w1,w3,w4,h.len,h.gog,h.at0,h.atj,h.set0,h.setj,h.tk,h.tk0,h.tkj,h.refs,h.refsj,h.hcaps,h.capsj,h.hcaps2,h.capsj2,List.append_assoc]))
     | fail)
    refine hnz (a+2 * bs) (t+1) f5 _ ⟨by dsimp only;rw [Nat.add_mul t 1 (2 * bs),Nat.one_mul,←h5],hd,h7.trans (m5.mono (Nat.zero_le _) hd),?_,?_⟩ (by dsimp only;omega) (by dsimp only;rw [hcast];exact by refine ⟨by simp [mkS,h.len],by simp only [mkS,List.length_append,List.length_cons,List.length_nil,h.len,h.tkj,h.tk0,h.tk];first | done | rfl | (simp;done),by simp [mkS,O.refsLt,C.refsLt,C.refsLt1,h.len,h.refs,h.refsj,h.hcaps,h.capsj,h.hcaps2,h.capsj2,all_dmap,all_dcomp,-List.all_eq_true],?_⟩;simp [mkS,Abs.get,C.refsLtT,C.refsLt,C.refsLt1,h.len,h.hcaps,h.capsj,h.hcaps2,h.capsj2,-List.all_eq_true])
    ·rw [h5] at m5 s5
     exact blks_s (by omega) h8 m5 (by rw [Nat.min_eq_left (by rw [←h5];omega)];exact s5)
    ·exact rest_s h9 (t':=2 * (t+1)) (by omega) m5 (by rw [show 2 * (t+1)=2 * t+2 by omega,two_mul_blk2,←h5];exact Nat.le_refl _)
   ·have n2:¬(a:Int)+2 * (bs:Int)≤(n:Int):=by omega
    clear hnz
    by_cases he:a+bs<n
    ·have n3:((a+bs:Nat):Int)<(n:Int):=by omega
     have n3':(a:Int)+(bs:Int)<(n:Int):=by omega
     obtain ⟨r1,r2⟩:=rest_two h9 (by rw [←h5];omega)
     rw [←h5] at r1 r2
     rw [Nat.min_eq_right (by omega)] at r2
     have hs:=symMerge_R hw (by omega) (n - a) _ _ hX a (a+bs) n f4 (Nat.le_refl _) (by omega) he (Nat.le_refl _) r1 r2
     refine run_sound Tryz.func110 mixed 200 _ _ (by kernel_rfl) ?_
     simp only [go_sem,seval,n2,w3,n3,n3',h.len,h.gog,h.at0,h.atj,h.set0,h.setj,h.tk,h.tk0,h.tkj,h.refs,h.refsj,h.hcaps,h.capsj,h.hcaps2,h.capsj2,List.append_assoc]
     repeat' (first
      | ((refine hs.mono ?_<;>(rintro c H' ⟨rfl,f5,m5,s5,rfl⟩))<;>(try simp only [go_sem,seval,n2,w2,w3,n3,n3',h.len,h.gog,h.at0,h.atj,h.set0,h.setj,h.tk,h.tk0,h.tkj,h.refs,h.refsj,h.hcaps,h.capsj,h.hcaps2,h.capsj2,List.append_assoc]))
      | fail)
     have hM5:=h7.trans (m5.mono (Nat.zero_le _) (Nat.le_refl _))
     rw [h5] at m5 s5
     have hbl:=blks_all (k:=2 * bs) (by omega) h8 m5 s5 (by rw [←h5];omega)
     all_goals refine hny (bs * 2) f5 _ ⟨by omega,hM5,by dsimp only;rw [Nat.mul_comm bs 2];exact hbl⟩ (by dsimp only;omega) (by refine ⟨by simp [mkS,h.len],by simp only [mkS,List.length_append,List.length_cons,List.length_nil,h.len,h.tkj,h.tk0,h.tk];first | done | rfl | (simp;done),by simp [mkS,O.refsLt,C.refsLt,C.refsLt1,h.len,h.refs,h.refsj,h.hcaps,h.capsj,h.hcaps2,h.capsj2,all_dmap,all_dcomp,-List.all_eq_true],?_⟩;simp [mkS,Abs.get,C.refsLtT,C.refsLt,C.refsLt1,h.len,h.hcaps,h.capsj,h.hcaps2,h.capsj2,-List.all_eq_true])
    ·have n3:¬((a+bs:Nat):Int)<(n:Int):=by omega
     have n3':¬(a:Int)+(bs:Int)<(n:Int):=by omega
     have hl:=rest_last h9 (by rw [←h5];omega)
     refine run_sound Tryz.func110 mixed 200 _ _ (by kernel_rfl) ?_
     simp only [go_sem,seval,n2,w3,n3,n3',h.len,h.gog,h.at0,h.atj,h.set0,h.setj,h.tk,h.tk0,h.tkj,h.refs,h.refsj,h.hcaps,h.capsj,h.hcaps2,h.capsj2,List.append_assoc]
     repeat' (first
      | (simp (disch:=omega) only [wrap_ok])
      | fail)
     have hbl:=blks_all (k:=2 * bs) (by omega) h8 (.refl _ _ _ _) hl (by rw [←h5];omega)
     all_goals refine hny (bs * 2) f4 _ ⟨by omega,h7,by dsimp only;rw [Nat.mul_comm bs 2];exact hbl⟩ (by dsimp only;omega) (by refine ⟨by simp [mkS,h.len],by simp only [mkS,List.length_append,List.length_cons,List.length_nil,h.len,h.tkj,h.tk0,h.tk];first | done | rfl | (simp;done),by simp [mkS,O.refsLt,C.refsLt,C.refsLt1,h.len,h.refs,h.refsj,h.hcaps,h.capsj,h.hcaps2,h.capsj2,all_dmap,all_dcomp,-List.all_eq_true],?_⟩;simp [mkS,Abs.get,C.refsLtT,C.refsLt,C.refsLt1,h.len,h.hcaps,h.capsj,h.hcaps2,h.capsj2,-List.all_eq_true])
  ·have n1:¬(bs:Int)<(n:Int):=by omega
   have hP:=b2.perm
   have hS:=blks_done b3 (by omega)
   refine run_sound Tryz.func110 mixed 200 _ _ (by kernel_rfl) ?_
   simp only [go_sem,seval,n1,h.len,h.gog,h.at0,h.atj,h.set0,h.setj,h.tk,h.tk0,h.tkj,h.refs,h.refsj,h.hcaps,h.capsj,h.hcaps2,h.capsj2,List.append_assoc]
   repeat' (first
    | ((first
     | (refine ⟨sd,?_⟩)
     | (refine ⟨by assumption,?_⟩))<;>(try simp only [go_sem,seval,n1,h.len,h.gog,h.at0,h.atj,h.set0,h.setj,h.tk,h.tk0,h.tkj,h.refs,h.refsj,h.hcaps,h.capsj,h.hcaps2,h.capsj2,List.append_assoc]))
    | assumption)
   all_goals first | exact hS | exact ⟨hP,hS⟩ | exact ⟨_,hP,hS,rfl⟩
end
set_option maxHeartbeats 4000000
def fcE (f:FcV):List D:=f.fc.enc
@[go_sem] theorem fcE_len (f:FcV):(fcE f).length=2:=Fc.enc_len _
theorem fcE_eq (f:FcV):fcE f=[.str f.1,.sl (f.2.map V.enc)]:=by unfold fcE;rw [Fc.enc_eq];simp only [FcV.fc,enc_tms]
theorem orderF_fn (a b:FcV):Gives Tryz.prog 69 [.agg (fcE a),.agg (fcE b)] (.d (.int .i64 (a.cmp b))):=orderFacts_fn a.1 b.1 a.2 b.2
noncomputable def infF:TypeInfo:=(Tryz.prog.info? 48).get (by kernel_rfl)
noncomputable def infFS:TypeInfo:=(Tryz.prog.info? 37).get (by kernel_rfl)
theorem infF_K (n:Nat) (h2:2≤n):Lib.swapperK n infF 25=9:=by
 have a:infF.hasPointers=true:=by kernel_rfl
 have b:infF.bytes=40:=by kernel_rfl
 have c:(n == 0)=false:=by simp;omega
 have d:(n == 1)=false:=by simp;omega
 simp [Lib.swapperK,a,b,c,d]
theorem sortFacts1_fn (xs:List (List D)) (a b:FcV) (i j:Nat) (hi:xs[i]? = some (fcE a)) (hj:xs[j]? = some (fcE b)):ACalls Tryz.prog 68 [.d (.int .i64 i),.d (.int .i64 j),.cptr [.sl xs]] [] (fun c _=>c=.d (.bool (decide (a.cmp b<0)))):=by
 have h1:=(List.getElem?_eq_some_iff.1 hi).1
 have h2:=(List.getElem?_eq_some_iff.1 hj).1
 have n1:(i:Int)<(xs.length:Int):=by omega
 have n2:(j:Int)<(xs.length:Int):=by omega
 have ho:=orderF_fn a b
 refine ACalls.enter (fn:=Tryz.f68) Tryz.func68 rfl (by show 3≤_;decide) ?_
 refine run_sound Tryz.func68 mixed 200 _ _ (by kernel_rfl) ?_
 simp only [go_sem,seval,n1,n2,idx_of hi,idx_of hj]
 repeat' (first
  | ((refine ho.callQ rfl ?_)<;>(try simp only [go_sem,seval,n1,n2,idx_of hi,idx_of hj]))
  | fail)
theorem sliceStableF {H:List O} {rb r q e:Nat} {xs:List FcV} (hb:H[rb]? = some (.box [.own r q])) (hr:H[r]? = some (.buf q 2 e (xs.map fcE))) (hne:rb≠r) (hrefs:H.all (O.refsLt H.length)=true) (hn:xs.length≤1000000000000) :
  ACalls Tryz.prog 67 [.ifc 37 (.own r q),.fn 68 [.ptr rb 0]] H (fun c H'=>c=.tup []∧∃ys:List FcV,ys.Perm xs∧ys.Pairwise (fun a b=>decide (b.cmp a<0)=false)∧H'=H.set r (.buf q 2 e (ys.map fcE))):=by
 have hz:infF.size=2:=by kernel_rfl
 have hw:Wk (fun a b:FcV=>decide (a.cmp b<0)):=FcV.cmp_lin.wk
 have hbl:=(List.getElem?_eq_some_iff.1 hb).1
 have hrl:=(List.getElem?_eq_some_iff.1 hr).1
 have h:=sliceStable_calls Tryz.laysGt8 37 48 infFS infF (by kernel_rfl) (by kernel_rfl) (by kernel_rfl) (by kernel_rfl) 25 (fun _=>by kernel_rfl) (fun _=>by kernel_rfl) 143 144 151
  (by kernel_rfl) (by kernel_rfl) (fun n h2=>by rw [infF_K n h2];kernel_rfl) false (fun args W=>run_callFunc_extern Tryz.func151 (by kernel_rfl) (by kernel_rfl) (by kernel_rfl) (e:=Extern.ReflectliteSwapper.swap false) (by kernel_rfl) args W)
  fcE (fun x=>(fcE_len x).trans hz.symm) (fun a b=>decide (a.cmp b<0)) (g:=68) (caps:=[.ptr rb 0]) (H:=H) (r:=r) (q:=q) (e:=e) (xs:=xs) (by kernel_rfl) (by simp [C.refsLt1,hbl]) hrefs (by rw [hz];exact hr) hn
  (fun caps2 n m Hs h1 S f0=>stable_R hw h1 S f0)
  (fun f X i j hi hj=>lessB hb hne hrl X (sortFacts1_fn _ (f i) (f j) i j (getD_map_range fcE f hi) (getD_map_range fcE f hj)))
 rw [hz] at h
 exact h
theorem sortFacts_fn (l:List FcV) (hl:l.length≤2000000):Gives Tryz.prog 39 [.sl (l.map fcE)] (.d (.sl ((sortC FcV.cmp l).map fcE))):=by
 have hmx:maxLen=9223372036854775807:=rfl
 have hmap:∀x:List FcV,(x.map fcE).length=x.length:=fun x=>List.length_map _
 refine ACalls.enter (fn:=Tryz.f39) Tryz.func39 rfl (by show 1≤_;decide) ?_
 refine run_sound Tryz.func39 mixed 3 _ _ (by kernel_rfl) ?_
 simp only [go_sem,seval,run.eq_1]
 refine AW.regS ?_
 simp only [go_sem,seval,hmap]
 refine ⟨by omega,by omega,?_⟩
 have hst:ACalls Tryz.prog 67 [.ifc 37 (.own 0 1),.fn 68 [.ptr 1 0]] [.buf 1 2 48 (l.map fcE),.box [.own 0 1]] _:=sliceStableF rfl rfl (by decide) rfl (by omega)
 refine run_sound Tryz.func39 mixed 2 _ _ (by kernel_rfl) ?_
 simp only [go_sem,seval,run.eq_1]
 refine hst.mono ?_
 rintro c H' ⟨rfl,ys,hp,hs,rfl⟩
 simp only [go_sem,seval,run.eq_1]
 refine AW.frzBox 1 0 0 rfl rfl rfl (by decide) ?_
 refine run_sound Tryz.func39 mixed 2 _ _ (by kernel_rfl) ?_
 simp only [go_sem,seval,run.eq_1]
 refine AW.adopt 4 2 48 (by decide) rfl ?_
 have hyl:ys.length=l.length:=hp.length_eq
 have hR:ddC FcV.cmp none ys=sortC FcV.cmp l:=ddC_sort FcV.cmp_lin (fun z=>hp.mem_iff) (hs.imp (fun h=>by simpa using h))
 rw [←hR]
 refine run_sound Tryz.func39 mixed 200 _ _ (by kernel_rfl) ?_
 simp only [go_sem,seval,hmap]
 refine AW.rng ys [3,15,16] 17 15 (fun p:List FcV=>[(4,.own 2 (ddC FcV.cmp none p).length)]) (fun _ p=>[.dead,.box [.d (.sl (ys.map fcE))],.grow (ddC FcV.cmp none p).length 2 48 ((ddC FcV.cmp none p).map fcE)]) (fun r p=>ys=p++r) [] rfl (by simp) rfl (by refine ⟨by simp [mkS,ddC],by simp [mkS,ddC],by simp only [mkS,List.all_cons,List.all_nil,O.refsLt,C.refsLt,C.refsLt1,all_dmap];first | done | rfl | (simp;done),?_⟩;simp [mkS,Abs.get,C.refsLtT,C.refsLt,C.refsLt1,ddC]) (fun i x r p hxi hdr hlt hm hinv hnext=>?_) (fun p hinv=>?_)
 ·have hdl:=congrArg List.length hdr
  have hil:=congrArg List.length hinv
  simp only [List.length_drop,List.length_cons,List.length_append] at hdl hil
  have hip:i=p.length:=by omega
  have hnx:=fun s'=>hnext (p++[x]) s' (by rw [hinv];simp)
  clear hnext
  have hdd:=ddC_snoc (c:=FcV.cmp) p none x
  have hddl:(ddC FcV.cmp none p).length≤p.length:=by
   have key:∀(q:List FcV) (o:Option FcV),(ddC FcV.cmp o q).length≤q.length:=fun q=>by
    induction q with
    | nil=>intro o;simp [ddC]
    | cons z q ih =>
     intro o
     cases o with
     | none=>simp only [ddC,List.length_cons];have:=ih (some z);omega
     | some w=>simp only [ddC];split<;>simp only [List.length_cons]<;>have:=ih (some z)<;>omega
   exact key p none
  rcases List.eq_nil_or_concat p with rfl | ⟨p',y,rfl⟩
  ·obtain rfl:i=0:=by simpa using hip
   have hd1:ddC FcV.cmp none ([]++[x])=[x]:=rfl
   have hd0:ddC FcV.cmp none ([]:List FcV)=[]:=rfl
   rw [hd1] at hnx
   rw [hd0]
   have z0:((0:Nat):Int)=0:=rfl
   have hlt0:(0:Int)<(ys.length:Int):=by omega
   rw [z0] at hnx
   refine run_sound Tryz.func39 mixed 200 _ _ (by kernel_rfl) ?_
   simp only [go_sem,seval,hlt0,idx_of hxi,z0]
   repeat' (first
    | (simp (disch:=omega) only [wrap_ok])
    | ((refine ⟨sd,?_⟩)<;>(try simp only [go_sem,seval,hlt0,idx_of hxi,z0]))
    | fail)
   refine hnx _ (by refine ⟨by simp [mkS],by simp [mkS],by simp only [mkS,List.all_cons,List.all_nil,O.refsLt,C.refsLt,C.refsLt1,all_dmap];first | done | rfl | (simp;done),?_⟩;simp [mkS,Abs.get,C.refsLtT,C.refsLt,C.refsLt1])
  ·rw [List.concat_eq_append] at *
   have hi0:¬(i:Int)=0:=by rw [hip];simp;omega
   have hw1:IntKind.i64.wrap ((i:Int) - 1)=((i - 1:Nat):Int):=by rw [wrap_ok (by omega) (by omega)];omega
   have n2:((i - 1:Nat):Int)<(ys.length:Int):=by omega
   have hyi:ys[i - 1]? = some y:=by
    rw [hinv,hip]
    simp
   have ho:=orderF_fn y x
   have hlast:(((none:Option FcV).toList++(p'++[y])).getLast?)=some y:=by simp
   rw [hlast] at hdd
   dsimp only at hdd
   by_cases e:y.cmp x=0
   ·rw [if_pos e,List.append_nil] at hdd
    rw [e] at ho
    rw [hdd] at hnx
    refine run_sound Tryz.func39 mixed 200 _ _ (by kernel_rfl) ?_
    simp only [go_sem,seval,hlt,idx_of hxi,hi0,hw1,n2,idx_of hyi,hmap]
    repeat' (first
     | (simp (disch:=omega) only [wrap_ok])
     | ((refine ho.callQ rfl ?_)<;>(try simp only [go_sem,seval,hlt,idx_of hxi,hi0,hw1,n2,idx_of hyi,hmap]))
     | fail)
    all_goals refine hnx _ (by refine ⟨by simp [mkS],by simp [mkS],by simp only [mkS,List.all_cons,List.all_nil,O.refsLt,C.refsLt,C.refsLt1,all_dmap];first | done | rfl | (simp;done),?_⟩;simp [mkS,Abs.get,C.refsLtT,C.refsLt,C.refsLt1])
   ·rw [if_neg e] at hdd
    rw [hdd] at hnx
    refine run_sound Tryz.func39 mixed 200 _ _ (by kernel_rfl) ?_
    simp only [go_sem,seval,hlt,idx_of hxi,hi0,hw1,n2,idx_of hyi,hmap]
    repeat' (first
     | ((refine br_n (fun hq=>?_) (fun hq=>?_))<;>(try simp only [go_sem,seval,hlt,idx_of hxi,hi0,hw1,n2,idx_of hyi,hmap,e,hq]))
     | (simp (disch:=omega) only [wrap_ok])
     | ((first
      | (refine ho.callQ rfl ?_)
      | (refine ⟨sd,?_⟩))<;>(try simp only [go_sem,seval,hlt,idx_of hxi,hi0,hw1,n2,idx_of hyi,hmap,e]))
     | fail)
    all_goals first | (exfalso;exact e (by assumption)) | skip
    all_goals refine hnx _ (by refine ⟨by simp [mkS],by simp [mkS],by simp only [mkS,List.all_cons,List.all_nil,O.refsLt,C.refsLt,C.refsLt1,all_dmap];first | done | rfl | (simp;done),?_⟩;simp [mkS,Abs.get,C.refsLtT,C.refsLt,C.refsLt1])
 ·rw [List.append_nil] at hinv
  rw [hinv]
  refine run_sound Tryz.func39 mixed 200 _ _ (by kernel_rfl) ?_
  simp only [go_sem,seval]
theorem half_u (x y:Nat) (h:x+y≤1000000000):IntKind.i64.wrap (shrI .u64 (IntKind.u64.wrap ((x:Int)+(y:Int))) 1)=(((x+y) / 2:Nat):Int):=halfN x y (by omega)
theorem search_fn {g:FuncId} {caps:List C} {m:Nat} {H:List O} {p:Nat→Bool} (n:Nat) (hn:n≤100000000) (h:CloR Tryz.prog g caps m (fun i:Nat=>D.int .i64 (i:Int)) H (fun i=>i<n) (fun i=>.d (.bool (p i)))) (hm:∀i j,i≤j→j<n→p i=true→p j=true) :
  ACalls Tryz.prog 70 [.d (.int .i64 n),.fn g caps] H (fun c H'=>c=.d (.int .i64 (srch p n:Int))∧H'=H):=by
 obtain ⟨K,hK⟩:∃K,srch p n=K:=⟨_,rfl⟩
 rw [hK]
 refine ACalls.enter (fn:=Tryz.f70) Tryz.func70 rfl (by show 2≤_;decide) ?_
 refine run_sound Tryz.func70 mixed 200 _ _ (by kernel_rfl) ?_
 simp only [go_sem,seval,h.len,h.go,h.at0,h.atj,h.set0,h.setj,h.tk,h.tk0,h.tkj,h.refs,h.refsj,h.hcaps,h.capsj,List.append_assoc]
 refine AW.lp [1] (fun u:Nat×Nat=>[(5,.d (.int .i64 (u.1:Int))),(6,.d (.int .i64 (u.2:Int)))]) (fun H _=>H) (fun u=>u.1≤u.2∧u.2≤n∧(∀i,i<u.1→p i=false)∧(∀i,u.2≤i→i<n→p i=true)) (fun u=>u.2 - u.1) (0,n) ⟨Nat.zero_le _,Nat.le_refl _,fun i hi=>absurd hi (Nat.not_lt_zero _),fun i a b=>by omega⟩ (by refine ⟨by simp [mkS,h.len],by simp only [mkS,List.length_append,List.length_cons,List.length_nil,h.len,h.tkj,h.tk0,h.tk];first | done | rfl | (simp;done),by simp [mkS,O.refsLt,C.refsLt,C.refsLt1,h.len,h.refs,h.refsj,all_dmap,all_dcomp,-List.all_eq_true],?_⟩;simp [mkS,Abs.get,C.refsLtT,C.refsLt,C.refsLt1,h.len,h.hcaps,h.capsj,-List.all_eq_true]) ?_
 rintro ⟨i,j⟩ ⟨h1,h2,h3,h4⟩ hnext
 dsimp only at h1 h2 h3 h4 hnext ⊢
 by_cases hij:i<j
 ·have n1:(i:Int)<(j:Int):=by omega
  have hh:=half_u i j (by omega)
  have w0:IntKind.i64.wrap ((i:Int)+(j:Int))=(i:Int)+(j:Int):=wrap_ok (by omega) (by omega)
  have hnx:=fun i' j' s'=>hnext (i',j') s'
  clear hnext
  have hq:(i+j) / 2<n:=by omega
  have hc:=h.call ((i+j) / 2) hq
  cases hp:p ((i+j) / 2) with
  | false =>
   rw [hp] at hc
   refine run_sound Tryz.func70 mixed 200 _ _ (by kernel_rfl) ?_
   simp only [go_sem,seval,n1,w0,hh,h.len,h.go,h.at0,h.atj,h.set0,h.setj,h.tk,h.tk0,h.tkj,h.refs,h.refsj,h.hcaps,h.capsj,List.append_assoc]
   repeat' (first
    | (simp (disch:=omega) only [wrap_ok])
    | ((refine hc.mono ?_<;>(rintro c H' ⟨rfl,rfl⟩))<;>(try simp only [go_sem,seval,n1,w0,hh,h.len,h.go,h.at0,h.atj,h.set0,h.setj,h.tk,h.tk0,h.tkj,h.refs,h.refsj,h.hcaps,h.capsj,List.append_assoc]))
    | fail)
   refine hnx ((i+j) / 2+1) j _ ⟨by omega,h2,fun x hx=>?_,h4⟩ (by dsimp only;omega) (by refine ⟨by simp [mkS,h.len],by simp only [mkS,List.length_append,List.length_cons,List.length_nil,h.len,h.tkj,h.tk0,h.tk];first | done | rfl | (simp;done),by simp [mkS,O.refsLt,C.refsLt,C.refsLt1,h.len,h.refs,h.refsj,all_dmap,all_dcomp,-List.all_eq_true],?_⟩;simp [mkS,Abs.get,C.refsLtT,C.refsLt,C.refsLt1,h.len,h.hcaps,h.capsj,-List.all_eq_true])
   cases hpx:p x with
   | false=>rfl
   | true=>rw [←hp];exact (hm x _ (by omega) hq hpx).symm
  | true =>
   rw [hp] at hc
   refine run_sound Tryz.func70 mixed 200 _ _ (by kernel_rfl) ?_
   simp only [go_sem,seval,n1,w0,hh,h.len,h.go,h.at0,h.atj,h.set0,h.setj,h.tk,h.tk0,h.tkj,h.refs,h.refsj,h.hcaps,h.capsj,List.append_assoc]
   repeat' (first
    | ((refine hc.mono ?_<;>(rintro c H' ⟨rfl,rfl⟩))<;>(try simp only [go_sem,seval,n1,w0,hh,h.len,h.go,h.at0,h.atj,h.set0,h.setj,h.tk,h.tk0,h.tkj,h.refs,h.refsj,h.hcaps,h.capsj,List.append_assoc]))
    | fail)
   refine hnx i ((i+j) / 2) _ ⟨by omega,by omega,h3,fun x hx hxn=>hm _ x hx hxn hp⟩ (by dsimp only;omega) (by refine ⟨by simp [mkS,h.len],by simp only [mkS,List.length_append,List.length_cons,List.length_nil,h.len,h.tkj,h.tk0,h.tk];first | done | rfl | (simp;done),by simp [mkS,O.refsLt,C.refsLt,C.refsLt1,h.len,h.refs,h.refsj,all_dmap,all_dcomp,-List.all_eq_true],?_⟩;simp [mkS,Abs.get,C.refsLtT,C.refsLt,C.refsLt1,h.len,h.hcaps,h.capsj,-List.all_eq_true])
 ·have n1:¬(i:Int)<(j:Int):=by omega
  obtain rfl:i=j:=by omega
  have hki:K=i:=by rw [←hK];exact srch_eq h2 h3 (fun hlt=>h4 i (Nat.le_refl _) hlt)
  rw [hki]
  refine run_sound Tryz.func70 mixed 200 _ _ (by kernel_rfl) ?_
  simp only [go_sem,seval,n1,h.len,h.go,h.at0,h.atj,h.set0,h.setj,h.tk,h.tk0,h.tkj,h.refs,h.refsj,h.hcaps,h.capsj,List.append_assoc]
theorem hasFact1_clo (l:List FcV) (f:FcV):CloR Tryz.prog 71 [.ptr 0 0,.ptr 1 0] 2 (fun i:Nat=>D.int .i64 (i:Int)) [.box [.d (.sl (l.map fcE))],.box ((fcE f).map .d)] (fun i=>i<l.length) (fun i=>.d (.bool (geC FcV.cmp l f i))):=by
 have hmap:∀x:List FcV,(x.map fcE).length=x.length:=fun x=>List.length_map _
 refine ⟨by kernel_rfl,rfl,rfl,by simp only [List.all_cons,List.all_nil,O.refsLt,all_dmap,C.refsLt,C.refsLt1];rfl,fun i hi=>?_⟩
 have hb:l[i]? = some l[i]:=List.getElem?_eq_getElem hi
 have hg:geC FcV.cmp l f i=decide (0≤l[i].cmp f):=by unfold geC;rw [hb]
 rw [hg]
 generalize l[i]=b at hb
 have n1:(i:Int)<(l.length:Int):=by omega
 have ho:=orderF_fn b f
 refine ACalls.enter (fn:=Tryz.f71) Tryz.func71 rfl (by show 3≤_;decide) ?_
 refine run_sound Tryz.func71 mixed 200 _ _ (by kernel_rfl) ?_
 simp only [go_sem,seval,hmap,n1,idx_of hb]
 repeat' (first
  | ((refine ho.callQ rfl ?_)<;>(try simp only [go_sem,seval,hmap,n1,idx_of hb]))
  | fail)
 all_goals simp only [all_dmap]
theorem hasFact_fn (l:List FcV) (f:FcV) (hl:l.length≤9000000) (ha:ascC FcV.cmp l):Gives Tryz.prog 40 [.sl (l.map fcE),.agg (fcE f)] (.d (.bool (decide (f∈l)))):=by
 have hmap:∀x:List FcV,(x.map fcE).length=x.length:=fun x=>List.length_map _
 have hs:=search_fn l.length (by omega) (hasFact1_clo l f) (geC_mono FcV.cmp_lin ha f)
 have hh:=srch_has FcV.cmp_lin ha f
 generalize srch (geC FcV.cmp l f) l.length=k at hs hh
 cases hb:l[k]? with
 | none =>
  have hk:=List.getElem?_eq_none_iff.1 hb
  have n1:¬(k:Int)<(l.length:Int):=by omega
  rw [hb] at hh
  rw [decide_eq_false (fun h=>hh.2 h)]
  refine ACalls.enter (fn:=Tryz.f40) Tryz.func40 rfl (by show 2≤_;decide) ?_
  refine run_sound Tryz.func40 mixed 200 _ _ (by kernel_rfl) ?_
  simp only [go_sem,seval,hmap,n1]
  repeat' (first
   | ((refine hs.mono ?_<;>(rintro c H' ⟨rfl,rfl⟩))<;>(try simp only [go_sem,seval,hmap,n1]))
   | fail)
 | some b =>
  have hk:=(List.getElem?_eq_some_iff.1 hb).1
  have n1:(k:Int)<(l.length:Int):=by omega
  rw [hb] at hh
  dsimp only at hh
  have ho:=orderF_fn b f
  rw [show decide (f∈l)=decide (b.cmp f=0) from by rw [Bool.eq_iff_iff,decide_eq_true_eq,decide_eq_true_eq];exact hh.symm]
  refine ACalls.enter (fn:=Tryz.f40) Tryz.func40 rfl (by show 2≤_;decide) ?_
  refine run_sound Tryz.func40 mixed 200 _ _ (by kernel_rfl) ?_
  simp only [go_sem,seval,hmap,n1,idx_of hb]
  repeat' (first
   | ((first
    | (refine hs.mono ?_<;>(rintro c H' ⟨rfl,rfl⟩))
    | (refine ho.callQ rfl ?_))<;>(try simp only [go_sem,seval,hmap,n1,idx_of hb]))
   | fail)
theorem uniL_inv {s r:List Tm} {x:Tm} {i:Nat} (hdr:s.drop i=x :: r):i=s.length - (r.length+1)∧r.length+1≤s.length∧i<s.length:=by
 have:=congrArg List.length hdr
 simp only [List.length_drop,List.length_cons] at this
 omega
theorem iUniverseOk_fn (s:List Tm) (hw:∀t,t∈s→wtL t.enc≤1048576) (hl:s.length≤9000000):Gives Tryz.prog 55 [.sl (s.map Tm.enc)] (.d (.bool (uniOk s))):=by
 have hmap:(s.map Tm.enc).length=s.length:=List.length_map _
 by_cases h1:1≤s.length
 ·have n1:¬(s.length:Int)<1:=by omega
  by_cases h2:s.length≤8
  ·have n2:¬(8:Int)<(s.length:Int):=by omega
   have hu:uniOk s=uniL none s:=by unfold uniOk;simp [h1,h2]
   rw [hu]
   refine ACalls.enter (fn:=Tryz.f55) Tryz.func55 rfl (by show 1≤_;decide) ?_
   refine run_sound Tryz.func55 mixed 200 _ _ (by kernel_rfl) ?_
   simp only [go_sem,seval,hmap,n1,n2]
   refine AW.rng s [0,13,14] 15 13 (fun _:Option V=>[]) (fun H _=>H) (fun r p=>uniL p r=uniL none s∧(r.length=s.length→p=none)∧(r.length<s.length→∃y:Tm,s[s.length - r.length - 1]? = some y∧p=some y.V∧tmOk y=true)) none rfl (by simp) ⟨rfl,fun _=>rfl,fun h=>absurd h (Nat.lt_irrefl _)⟩ (by refine ⟨by simp [mkS],by simp [mkS],by simp [mkS,O.refsLt,C.refsLt,C.refsLt1],?_⟩;simp [mkS,Abs.get,C.refsLtT,C.refsLt,C.refsLt1]) (fun i x r p hxi hdr hlt hm hinv hnext=>?_) (fun p hinv=>?_)
   ·obtain ⟨i1,i2,i3⟩:=hinv
    obtain ⟨hi1,hi2,hi3⟩:=uniL_inv hdr
    have hto:Gives Tryz.prog 95 [.agg x.enc] (.d (.bool x.ground)):=iIsGround_fn x (hw x (List.mem_of_getElem? hxi))
    have ho:=hto
    simp only [List.length_cons,uniL] at i1 i2 i3
    cases hg:x.ground with
    | false =>
     rw [hg] at hto ho
     have c3:True:=trivial
     have hf:uniL none s=false:=by rw [←i1];simp [hg]
     rw [hf]
     refine run_sound Tryz.func55 mixed 200 _ _ (by kernel_rfl) ?_
     simp only [go_sem,seval,hlt,idx_of hxi,hmap]
     repeat' (first
      | ((refine hto.callQ rfl ?_)<;>(try simp only [go_sem,seval,hlt,idx_of hxi,hmap]))
      | fail)
     all_goals first | (exfalso;omega) | (exfalso;exact absurd (by assumption) c3) | rfl
    | true =>
     rw [hg] at hto
     clear ho
     have hxV:=Tm.enc_V (ground_ok hg)
     by_cases hi0:i=0
     ·obtain rfl:=i2 (by omega)
      have n0:¬(0:Int)<(i:Int):=by omega
      have ho:=hto
      refine run_sound Tryz.func55 mixed 200 _ _ (by kernel_rfl) ?_
      simp only [go_sem,seval,hlt,idx_of hxi,n0]
      repeat' (first
       | (simp (disch:=omega) only [wrap_ok])
       | (refine hnext (some x.V) _ ⟨by rw [←i1];simp [hi0,hg],fun h=>by omega,fun _=>⟨x,by rw [show s.length - r.length - 1=i by omega];exact hxi,rfl,ground_ok hg⟩⟩ (by refine ⟨by simp [mkS],by simp [mkS],by simp [mkS,O.refsLt,C.refsLt,C.refsLt1],?_⟩;simp [mkS,Abs.get,C.refsLtT,C.refsLt,C.refsLt1]))
       | ((refine hto.callQ rfl ?_)<;>(try simp only [go_sem,seval,hlt,idx_of hxi,n0]))
       | fail)
      all_goals (exfalso;omega)
     ·obtain ⟨y,hy,rfl,hyo⟩:=i3 (by omega)
      have n0:(0:Int)<(i:Int):=by omega
      have hw1:IntKind.i64.wrap ((i:Int) - 1)=((i - 1:Nat):Int):=by rw [wrap_ok (by omega) (by omega)];omega
      have n2:((i - 1:Nat):Int)<(s.length:Int):=by omega
      have hyi:s[i - 1]? = some y:=by rw [←hy];congr 1;omega
      have ho:Gives Tryz.prog 96 [.agg y.enc,.agg x.enc] (.d (.int .i64 (y.V.cmp x.V))):=by
       rw [Tm.enc_V hyo,hxV]
       exact orderTerms_fn _ _ _ (Nat.le_refl _)
      by_cases c3:y.V.cmp x.V<0
      ·have c4:¬0≤y.V.cmp x.V:=by omega
       refine run_sound Tryz.func55 mixed 200 _ _ (by kernel_rfl) ?_
       simp only [go_sem,seval,hlt,idx_of hxi,n0,hw1,n2,idx_of hyi,hmap,c3,c4]
       repeat' (first
        | (simp (disch:=omega) only [wrap_ok])
        | (refine hnext (some x.V) _ ⟨by rw [←i1];simp [c3,hg],fun h=>by omega,fun _=>⟨x,by rw [show s.length - r.length - 1=i by omega];exact hxi,rfl,ground_ok hg⟩⟩ (by refine ⟨by simp [mkS],by simp [mkS],by simp [mkS,O.refsLt,C.refsLt,C.refsLt1],?_⟩;simp [mkS,Abs.get,C.refsLtT,C.refsLt,C.refsLt1]))
        | ((first
         | (refine hto.callQ rfl ?_)
         | (refine ho.callQ rfl ?_))<;>(try simp only [go_sem,seval,hlt,idx_of hxi,n0,hw1,n2,idx_of hyi,hmap,c3,c4]))
        | fail)
       all_goals (exfalso;omega)
      ·have c4:0≤y.V.cmp x.V:=by omega
       have hf:uniL none s=false:=by rw [←i1];simp [c3]
       rw [hf]
       refine run_sound Tryz.func55 mixed 200 _ _ (by kernel_rfl) ?_
       simp only [go_sem,seval,hlt,idx_of hxi,n0,hw1,n2,idx_of hyi,hmap,c4]
       repeat' (first
        | ((first
         | (refine hto.callQ rfl ?_)
         | (refine ho.callQ rfl ?_))<;>(try simp only [go_sem,seval,hlt,idx_of hxi,n0,hw1,n2,idx_of hyi,hmap,c4]))
        | fail)
       all_goals first | (exfalso;omega) | (exfalso;exact absurd (by assumption) c3) | rfl
   rw [←hinv.1]
   refine run_sound Tryz.func55 mixed 200 _ _ (by kernel_rfl) ?_
   simp only [go_sem,seval]
   all_goals rfl
  ·have n2:(8:Int)<(s.length:Int):=by omega
   have hu:uniOk s=false:=by unfold uniOk;simp [h2]
   rw [hu]
   refine ACalls.enter (fn:=Tryz.f55) Tryz.func55 rfl (by show 1≤_;decide) ?_
   refine run_sound Tryz.func55 mixed 200 _ _ (by kernel_rfl) ?_
   simp only [go_sem,seval,hmap,n1,n2]
 ·have n1:(s.length:Int)<1:=by omega
  have hu:uniOk s=false:=by unfold uniOk;simp [h1]
  rw [hu]
  refine ACalls.enter (fn:=Tryz.f55) Tryz.func55 rfl (by show 1≤_;decide) ?_
  refine run_sound Tryz.func55 mixed 200 _ _ (by kernel_rfl) ?_
  simp only [go_sem,seval,hmap,n1]
theorem sUniverseOk_fn (s:List Tm) (hw:∀t,t∈s→wtL t.enc≤1048576) (hl:s.length≤9000000):Gives Tryz.prog 81 [.sl (s.map Tm.enc)] (.d (.bool (uniOk s))):=by
 have hmap:(s.map Tm.enc).length=s.length:=List.length_map _
 cases hun:uniL none s with
 | false =>
  have hu:uniOk s=uniL none s:=by unfold uniOk;rw [hun];simp
  rw [hu]
  refine ACalls.enter (fn:=Tryz.f81) Tryz.func81 rfl (by show 1≤_;decide) ?_
  refine run_sound Tryz.func81 mixed 200 _ _ (by kernel_rfl) ?_
  simp only [go_sem,seval,hmap]
  refine AW.rng s [0,5,6] 7 5 (fun _:Option V=>[]) (fun H _=>H) (fun r p=>uniL p r=uniL none s∧(r.length=s.length→p=none)∧(r.length<s.length→∃y:Tm,s[s.length - r.length - 1]? = some y∧p=some y.V∧tmOk y=true)) none rfl (by simp) ⟨rfl,fun _=>rfl,fun h=>absurd h (Nat.lt_irrefl _)⟩ (by refine ⟨by simp [mkS],by simp [mkS],by simp [mkS,O.refsLt,C.refsLt,C.refsLt1],?_⟩;simp [mkS,Abs.get,C.refsLtT,C.refsLt,C.refsLt1]) (fun i x r p hxi hdr hlt hm hinv hnext=>?_) (fun p hinv=>?_)
  ·obtain ⟨i1,i2,i3⟩:=hinv
   obtain ⟨hi1,hi2,hi3⟩:=uniL_inv hdr
   have hto:Gives Tryz.prog 76 [.agg x.enc] (.d (.bool x.ground)):=sIsGround_fn x (hw x (List.mem_of_getElem? hxi))
   have ho:=hto
   simp only [List.length_cons,uniL] at i1 i2 i3
   cases hg:x.ground with
   | false =>
    rw [hg] at hto ho
    have c3:True:=trivial
    have hf:uniL none s=false:=by rw [←i1];simp [hg]
    rw [hf]
    refine run_sound Tryz.func81 mixed 200 _ _ (by kernel_rfl) ?_
    simp only [go_sem,seval,hlt,idx_of hxi,hmap]
    repeat' (first
     | ((refine hto.callQ rfl ?_)<;>(try simp only [go_sem,seval,hlt,idx_of hxi,hmap]))
     | fail)
    all_goals first | (exfalso;omega) | (exfalso;exact absurd (by assumption) c3) | rfl
   | true =>
    rw [hg] at hto
    clear ho
    have hxV:=Tm.enc_V (ground_ok hg)
    by_cases hi0:i=0
    ·obtain rfl:=i2 (by omega)
     have n0:¬(0:Int)<(i:Int):=by omega
     have ho:=hto
     refine run_sound Tryz.func81 mixed 200 _ _ (by kernel_rfl) ?_
     simp only [go_sem,seval,hlt,idx_of hxi,n0]
     repeat' (first
      | (simp (disch:=omega) only [wrap_ok])
      | (refine hnext (some x.V) _ ⟨by rw [←i1];simp [hi0,hg],fun h=>by omega,fun _=>⟨x,by rw [show s.length - r.length - 1=i by omega];exact hxi,rfl,ground_ok hg⟩⟩ (by refine ⟨by simp [mkS],by simp [mkS],by simp [mkS,O.refsLt,C.refsLt,C.refsLt1],?_⟩;simp [mkS,Abs.get,C.refsLtT,C.refsLt,C.refsLt1]))
      | ((refine hto.callQ rfl ?_)<;>(try simp only [go_sem,seval,hlt,idx_of hxi,n0]))
      | fail)
     all_goals (exfalso;omega)
    ·obtain ⟨y,hy,rfl,hyo⟩:=i3 (by omega)
     have n0:(0:Int)<(i:Int):=by omega
     have hw1:IntKind.i64.wrap ((i:Int) - 1)=((i - 1:Nat):Int):=by rw [wrap_ok (by omega) (by omega)];omega
     have n2:((i - 1:Nat):Int)<(s.length:Int):=by omega
     have hyi:s[i - 1]? = some y:=by rw [←hy];congr 1;omega
     have ho:Gives Tryz.prog 123 [.agg y.enc,.agg x.enc] (.d (.int .i64 (y.V.cmp x.V))):=by
      rw [Tm.enc_V hyo,hxV]
      exact l02Cmp_fn _ _ _ (Nat.le_refl _)
     by_cases c3:y.V.cmp x.V<0
     ·have c4:¬0≤y.V.cmp x.V:=by omega
      refine run_sound Tryz.func81 mixed 200 _ _ (by kernel_rfl) ?_
      simp only [go_sem,seval,hlt,idx_of hxi,n0,hw1,n2,idx_of hyi,hmap,c3,c4]
      repeat' (first
       | (simp (disch:=omega) only [wrap_ok])
       | (refine hnext (some x.V) _ ⟨by rw [←i1];simp [c3,hg],fun h=>by omega,fun _=>⟨x,by rw [show s.length - r.length - 1=i by omega];exact hxi,rfl,ground_ok hg⟩⟩ (by refine ⟨by simp [mkS],by simp [mkS],by simp [mkS,O.refsLt,C.refsLt,C.refsLt1],?_⟩;simp [mkS,Abs.get,C.refsLtT,C.refsLt,C.refsLt1]))
       | ((first
        | (refine hto.callQ rfl ?_)
        | (refine ho.callQ rfl ?_))<;>(try simp only [go_sem,seval,hlt,idx_of hxi,n0,hw1,n2,idx_of hyi,hmap,c3,c4]))
       | fail)
      all_goals (exfalso;omega)
     ·have c4:0≤y.V.cmp x.V:=by omega
      have hf:uniL none s=false:=by rw [←i1];simp [c3]
      rw [hf]
      refine run_sound Tryz.func81 mixed 200 _ _ (by kernel_rfl) ?_
      simp only [go_sem,seval,hlt,idx_of hxi,n0,hw1,n2,idx_of hyi,hmap,c4]
      repeat' (first
       | ((first
        | (refine hto.callQ rfl ?_)
        | (refine ho.callQ rfl ?_))<;>(try simp only [go_sem,seval,hlt,idx_of hxi,n0,hw1,n2,idx_of hyi,hmap,c4]))
       | fail)
      all_goals first | (exfalso;omega) | (exfalso;exact absurd (by assumption) c3) | rfl
  exfalso
  rw [←hinv.1] at hun
  simp [uniL] at hun
 | true =>
  have hu:uniOk s=(decide ((1:Int)≤(s.length:Int)) && decide ((s.length:Int)≤8)):=by unfold uniOk;rw [hun,Bool.and_true,Bool.eq_iff_iff];simp;omega
  rw [hu]
  obtain ⟨RES,hRES⟩:∃RES,(decide ((1:Int)≤(s.length:Int)) && decide ((s.length:Int)≤8))=RES:=⟨_,rfl⟩
  rw [hRES]
  have hin:=l01In_fn (s.length:Int) 1 8
  rw [hRES] at hin
  refine ACalls.enter (fn:=Tryz.f81) Tryz.func81 rfl (by show 1≤_;decide) ?_
  refine run_sound Tryz.func81 mixed 200 _ _ (by kernel_rfl) ?_
  simp only [go_sem,seval,hmap]
  refine AW.rng s [0,5,6] 7 5 (fun _:Option V=>[]) (fun H _=>H) (fun r p=>uniL p r=uniL none s∧(r.length=s.length→p=none)∧(r.length<s.length→∃y:Tm,s[s.length - r.length - 1]? = some y∧p=some y.V∧tmOk y=true)) none rfl (by simp) ⟨rfl,fun _=>rfl,fun h=>absurd h (Nat.lt_irrefl _)⟩ (by refine ⟨by simp [mkS],by simp [mkS],by simp [mkS,O.refsLt,C.refsLt,C.refsLt1],?_⟩;simp [mkS,Abs.get,C.refsLtT,C.refsLt,C.refsLt1]) (fun i x r p hxi hdr hlt hm hinv hnext=>?_) (fun p hinv=>?_)
  ·obtain ⟨i1,i2,i3⟩:=hinv
   obtain ⟨hi1,hi2,hi3⟩:=uniL_inv hdr
   have hto:Gives Tryz.prog 76 [.agg x.enc] (.d (.bool x.ground)):=sIsGround_fn x (hw x (List.mem_of_getElem? hxi))
   have ho:=hto
   simp only [List.length_cons,uniL] at i1 i2 i3
   cases hg:x.ground with
   | false =>
    rw [hg] at hto ho
    have c3:True:=trivial
    have hf:uniL none s=false:=by rw [←i1];simp [hg]
    exact absurd (hf.symm.trans hun) (by simp)
   | true =>
    rw [hg] at hto
    clear ho
    have hxV:=Tm.enc_V (ground_ok hg)
    by_cases hi0:i=0
    ·obtain rfl:=i2 (by omega)
     have n0:¬(0:Int)<(i:Int):=by omega
     have ho:=hto
     refine run_sound Tryz.func81 mixed 200 _ _ (by kernel_rfl) ?_
     simp only [go_sem,seval,hlt,idx_of hxi,n0]
     repeat' (first
      | (simp (disch:=omega) only [wrap_ok])
      | (refine hnext (some x.V) _ ⟨by rw [←i1];simp [hi0,hg],fun h=>by omega,fun _=>⟨x,by rw [show s.length - r.length - 1=i by omega];exact hxi,rfl,ground_ok hg⟩⟩ (by refine ⟨by simp [mkS],by simp [mkS],by simp [mkS,O.refsLt,C.refsLt,C.refsLt1],?_⟩;simp [mkS,Abs.get,C.refsLtT,C.refsLt,C.refsLt1]))
      | ((refine hto.callQ rfl ?_)<;>(try simp only [go_sem,seval,hlt,idx_of hxi,n0]))
      | fail)
     all_goals (exfalso;omega)
    ·obtain ⟨y,hy,rfl,hyo⟩:=i3 (by omega)
     have n0:(0:Int)<(i:Int):=by omega
     have hw1:IntKind.i64.wrap ((i:Int) - 1)=((i - 1:Nat):Int):=by rw [wrap_ok (by omega) (by omega)];omega
     have n2:((i - 1:Nat):Int)<(s.length:Int):=by omega
     have hyi:s[i - 1]? = some y:=by rw [←hy];congr 1;omega
     have ho:Gives Tryz.prog 123 [.agg y.enc,.agg x.enc] (.d (.int .i64 (y.V.cmp x.V))):=by
      rw [Tm.enc_V hyo,hxV]
      exact l02Cmp_fn _ _ _ (Nat.le_refl _)
     by_cases c3:y.V.cmp x.V<0
     ·have c4:¬0≤y.V.cmp x.V:=by omega
      refine run_sound Tryz.func81 mixed 200 _ _ (by kernel_rfl) ?_
      simp only [go_sem,seval,hlt,idx_of hxi,n0,hw1,n2,idx_of hyi,hmap,c3,c4]
      repeat' (first
       | (simp (disch:=omega) only [wrap_ok])
       | (refine hnext (some x.V) _ ⟨by rw [←i1];simp [c3,hg],fun h=>by omega,fun _=>⟨x,by rw [show s.length - r.length - 1=i by omega];exact hxi,rfl,ground_ok hg⟩⟩ (by refine ⟨by simp [mkS],by simp [mkS],by simp [mkS,O.refsLt,C.refsLt,C.refsLt1],?_⟩;simp [mkS,Abs.get,C.refsLtT,C.refsLt,C.refsLt1]))
       | ((first
        | (refine hto.callQ rfl ?_)
        | (refine ho.callQ rfl ?_))<;>(try simp only [go_sem,seval,hlt,idx_of hxi,n0,hw1,n2,idx_of hyi,hmap,c3,c4]))
       | fail)
      all_goals (exfalso;omega)
     ·have c4:0≤y.V.cmp x.V:=by omega
      have hf:uniL none s=false:=by rw [←i1];simp [c3]
      exact absurd (hf.symm.trans hun) (by simp)
  refine run_sound Tryz.func81 mixed 200 _ _ (by kernel_rfl) ?_
  simp only [go_sem,seval,hmap]
  repeat' (first
   | ((refine hin.calls rfl ?_)<;>(try simp only [go_sem,seval,hmap]))
   | fail)
theorem ways_fn (b n L:Nat) (hb8:b≤8) (hL:L≤1000000) (hn:n≤1000000):Gives Tryz.prog 98 [.int .i64 b,.int .i64 n,.int .i64 L] (.d (.int .i64 (min (sways b L n 1) (L+1):Nat))):=by
 obtain ⟨W,hW⟩:∃W,sways b L n 1=W:=⟨_,rfl⟩
 rw [hW]
 have w3:IntKind.i64.wrap ((L:Int)+1)=(L:Int)+1:=wrap_ok (by omega) (by omega)
 have hmin:∀k:Nat,(if (L:Int)+1<(k:Int) then (L:Int)+1 else (k:Int))=((min k (L+1):Nat):Int):=fun k=>by split<;>omega
 refine ACalls.enter (fn:=Tryz.f98) Tryz.func98 rfl (by show 3≤_;decide) ?_
 refine run_sound Tryz.func98 mixed 200 _ _ (by kernel_rfl) ?_
 simp only [go_sem,seval]
 refine AW.lp [0,1,2] (fun u:Nat×Nat=>[(8,.d (.int .i64 (u.1:Int))),(7,.d (.int .i64 (u.2:Int)))]) (fun H _=>H) (fun u=>u.1≤n∧u.2≤(L+1) * 8∧sways b L (n - u.1) u.2=W) (fun u=>n - u.1) (0,1) ⟨Nat.zero_le _,by dsimp only;omega,hW⟩ (by refine ⟨by simp [mkS],by simp [mkS],by simp [mkS,O.refsLt,C.refsLt,C.refsLt1],?_⟩;simp [mkS,Abs.get,C.refsLtT,C.refsLt,C.refsLt1]) ?_
 rintro ⟨i,k⟩ ⟨h1,h2,h3⟩ hnext
 dsimp only at h1 h2 h3 hnext ⊢
 have hnx:=fun i' k' s'=>hnext (i',k') s'
 clear hnext
 have w2:IntKind.i64.wrap ((i:Int)+1)=((i+1:Nat):Int):=by rw [wrap_ok (by omega) (by omega)];omega
 by_cases hi:i<n
 ·have n1:(i:Int)<(n:Int):=by omega
  by_cases hk:k≤L
  ·have n2:(k:Int)≤(L:Int):=by omega
   have hkb:k * b≤(L+1) * 8:=Nat.mul_le_mul (by omega) hb8
   have w1:IntKind.i64.wrap ((k:Int) * (b:Int))=((k * b:Nat):Int):=by rw [←Int.natCast_mul,wrap_ok (by omega) (by omega)]
   have h4:sways b L (n - (i+1)) (k * b)=W:=by
    rw [show n - i=(n - (i+1))+1 by omega] at h3
    unfold sways at h3
    rw [if_pos hk] at h3;exact h3
   refine run_sound Tryz.func98 mixed 200 _ _ (by kernel_rfl) ?_
   simp only [go_sem,seval,n1,n2,w1,w2]
   refine hnx (i+1) (k * b) _ ⟨by omega,hkb,h4⟩ (by dsimp only;omega) (by refine ⟨by simp [mkS],by simp [mkS],by simp [mkS,O.refsLt,C.refsLt,C.refsLt1],?_⟩;simp [mkS,Abs.get,C.refsLtT,C.refsLt,C.refsLt1])
  ·have n2:¬(k:Int)≤(L:Int):=by omega
   rw [sways_ge hk] at h3
   subst h3
   refine run_sound Tryz.func98 mixed 200 _ _ (by kernel_rfl) ?_
   simp only [go_sem,seval,n1,n2,w3]
   all_goals first | rfl | (exfalso;omega) | exact congrArg (fun x=>C.d (D.int IntKind.i64 x)) (hmin _)
 ·have n1:¬(i:Int)<(n:Int):=by omega
  rw [show n - i=0 by omega] at h3
  unfold sways at h3
  subst h3
  refine run_sound Tryz.func98 mixed 200 _ _ (by kernel_rfl) ?_
  simp only [go_sem,seval,n1,w3]
  all_goals first | rfl | (exfalso;omega) | exact congrArg (fun x=>C.d (D.int IntKind.i64 x)) (hmin _)
theorem l08Ways_fn (b n L:Nat) (hb8:b≤8) (hL:L≤1000000) (hn:n≤1000000):Gives Tryz.prog 83 [.int .i64 b,.int .i64 n,.int .i64 L] (.d (.int .i64 (sways b L n 1:Nat))):=by
 obtain ⟨W,hW⟩:∃W,sways b L n 1=W:=⟨_,rfl⟩
 rw [hW]
 have w3:IntKind.i64.wrap ((L:Int)+1)=(L:Int)+1:=wrap_ok (by omega) (by omega)
 have hmin:∀k:Nat,(if (L:Int)+1<(k:Int) then (L:Int)+1 else (k:Int))=((min k (L+1):Nat):Int):=fun k=>by split<;>omega
 refine ACalls.enter (fn:=Tryz.f83) Tryz.func83 rfl (by show 3≤_;decide) ?_
 refine run_sound Tryz.func83 mixed 200 _ _ (by kernel_rfl) ?_
 simp only [go_sem,seval]
 refine AW.lp [0,1,2] (fun u:Nat×Nat=>[(8,.d (.int .i64 (u.1:Int))),(7,.d (.int .i64 (u.2:Int)))]) (fun H _=>H) (fun u=>u.1≤n∧u.2≤(L+1) * 8∧sways b L (n - u.1) u.2=W) (fun u=>n - u.1) (0,1) ⟨Nat.zero_le _,by dsimp only;omega,hW⟩ (by refine ⟨by simp [mkS],by simp [mkS],by simp [mkS,O.refsLt,C.refsLt,C.refsLt1],?_⟩;simp [mkS,Abs.get,C.refsLtT,C.refsLt,C.refsLt1]) ?_
 rintro ⟨i,k⟩ ⟨h1,h2,h3⟩ hnext
 dsimp only at h1 h2 h3 hnext ⊢
 have hnx:=fun i' k' s'=>hnext (i',k') s'
 clear hnext
 have w2:IntKind.i64.wrap ((i:Int)+1)=((i+1:Nat):Int):=by rw [wrap_ok (by omega) (by omega)];omega
 by_cases hi:i<n
 ·have n1:(i:Int)<(n:Int):=by omega
  by_cases hk:k≤L
  ·have n2:(k:Int)≤(L:Int):=by omega
   have hkb:k * b≤(L+1) * 8:=Nat.mul_le_mul (by omega) hb8
   have w1:IntKind.i64.wrap ((k:Int) * (b:Int))=((k * b:Nat):Int):=by rw [←Int.natCast_mul,wrap_ok (by omega) (by omega)]
   have h4:sways b L (n - (i+1)) (k * b)=W:=by
    rw [show n - i=(n - (i+1))+1 by omega] at h3
    unfold sways at h3
    rw [if_pos hk] at h3;exact h3
   refine run_sound Tryz.func83 mixed 200 _ _ (by kernel_rfl) ?_
   simp only [go_sem,seval,n1,n2,w1,w2]
   refine hnx (i+1) (k * b) _ ⟨by omega,hkb,h4⟩ (by dsimp only;omega) (by refine ⟨by simp [mkS],by simp [mkS],by simp [mkS,O.refsLt,C.refsLt,C.refsLt1],?_⟩;simp [mkS,Abs.get,C.refsLtT,C.refsLt,C.refsLt1])
  ·have n2:¬(k:Int)≤(L:Int):=by omega
   rw [sways_ge hk] at h3
   subst h3
   refine run_sound Tryz.func83 mixed 200 _ _ (by kernel_rfl) ?_
   simp only [go_sem,seval,n1,n2,w3]
   all_goals first | rfl | (exfalso;omega) | exact congrArg (fun x=>C.d (D.int IntKind.i64 x)) (hmin _)
 ·have n1:¬(i:Int)<(n:Int):=by omega
  rw [show n - i=0 by omega] at h3
  unfold sways at h3
  subst h3
  refine run_sound Tryz.func83 mixed 200 _ _ (by kernel_rfl) ?_
  simp only [go_sem,seval,n1,w3]
  all_goals first | rfl | (exfalso;omega) | exact congrArg (fun x=>C.d (D.int IntKind.i64 x)) (hmin _)
theorem cmpD (a b:V):decide (a.cmp b=0)=decide (a=b):=by
 rw [Bool.eq_iff_iff,decide_eq_true_eq,decide_eq_true_eq];exact V.cmp_zero a b
theorem memD (x y:V) (q:List V):decide (x∈y :: q)=(decide (y=x) || decide (x∈q)):=by
 rw [Bool.eq_iff_iff]
 simp only [decide_eq_true_eq,Bool.or_eq_true,List.mem_cons]
 exact ⟨fun h=>h.elim (fun e=>.inl e.symm) .inr,fun h=>h.elim (fun e=>.inl e.symm) .inr⟩
theorem tmodN (a b:Nat):(a:Int).tmod (b:Int)=((a % b:Nat):Int):=by rw [Int.tmod_eq_emod_of_nonneg (by omega)];omega
theorem tdivN (a b:Nat):(a:Int).tdiv (b:Int)=((a / b:Nat):Int):=by rw [Int.tdiv_eq_ediv_of_nonneg (by omega)];omega
theorem inUniverse_fn (u l:List V) (hu:u.length≤1000000):Gives Tryz.prog 100 [.sl (u.map V.enc),.sl (l.map V.enc)] (.d (.bool (l.all fun t=>decide (t∈u)))):=by
 obtain ⟨K,hK⟩:∃K,(l.all fun t=>decide (t∈u))=K:=⟨_,rfl⟩
 rw [hK]
 refine ACalls.enter (fn:=Tryz.f100) Tryz.func100 rfl (by show 2≤_;decide) ?_
 refine run_sound Tryz.func100 mixed 200 _ _ (by kernel_rfl) ?_
 simp only [go_sem,seval]
 refine AW.rng l [0,10,11] 12 10 (fun _:Unit=>[]) (fun H _=>H) (fun r _=>(r.all fun t=>decide (t∈u))=K) () rfl (by simp) hK (by refine ⟨by simp [mkS],by simp [mkS],by simp [mkS,O.refsLt,C.refsLt,C.refsLt1],?_⟩;simp [mkS,Abs.get,C.refsLtT,C.refsLt,C.refsLt1]) (fun i x r p hxi hdr hlt hm hinv hnext=>?_) (fun p hinv=>?_)
 ·rw [List.all_cons] at hinv
  refine run_sound Tryz.func100 mixed 200 _ _ (by kernel_rfl) ?_
  simp only [go_sem,seval,hlt,idx_of hxi]
  refine AW.rng u [0,6,10,11,12,16,17] 18 16 (fun b:Bool=>[(7,.d (.bool b))]) (fun H _=>H) (fun r b=>(b || decide (x∈r))=decide (x∈u)) false rfl (by simp) (by simp) (by refine ⟨by simp [mkS],by simp [mkS],by simp only [mkS,List.all_cons,List.all_nil,O.refsLt,C.refsLt,C.refsLt1,all_dmap];first | done | rfl | (simp;done),?_⟩;simp [mkS,Abs.get,C.refsLtT,C.refsLt,C.refsLt1]) (fun j y q b hyj hdr2 hlt2 hm2 hinv2 hnext2=>?_) (fun b hinv2=>?_)
  ·have he:=equalTerms_fn y x
   rw [cmpD] at he
   rw [memD,←Bool.or_assoc] at hinv2
   cases b with
   | true =>
    refine run_sound Tryz.func100 mixed 200 _ _ (by kernel_rfl) ?_
    simp only [go_sem,seval,hlt2,idx_of hyj]
    repeat' (first
     | (simp (disch:=omega) only [wrap_ok])
     | (refine hnext2 true _ (by simpa using hinv2) (by refine ⟨by simp [mkS],by simp [mkS],by simp only [mkS,List.all_cons,List.all_nil,O.refsLt,C.refsLt,C.refsLt1,all_dmap];first | done | rfl | (simp;done),?_⟩;simp [mkS,Abs.get,C.refsLtT,C.refsLt,C.refsLt1]))
     | fail)
   | false =>
    rw [Bool.false_or] at hinv2
    generalize decide (y=x)=b2 at he hinv2
    refine run_sound Tryz.func100 mixed 200 _ _ (by kernel_rfl) ?_
    simp only [go_sem,seval,hlt2,idx_of hyj]
    repeat' (first
     | (simp (disch:=omega) only [wrap_ok])
     | (refine hnext2 b2 _ hinv2 (by refine ⟨by simp [mkS],by simp [mkS],by simp only [mkS,List.all_cons,List.all_nil,O.refsLt,C.refsLt,C.refsLt1,all_dmap];first | done | rfl | (simp;done),?_⟩;simp [mkS,Abs.get,C.refsLtT,C.refsLt,C.refsLt1]))
     | ((refine he.calls rfl ?_)<;>(try simp only [go_sem,seval,hlt2,idx_of hyj]))
     | fail)
  ·simp only [List.not_mem_nil,decide_false,Bool.or_false] at hinv2
   rw [←hinv2] at hinv
   cases b with
   | true =>
    rw [Bool.true_and] at hinv
    refine run_sound Tryz.func100 mixed 200 _ _ (by kernel_rfl) ?_
    simp only [go_sem,seval]
    repeat' (first
     | (simp (disch:=omega) only [wrap_ok])
     | (refine hnext () _ hinv (by refine ⟨by simp [mkS],by simp [mkS],by simp [mkS,O.refsLt,C.refsLt,C.refsLt1],?_⟩;simp [mkS,Abs.get,C.refsLtT,C.refsLt,C.refsLt1]))
     | fail)
   | false =>
    rw [Bool.false_and] at hinv
    rw [←hinv]
    refine run_sound Tryz.func100 mixed 200 _ _ (by kernel_rfl) ?_
    simp only [go_sem,seval]
 ·rw [←hinv]
  refine run_sound Tryz.func100 mixed 200 _ _ (by kernel_rfl) ?_
  simp only [go_sem,seval]
  all_goals rfl
theorem l12Contains_fn (u:List V) (x:V) (hu:u.length≤1000000):Gives Tryz.prog 129 [.sl (u.map V.enc),.agg x.enc] (.d (.bool (decide (x∈u)))):=by
 obtain ⟨K,hK⟩:∃K,decide (x∈u)=K:=⟨_,rfl⟩
 rw [hK]
 refine ACalls.enter (fn:=Tryz.f129) Tryz.func129 rfl (by show 2≤_;decide) ?_
 refine run_sound Tryz.func129 mixed 200 _ _ (by kernel_rfl) ?_
 simp only [go_sem,seval]
 refine AW.rng u [3,7,8] 9 7 (fun _:Unit=>[]) (fun H _=>H) (fun r _=>decide (x∈r)=K) () rfl (by simp) hK (by refine ⟨by simp [mkS],by simp [mkS],by simp only [mkS,List.all_cons,List.all_nil,O.refsLt,C.refsLt,C.refsLt1,all_dmap];first | done | rfl | (simp;done),?_⟩;simp [mkS,Abs.get,C.refsLtT,C.refsLt,C.refsLt1]) (fun j y q b hyj hdr2 hlt2 hm2 hinv2 hnext2=>?_) (fun b hinv2=>?_)
 ·have he:=l02Same_fn y x
  rw [cmpD] at he
  rw [memD] at hinv2
  generalize decide (y=x)=b2 at he hinv2
  cases b2 with
  | true =>
   rw [Bool.true_or] at hinv2
   rw [←hinv2]
   refine run_sound Tryz.func129 mixed 200 _ _ (by kernel_rfl) ?_
   simp only [go_sem,seval,hlt2,idx_of hyj]
   repeat' (first
    | ((refine he.calls rfl ?_)<;>(try simp only [go_sem,seval,hlt2,idx_of hyj]))
    | fail)
  | false =>
   rw [Bool.false_or] at hinv2
   refine run_sound Tryz.func129 mixed 200 _ _ (by kernel_rfl) ?_
   simp only [go_sem,seval,hlt2,idx_of hyj]
   repeat' (first
    | (simp (disch:=omega) only [wrap_ok])
    | (refine hnext2 () _ hinv2 (by refine ⟨by simp [mkS],by simp [mkS],by simp only [mkS,List.all_cons,List.all_nil,O.refsLt,C.refsLt,C.refsLt1,all_dmap];first | done | rfl | (simp;done),?_⟩;simp [mkS,Abs.get,C.refsLtT,C.refsLt,C.refsLt1]))
    | ((refine he.calls rfl ?_)<;>(try simp only [go_sem,seval,hlt2,idx_of hyj]))
    | fail)
 ·rw [←hinv2]
  refine run_sound Tryz.func129 mixed 200 _ _ (by kernel_rfl) ?_
  simp only [go_sem,seval]
  all_goals rfl
theorem l18Inside_fn (fs:List FcV) (u:List V) (hu:u.length≤1000000):Gives Tryz.prog 86 [.sl (fs.map fcE),.sl (u.map V.enc)] (.d (.bool (fs.all (inUV u)))):=by
 obtain ⟨K,hK⟩:∃K,fs.all (inUV u)=K:=⟨_,rfl⟩
 rw [hK]
 refine ACalls.enter (fn:=Tryz.f86) Tryz.func86 rfl (by show 2≤_;decide) ?_
 refine run_sound Tryz.func86 mixed 200 _ _ (by kernel_rfl) ?_
 simp only [go_sem,seval]
 refine AW.rng fs [1,9,10] 11 9 (fun _:Unit=>[]) (fun H _=>H) (fun r _=>r.all (inUV u)=K) () rfl (by simp) hK (by refine ⟨by simp [mkS],by simp [mkS],by simp [mkS,O.refsLt,C.refsLt,C.refsLt1],?_⟩;simp [mkS,Abs.get,C.refsLtT,C.refsLt,C.refsLt1]) (fun i x r p hxi hdr hlt hm hinv hnext=>?_) (fun p hinv=>?_)
 ·rw [List.all_cons] at hinv
  have hxe:=fcE_eq x
  have hin:inUV u x=x.2.all fun t=>decide (t∈u):=rfl
  rw [hin] at hinv
  generalize hL:x.2=L at *
  refine run_sound Tryz.func86 mixed 200 _ _ (by kernel_rfl) ?_
  simp only [go_sem,seval,hlt,idx_of hxi,hxe]
  refine AW.rng L [1,9,10,11,16,17] 18 16 (fun _:Unit=>[]) (fun H _=>H) (fun q _=>((q.all fun t=>decide (t∈u)) && r.all (inUV u))=K) () rfl (by simp) hinv (by refine ⟨by simp [mkS],by simp [mkS],by simp only [mkS,List.all_cons,List.all_nil,O.refsLt,C.refsLt,C.refsLt1,all_dmap];first | done | rfl | (simp;done),?_⟩;simp [mkS,Abs.get,C.refsLtT,C.refsLt,C.refsLt1]) (fun j y q b hyj hdr2 hlt2 hm2 hinv2 hnext2=>?_) (fun b hinv2=>?_)
  ·have he:=l12Contains_fn u y hu
   rw [List.all_cons] at hinv2
   generalize decide (y∈u)=b2 at he hinv2
   cases b2 with
   | true =>
    rw [Bool.true_and] at hinv2
    refine run_sound Tryz.func86 mixed 200 _ _ (by kernel_rfl) ?_
    simp only [go_sem,seval,hlt2,idx_of hyj]
    repeat' (first
     | (simp (disch:=omega) only [wrap_ok])
     | (refine hnext2 () _ hinv2 (by refine ⟨by simp [mkS],by simp [mkS],by simp only [mkS,List.all_cons,List.all_nil,O.refsLt,C.refsLt,C.refsLt1,all_dmap];first | done | rfl | (simp;done),?_⟩;simp [mkS,Abs.get,C.refsLtT,C.refsLt,C.refsLt1]))
     | ((refine he.calls rfl ?_)<;>(try simp only [go_sem,seval,hlt2,idx_of hyj]))
     | fail)
   | false =>
    simp only [Bool.false_and] at hinv2
    rw [←hinv2]
    refine run_sound Tryz.func86 mixed 200 _ _ (by kernel_rfl) ?_
    simp only [go_sem,seval,hlt2,idx_of hyj]
    repeat' (first
     | ((refine he.calls rfl ?_)<;>(try simp only [go_sem,seval,hlt2,idx_of hyj]))
     | fail)
  ·rw [List.all_nil,Bool.true_and] at hinv2
   refine run_sound Tryz.func86 mixed 200 _ _ (by kernel_rfl) ?_
   simp only [go_sem,seval]
   repeat' (first
    | (simp (disch:=omega) only [wrap_ok])
    | (refine hnext () _ hinv2 (by refine ⟨by simp [mkS],by simp [mkS],by simp [mkS,O.refsLt,C.refsLt,C.refsLt1],?_⟩;simp [mkS,Abs.get,C.refsLtT,C.refsLt,C.refsLt1]))
    | fail)
 ·rw [←hinv]
  refine run_sound Tryz.func86 mixed 200 _ _ (by kernel_rfl) ?_
  simp only [go_sem,seval]
  all_goals rfl
theorem l08Values_fn (u:List V) (n k:Nat) (hu1:1≤u.length) (hu:u.length≤1000000) (hk:k≤1000000) (hn:n≤1000000):Gives Tryz.prog 85 [.sl (intsD ((List.range n).map fun i:Nat=>(i:Int))),.sl (u.map V.enc),.int .i64 k] (.d (.sl (bdD (gVals u n k)))):=by
 have hmx:maxLen=9223372036854775807:=rfl
 have hml:(u.map V.enc).length=u.length:=List.length_map _
 obtain ⟨G,hG⟩:∃G,gVals u n k=G:=⟨_,rfl⟩
 have hGl:G.length=n:=by rw [←hG];exact gVals_len u n k
 rw [hG]
 obtain ⟨zs,hzs⟩:∃zs:List Int,((List.range n).map fun i:Nat=>(i:Int))=zs:=⟨_,rfl⟩
 have hzl:zs.length=n:=by rw [←hzs];simp
 have hza:∀(i:Nat) (z:Int),zs[i]? = some z→z=(i:Int):=fun i z h=>by
  rw [←hzs,List.getElem?_map,Option.map_eq_some_iff] at h
  obtain ⟨j,h1,h2⟩:=h
  have h3:=(List.getElem?_eq_some_iff.1 h1).1
  rw [List.getElem?_range (by simpa using h3)] at h1
  cases h1;exact h2.symm
 rw [hzs]
 refine ACalls.enter (fn:=Tryz.f85) Tryz.func85 rfl (by show 3≤_;decide) ?_
 refine run_sound Tryz.func85 mixed 5 _ _ (by kernel_rfl) ?_
 simp only [go_sem,seval,run.eq_1]
 refine AW.adopt 7 5 163 (by decide) rfl ?_
 refine run_sound Tryz.func85 mixed 200 _ _ (by kernel_rfl) ?_
 simp only [go_sem,seval,intsD_len]
 refine AW.rng zs [1,11,12] 13 11 (fun w:List V×Nat=>[(2,.d (.int .i64 (w.2:Int))),(7,.own 0 w.1.length)]) (fun _ w=>[.grow w.1.length 5 163 (bdD w.1)]) (fun r w=>w.1++gVals u r.length w.2=G∧w.1.length+r.length=n∧w.2≤k) ([],k) rfl (by simp [intsD,hzl]) ⟨by rw [hzl];exact hG,by simp [hzl],Nat.le_refl _⟩ (by refine ⟨by simp [mkS,bdD,bdsF],by simp [mkS,bdD,bdsF],by simp only [mkS,List.all_cons,List.all_nil,O.refsLt,C.refsLt,C.refsLt1,all_dmap];first | done | rfl | (simp;done),?_⟩;simp [mkS,Abs.get,C.refsLtT,C.refsLt,C.refsLt1,bdD,bdsF]) (fun i z r w hxi hdr hlt hm hinv hnext=>?_) (fun w hinv=>?_)
 ·obtain ⟨w,x⟩:=w
  obtain ⟨i1,i2,i3⟩:=hinv
  dsimp only at i1 i2 i3 hnext ⊢
  have hnx:=fun w' x' s'=>hnext (w',x') s'
  clear hnext
  have hdl:=congrArg List.length hdr
  simp only [List.length_drop,List.length_cons] at hdl i1 i2
  have hi:i=w.length:=by omega
  obtain rfl:=hza i z hxi
  have hxd:(intsD zs)[i]? = some [.int .i64 (i:Int)]:=by simp [intsD,hxi]
  have hm1:x % u.length<u.length:=Nat.mod_lt _ (by omega)
  obtain ⟨v,hv⟩:∃v,u[x % u.length]? = some v:=⟨_,List.getElem?_eq_getElem hm1⟩
  have hve:u.getD (x % u.length) .nil=v:=by rw [List.getD_eq_getElem?_getD,hv];rfl
  have hvd:(u.map V.enc)[x % u.length]? = some v.enc:=by rw [List.getElem?_map,hv];rfl
  have hdv:x / u.length≤x:=Nat.div_le_self _ _
  have hrm:=tmodN x u.length
  have hqd:=tdivN x u.length
  have h0:¬(u.length:Int)=0:=by omega
  have hre:gVals u (r.length+1) x=v :: gVals u r.length (x / u.length):=by rw [←hve];rfl
  rw [hre] at i1
  clear hve hre
  generalize x % u.length=xm at *
  generalize x / u.length=xq at *
  have w1:IntKind.i64.wrap (xq:Int)=(xq:Int):=wrap_ok (by omega) (by omega)
  have n2:(xm:Int)<(u.length:Int):=by omega
  have hbln:(bdD w).length=w.length:=by unfold bdD;rw [List.length_map,bdsF_len]
  have hbw5:∀y,y∈bdD w→y.length=5:=fun y hy=>by obtain ⟨b,_,rfl⟩:=List.mem_map.1 hy;exact Bd.enc_len b
  have hbs:bdD (w++[v])=bdD w++[[.int .i64 (i:Int),.int .i64 v.kind,.int .i64 v.int,.str v.name,.sl (v.kids.map V.enc)]]:=by
   unfold bdD
   rw [bdsF_snoc,List.map_append,List.map_cons,List.map_nil]
   congr 2
   rw [hi,Nat.zero_add]
   show [D.int .i64 _]++V.enc v=_
   rw [V.enc_eq];rfl
  have hhv:=V.enc_eq v
  generalize hBD:bdD w=BD at *
  refine run_sound Tryz.func85 mixed 200 _ _ (by kernel_rfl) ?_
  simp only [go_sem,seval,hlt,idx_of hxd,idx_of hvd,hrm,hqd,h0,w1,n2,hml,hhv]
  repeat' (first
   | (simp (disch:=omega) only [wrap_ok])
   | ((refine ⟨sd,?_⟩)<;>(try simp only [go_sem,seval,hlt,idx_of hxd,idx_of hvd,hrm,hqd,h0,w1,n2,hml,hhv]))
   | fail)
  refine hnx (w++[v]) xq _ ⟨by rw [←i1];simp,by simp;omega,by omega⟩ (by refine ⟨by simp [mkS,hbs],by simp [mkS,hbs],by simp only [mkS,List.all_cons,List.all_nil,O.refsLt,C.refsLt,C.refsLt1,all_dmap];first | done | rfl | (simp;done),?_⟩;simp [mkS,Abs.get,C.refsLtT,C.refsLt,C.refsLt1,hbs])
 ·obtain ⟨w,x⟩:=w
  obtain ⟨i1,i2,i3⟩:=hinv
  dsimp only [List.length_nil,gVals] at i1
  rw [List.append_nil] at i1
  dsimp only
  subst i1
  refine run_sound Tryz.func85 mixed 200 _ _ (by kernel_rfl) ?_
  simp only [go_sem,seval]
set_option maxHeartbeats 8000000
def rvE (r:RV):List D:=r.ru.enc
theorem rvE_eq (r:RV):rvE r=[.str r.head.1,.sl (r.head.2.map V.enc),.int .i64 r.clause,.sl (r.values.map V.enc),.sl (r.pos.map fcE),.sl (r.neg.map fcE)]:=by
 unfold rvE
 rw [Ru.enc_eq]
 simp only [RV.ru,FcV.fc,enc_tms,List.map_map]
 rfl
def grC (o:Option (List RV)):C:=match o with | some l=>.tup [.d (.sl (l.map rvE)),.d (.bool true)] | none=>.tup [.d (.sl []),.d (.bool false)]
theorem grC_none:grC none=.tup [.d (.sl []),.d (.bool false)]:=rfl
theorem grC_some (l:List RV):grC (some l)=.tup [.d (.sl (l.map rvE)),.d (.bool true)]:=rfl
def bodE (r:Rl):List D:=[.sl (r.body.clsS.map encC)]
theorem bodE_eq (r:Rl):bodE r=[.sl (r.body.clsS.map encC)]:=rfl
theorem mk_step (vs:List V) (v:V) {n:Nat} (h:vs.length<n):(vs.map V.enc++List.replicate (n - vs.length) [D.int .i64 0,.int .i64 0,.str [],.sl []]).set vs.length (v.enc++List.drop 4 ((vs.map V.enc++List.replicate (n - vs.length) [D.int .i64 0,.int .i64 0,.str [],.sl []])[vs.length]?.getD []))=(vs++[v]).map V.enc++List.replicate (n - (vs++[v]).length) [D.int .i64 0,.int .i64 0,.str [],.sl []]:=by
 obtain ⟨m,hm⟩:∃m,n - vs.length=m+1:=⟨n - vs.length - 1,by omega⟩
 have e1:(vs.map V.enc++List.replicate (n - vs.length) [D.int .i64 0,.int .i64 0,.str [],.sl []])[vs.length]? = some [D.int .i64 0,.int .i64 0,.str [],.sl []]:=by
  rw [List.getElem?_append_right (by simp),hm];simp [List.replicate_succ]
 rw [e1,hm,List.set_append,if_neg (by simp)]
 simp only [List.length_map,Nat.sub_self,List.replicate_succ,List.set_cons_zero,Option.getD_some,List.drop_succ_cons,List.drop_nil,List.append_nil,List.map_append,List.map_cons,List.map_nil,List.append_assoc,List.cons_append,List.nil_append,List.length_append,List.length_cons,List.length_nil]
 rw [show n - (vs.length+(0+1))=m by omega]
theorem groundRules_fn (p:Pg) (u:List V) (hp:pgOk p=true) (hw:wtL p.enc≤1048576) (hu:Uni u):Gives Tryz.prog 57 [.agg p.enc,.sl (u.map V.enc)] (grC (p.gr u)):=by
 have hmx:maxLen=9223372036854775807:=rfl
 have hul:=hu.le
 have hup:=hu.pos
 obtain ⟨RES,hRES⟩:∃RES,grC (p.gr u)=RES:=⟨_,rfl⟩
 rw [hRES]
 have hbz:∀y,y∈p.rels.map bodE→y.length=1:=fun y hy=>by obtain ⟨b,_,rfl⟩:=List.mem_map.1 hy;rfl
 have hpl:p.rels.length≤8:=by
  unfold pgOk at hp;rw [Bool.and_eq_true,decide_eq_true_eq] at hp;exact hp.1
 refine ACalls.enter (fn:=Tryz.f57) Tryz.func57 rfl (by show 2≤_;decide) ?_
 refine run_sound Tryz.func57 mixed 5 _ _ (by kernel_rfl) ?_
 simp only [go_sem,seval,run.eq_1]
 refine AW.adopt 6 1 112 (by decide) rfl ?_
 refine run_sound Tryz.func57 mixed 200 _ _ (by kernel_rfl) ?_
 simp only [go_sem,seval]
 refine AW.rng p.rels [1,2,30,31] 32 30 (fun L:List Rl=>[(6,.own 1 L.length)]) (fun _ L=>[.box (p.enc.map .d),.grow L.length 1 112 (L.map bodE)]) (fun r L=>p.rels=L++r∧L.all (Rl.gOk u)=true) [] rfl (by simp) ⟨rfl,rfl⟩ (by refine ⟨by simp [mkS],by simp [mkS],by simp only [mkS,List.all_cons,List.all_nil,O.refsLt,C.refsLt,C.refsLt1,all_dmap];first | done | rfl | (simp;done),?_⟩;simp [mkS,Abs.get,C.refsLtT,C.refsLt,C.refsLt1]) (fun i x r L hxi hdr hlt hm hinv hnext=>?_) (fun L hinv=>?_)
 ·obtain ⟨i1,i2⟩:=hinv
  have hxm:=List.mem_of_getElem? hxi
  obtain ⟨z1,z2,z3,z4⟩:=Pg.dims hp hxm
  have hLl:L.length≤8:=by have:=congrArg List.length i1;simp at this;omega
  obtain ⟨n,hn⟩:∃n:Nat,x.arity+x.locals=(n:Int):=⟨(x.arity+x.locals).toNat,by omega⟩
  have hnn:(x.arity+x.locals).toNat=n:=by omega
  have hcl:=clausesOf_fn x.body (by have:=Pg.wt_rels hxm;have:=Rl.wt_body x;omega)
  rw [Gl.cls_same] at hcl
  have hwy:=ways_fn u.length n 4096 hul (by omega) (by omega)
  have hsw:=sways_1 (b:=u.length) (L:=4096) (n:=n) hup
  have hwr:IntKind.i64.wrap (x.arity+x.locals)=(n:Int):=by rw [hn];exact wrap_ok (by omega) (by omega)
  have hgo:x.gOk u=(decide (x.body.clsS.length≤64) && decide (u.length ^ n≤4096)):=by unfold Rl.gOk Rl.ways;rw [hnn]
  by_cases h64:x.body.clsS.length≤64
  ·rw [if_pos h64] at hcl
   unfold clsR at hcl
   rw [Option.getD_some,Option.isSome_some] at hcl
   by_cases h4:u.length ^ n≤4096
   ·have hg:x.gOk u=true:=by rw [hgo,decide_eq_true h64,decide_eq_true h4];rfl
    have hmn:min (sways u.length 4096 n 1) (4096+1)≤4096:=by have:=hsw.1.1 h4;omega
    have n1:¬(4096:Int)<((min (sways u.length 4096 n 1) (4096+1):Nat):Int):=by omega
    generalize (min (sways u.length 4096 n 1) (4096+1):Nat)=W at *
    refine run_sound Tryz.func57 mixed 200 _ _ (by kernel_rfl) ?_
    simp only [go_sem,seval,hlt,idx_of hxi]
    repeat' (first
     | (simp (disch:=omega) only [wrap_ok])
     | ((first
      | (refine hcl.calls rfl ?_)
      | (refine hwy.calls rfl ?_)
      | (refine ⟨sd,?_⟩))<;>(try simp only [go_sem,seval,hlt,idx_of hxi,hwr,n1]))
     | fail)
    refine hnext (L++[x]) _ ⟨by rw [i1];simp,by rw [List.all_append,i2];simp [hg]⟩ (by refine ⟨by simp [mkS,bodE_eq],by simp [mkS,bodE_eq],by simp only [mkS,List.all_cons,List.all_nil,O.refsLt,C.refsLt,C.refsLt1,all_dmap];first | done | rfl | (simp;done),?_⟩;simp [mkS,Abs.get,C.refsLtT,C.refsLt,C.refsLt1,bodE_eq])
   ·have hg:x.gOk u=false:=by rw [hgo,decide_eq_false h4,Bool.and_false]
    have hmn:4096<min (sways u.length 4096 n 1) (4096+1):=by
     have:¬sways u.length 4096 n 1≤4096:=fun h=>h4 (hsw.1.2 h)
     omega
    have n1:(4096:Int)<((min (sways u.length 4096 n 1) (4096+1):Nat):Int):=by omega
    rw [Pg.gr_bad hxm hg,grC_none] at hRES
    rw [←hRES]
    generalize (min (sways u.length 4096 n 1) (4096+1):Nat)=W at *
    refine run_sound Tryz.func57 mixed 200 _ _ (by kernel_rfl) ?_
    simp only [go_sem,seval,hlt,idx_of hxi]
    repeat' (first
     | ((first
      | (refine hcl.calls rfl ?_)
      | (refine hwy.calls rfl ?_))<;>(try simp only [go_sem,seval,hlt,idx_of hxi,hwr,n1]))
     | fail)
  ·have hg:x.gOk u=false:=by rw [hgo,decide_eq_false h64,Bool.false_and]
   rw [if_neg h64] at hcl
   unfold clsR at hcl
   rw [Option.getD_none,Option.isSome_none] at hcl
   rw [Pg.gr_bad hxm hg,grC_none] at hRES
   rw [←hRES]
   refine run_sound Tryz.func57 mixed 200 _ _ (by kernel_rfl) ?_
   simp only [go_sem,seval,hlt,idx_of hxi]
   repeat' (first
    | ((refine hcl.calls rfl ?_)<;>(try simp only [go_sem,seval,hlt,idx_of hxi]))
    | fail)
 ·obtain ⟨i1,i2⟩:=hinv
  rw [List.append_nil] at i1
  subst i1
  have hgr:=fun hl=>Pg.gr_some i2 hl
  refine run_sound Tryz.func57 mixed 8 _ _ (by kernel_rfl) ?_
  simp only [go_sem,seval,run.eq_1]
  refine AW.adopt 11 6 117 (by decide) rfl ?_
  refine run_sound Tryz.func57 mixed 200 _ _ (by kernel_rfl) ?_
  simp only [go_sem,seval]
  have hgok:∀x,x∈p.rels→x.gOk u=true:=List.all_eq_true.1 i2
  clear i2
  generalize hGN:Pg.gnd u p.rels=GN at hgr
  refine AW.rng p.rels [1,6,62,63] 64 62 (fun L:List RV=>[(11,.own 2 L.length)]) (fun _ L=>[.box (p.enc.map .d),.grow p.rels.length 1 112 (p.rels.map bodE),.grow L.length 6 117 (L.map rvE)]) (fun r L=>GN=L++Pg.gnd u r∧L.length≤2000) [] rfl (by simp) ⟨hGN.symm,by simp⟩ (by refine ⟨by simp [mkS],by simp [mkS],by simp only [mkS,List.all_cons,List.all_nil,O.refsLt,C.refsLt,C.refsLt1,all_dmap];first | done | rfl | (simp;done),?_⟩;simp [mkS,Abs.get,C.refsLtT,C.refsLt,C.refsLt1]) (fun i x r L hxi hdr hlt hm hinv hnext=>?_) (fun L hinv=>?_)
  ·obtain ⟨i1,i2⟩:=hinv
   have hxm:=List.mem_of_getElem? hxi
   obtain ⟨z1,z2,z3,z4⟩:=Pg.dims hp hxm
   obtain ⟨n,hn⟩:∃n:Nat,x.arity+x.locals=(n:Int):=⟨(x.arity+x.locals).toNat,by omega⟩
   have hnn:(x.arity+x.locals).toNat=n:=by omega
   have hn12:n≤12:=by omega
   have hwr:IntKind.i64.wrap (x.arity+x.locals)=(n:Int):=by rw [hn];exact wrap_ok (by omega) (by omega)
   have hwy:=ways_fn u.length n 4096 hul (by omega) (by omega)
   have hsw:=sways_1 (b:=u.length) (L:=4096) (n:=n) hup
   have hgx:=hgok x hxm
   have hgo:x.gOk u=(decide (x.body.clsS.length≤64) && decide (u.length ^ n≤4096)):=by unfold Rl.gOk Rl.ways;rw [hnn]
   rw [hgo,Bool.and_eq_true,decide_eq_true_eq,decide_eq_true_eq] at hgx
   obtain ⟨h64,h4⟩:=hgx
   have hW:x.ways u=u.length ^ n:=by unfold Rl.ways;rw [hnn]
   have hmn:min (sways u.length 4096 n 1) (4096+1)=x.ways u:=by rw [hsw.2 h4,hW];omega
   rw [hmn] at hwy
   rw [←hW] at h4
   have hbe:(p.rels.map bodE)[i]? = some [.sl (x.body.clsS.map encC)]:=by rw [List.getElem?_map,hxi];rfl
   have hbm:(p.rels.map bodE).length=p.rels.length:=List.length_map _
   have hcs:∀c,c∈x.body.clsS→∀g,g∈c→g.inst n:=fun c hc g hg=>Gl.inst_sub (Pg.body_inst hp hxm (m:=n) hn.symm).1 g (clsS_sub hc hg)
   have hcl:∀c,c∈x.body.clsS→c.length≤60:=fun c hc=>Nat.le_trans (Gl.clsS_row x.body c hc).1 (Pg.body_inst hp hxm (m:=n) hn.symm).2.2.2.2.2
   have hgn:Pg.gnd u (x :: r)=rvsB u x (x.ways u) 0 x.body.clsS++Pg.gnd u r:=rfl
   rw [hgn] at i1
   clear hgn hsw hmn hgo hW hgok
   have hxar:x.enc=[.str x.name,.int .i64 x.arity,.int .i64 x.locals]++x.body.enc:=by unfold Rl.enc;simp
   generalize hCS:x.body.clsS=CS at *
   generalize hWW:x.ways u=W at *
   refine run_sound Tryz.func57 mixed 200 _ _ (by kernel_rfl) ?_
   simp only [go_sem,seval,hlt,idx_of hxi,hwr,hbm]
   repeat' (first
    | ((refine hwy.calls rfl ?_)<;>(try simp only [go_sem,seval,hlt,idx_of hxi,hwr,hbm,idx_of hbe]))
    | fail)
   refine AW.rng CS [1,6,13,14,15,62,63,64,81,82] 83 81 (fun L:List RV=>[(11,.own 2 L.length)]) (fun _ L=>[.box (p.enc.map .d),.grow p.rels.length 1 112 (p.rels.map bodE),.grow L.length 6 117 (L.map rvE),.box (x.enc.map .d)]) (fun cs L=>GN=L++(rvsB u x W ((CS.length - cs.length:Nat):Int) cs++Pg.gnd u r)∧L.length≤2000) L rfl (by simp) ⟨by rw [Nat.sub_self];exact i1,i2⟩ (by refine ⟨by simp [mkS],by simp [mkS],by simp only [mkS,List.all_cons,List.all_nil,O.refsLt,C.refsLt,C.refsLt1,all_dmap];first | done | rfl | (simp;done),?_⟩;simp [mkS,Abs.get,C.refsLtT,C.refsLt,C.refsLt1]) (fun ci c cs L hci hdc hltc hmc hinv hnc=>?_) (fun L hinv=>?_)
   ·obtain ⟨i1,i2⟩:=hinv
    have hcm:=List.mem_of_getElem? hci
    have hdl:=congrArg List.length hdc
    simp only [List.length_drop,List.length_cons] at hdl
    have hcs:=hcs c hcm
    have hcl:=hcl c hcm
    have hcil:ci<CS.length:=(List.getElem?_eq_some_iff.1 hci).1
    rw [List.length_cons,show CS.length - (cs.length+1)=ci by omega,rvsB_s,List.append_assoc] at i1
    have hnc:=fun (L:List RV) s' (h2:L.length≤2000) (h1:GN=L++(rvsB u x W ((ci+1:Nat):Int) cs++Pg.gnd u r))=>hnc L s' ⟨by rw [show CS.length - cs.length=ci+1 by omega];exact h1,h2⟩
    rw [show ((ci:Int)+1)=((ci+1:Nat):Int) by omega] at i1
    generalize hX:rvsB u x W ((ci+1:Nat):Int) cs++Pg.gnd u r=X at *
    refine run_sound Tryz.func57 mixed 200 _ _ (by kernel_rfl) ?_
    simp only [go_sem,seval,hltc,idx_of hci,encC_eq]
    refine AW.lp [1,6,13,14,15,16,17,62,63,64,81,82,83] (fun u:Nat×List RV=>[(18,.d (.int .i64 (u.1:Int))),(11,.own 2 u.2.length)]) (fun _ y=>[.box (p.enc.map .d),.grow p.rels.length 1 112 (p.rels.map bodE),.grow y.2.length 6 117 (y.2.map rvE),.box (x.enc.map .d)]) (fun y=>y.1≤W∧GN=y.2++(rvsC u x (ci:Int) c y.1 (W - y.1)++X)∧y.2.length≤2000) (fun y=>W - y.1) (0,L) ⟨Nat.zero_le _,i1,i2⟩ (by refine ⟨by simp [mkS],by simp [mkS],by simp only [mkS,List.all_cons,List.all_nil,O.refsLt,C.refsLt,C.refsLt1,all_dmap];first | done | rfl | (simp;done),?_⟩;simp [mkS,Abs.get,C.refsLtT,C.refsLt,C.refsLt1]) ?_
    rintro ⟨w,L1⟩ ⟨j1,j2,j3⟩ hnw
    dsimp only at j1 j2 j3 hnw ⊢
    have hnw:=fun w' L' s' h=>hnw (w',L') s' h
    clear i1 i2
    by_cases hwW:w<W
    ·have n1:(w:Int)<(W:Int):=by omega
     have hvl:=gVals_len u n w
     have hvm:=gVals_mem hup n w
     rw [show W - w=(W - (w+1))+1 by omega,rvsC_s] at j2
     have hrk:rvK u x (ci:Int) c w=if rvFine u c (gVals u n w)=true then some (rvOf x (ci:Int) c (gVals u n w)) else none:=by unfold rvK;rw [hnn]
     rw [hrk,List.append_assoc] at j2
     have hng:¬(n:Int)<0:=by omega
     obtain ⟨G,hG⟩:∃G,gVals u n w=G:=⟨_,rfl⟩
     rw [hG] at j2 hvl hvm
     clear hrk
     refine run_sound Tryz.func57 mixed 200 _ _ (by kernel_rfl) ?_
     simp only [go_sem,seval,n1,hng]
     repeat' (first
      | ((refine ⟨sd,?_⟩)<;>(try simp only [go_sem,seval,n1,hng]))
      | fail)
     refine AW.lp [1,6,11,13,14,15,16,17,18,19,62,63,64,81,82,83] (fun v:List V×Nat=>[(21,.d (.int .i64 (v.1.length:Int))),(20,.d (.int .i64 (v.2:Int)))]) (fun _ v=>[.box (p.enc.map .d),.grow p.rels.length 1 112 (p.rels.map bodE),.grow L1.length 6 117 (L1.map rvE),.box (x.enc.map .d),.row 4 69 (v.1.map V.enc++List.replicate (n - v.1.length) [.int .i64 0,.int .i64 0,.str [],.sl []])]) (fun v=>v.1++gVals u (n - v.1.length) v.2=G∧v.1.length≤n∧v.2≤w) (fun v=>n - v.1.length) ([],w) ⟨hG,Nat.zero_le _,Nat.le_refl _⟩ (by refine ⟨by simp [mkS],by simp [mkS],by simp only [mkS,List.all_cons,List.all_nil,O.refsLt,C.refsLt,C.refsLt1,all_dmap];first | done | rfl | (simp;done),?_⟩;simp [mkS,Abs.get,C.refsLtT,C.refsLt,C.refsLt1]) ?_
     rintro ⟨vs,y⟩ ⟨k1,k2,k3⟩ hnv
     dsimp only at k1 k2 k3 hnv ⊢
     have hnv:=fun v' y' s' h=>hnv (v',y') s' h
     by_cases hvn:vs.length<n
     ·have n2:(vs.length:Int)<(n:Int):=by omega
      have hm1:y % u.length<u.length:=Nat.mod_lt _ (by omega)
      obtain ⟨v,hv⟩:∃v,u[y % u.length]? = some v:=⟨_,List.getElem?_eq_getElem hm1⟩
      have hve:u.getD (y % u.length) .nil=v:=by rw [List.getD_eq_getElem?_getD,hv];rfl
      have hvd:(u.map V.enc)[y % u.length]? = some v.enc:=by rw [List.getElem?_map,hv];rfl
      have hml:(u.map V.enc).length=u.length:=List.length_map _
      have hdv:y / u.length≤y:=Nat.div_le_self _ _
      have hrm:=tmodN y u.length
      have hqd:=tdivN y u.length
      have h0:¬(u.length:Int)=0:=by omega
      rw [show n - vs.length=(n - (vs.length+1))+1 by omega] at k1
      have hre:gVals u (n - (vs.length+1)+1) y=v :: gVals u (n - (vs.length+1)) (y / u.length):=by rw [←hve];rfl
      rw [hre] at k1
      clear hve hre
      generalize y % u.length=ym at *
      generalize y / u.length=yq at *
      have w1:IntKind.i64.wrap (yq:Int)=(yq:Int):=wrap_ok (by omega) (by omega)
      have w2:IntKind.i64.wrap ((vs.length:Int)+1)=(vs.length:Int)+1:=wrap_ok (by omega) (by omega)
      have n3:(ym:Int)<(u.length:Int):=by omega
      refine run_sound Tryz.func57 mixed 200 _ _ (by kernel_rfl) ?_
      simp only [go_sem,seval,n2,idx_of hvd,hrm,hqd,h0,w1,w2,n3,hml]
      repeat' (first
       | ((refine ⟨sd,?_⟩)<;>(try simp only [go_sem,seval,n2,idx_of hvd,hrm,hqd,h0,w1,w2,n3,hml]))
       | fail)
      rw [mk_step vs v hvn]
      refine hnv (vs++[v]) yq _ ⟨by rw [←k1];simp,by simp;omega,by omega⟩ (by simp;omega) (by refine ⟨by simp [mkS],by simp [mkS],by simp only [mkS,List.all_cons,List.all_nil,O.refsLt,C.refsLt,C.refsLt1,all_dmap];first | done | rfl | (simp;done),?_⟩;simp [mkS,Abs.get,C.refsLtT,C.refsLt,C.refsLt1])
     ·have n2:¬(vs.length:Int)<(n:Int):=by omega
      rw [show n - vs.length=0 by omega] at k1 ⊢
      have e0:gVals u 0 y=[]:=rfl
      rw [e0,List.append_nil] at k1
      subst k1
      clear hnv
      refine run_sound Tryz.func57 mixed 6 _ _ (by kernel_rfl) ?_
      simp only [go_sem,seval,run.eq_1,n2]
      refine AW.freeze 19 4 rfl rfl (by simp;omega) ?_
      try rw [List.replicate_zero,List.append_nil]
      refine AW.drawA mixed #[true,true,true,true,true,true,true,true,true,true,true,false] [(3,.box (x.enc.map .d))] [] [0,1,2,3,4,7,8,10,5,6,9] [11] (some (10,22,117,[.string ⟨#[]⟩,.slice none 0 0,.int .i64 0,.slice none 0 0,.slice none 0 0,.slice none 0 0])) (by kernel_rfl) tz117 (by simp [holdsB]) ?_
      simp only [go_sem,seval]
      refine ⟨z1,by omega,?_⟩
      refine AW.adoptGB 5 4 2 48 (by decide) rfl rfl ?_
      refine AW.adoptGB 5 5 2 48 (by decide) rfl rfl ?_
      refine run_sound Tryz.func57 mixed 200 _ _ (by kernel_rfl) ?_
      simp only [go_sem,seval]
      have hfa:=rvFine_all u vs c
      clear hvm
      refine AW.rng c [1,6,11,13,14,15,16,17,18,19,22,62,63,64,81,82,83,125,126] 127 125 (fun a:Bool×List FcV×List FcV=>[(23,.d (.bool a.1))]) (fun _ a=>[.box (p.enc.map .d),.grow p.rels.length 1 112 (p.rels.map bodE),.grow L1.length 6 117 (L1.map rvE),.box (x.enc.map .d),.dead,.box [.d (.str x.name),.d (.sl ((vs.take x.arity.toNat).map V.enc)),.d (.int .i64 ci),.d (.sl (vs.map V.enc)),.own 6 a.2.1.length,.own 7 a.2.2.length],.grow a.2.1.length 2 48 (a.2.1.map fcE),.grow a.2.2.length 2 48 (a.2.2.map fcE)]) (fun s a=>∃d,c=d++s∧a.2.1.length≤d.length∧a.2.2.length≤d.length∧(a.1=true→a.2.1=clsPos (valAt vs) d∧a.2.2=clsNeg (valAt vs) d∧d.all (okG u vs)=true)∧(a.1=false→c.all (okG u vs)=false)) (true,[],[]) rfl (by simp) ⟨[],rfl,by simp,by simp,fun _=>⟨rfl,rfl,rfl⟩,fun h=>by cases h⟩ (by refine ⟨by simp [mkS],by simp [mkS],by simp only [mkS,List.all_cons,List.all_nil,O.refsLt,C.refsLt,C.refsLt1,all_dmap];first | done | rfl | (simp;done),?_⟩;simp [mkS,Abs.get,C.refsLtT,C.refsLt,C.refsLt1]) (fun gi g s a hgi hdg hltg hmg hinv hng2=>?_) (fun a hinv=>?_)
      ·obtain ⟨fine,P,N⟩:=a
       obtain ⟨d,d1,d2,d3,d4,d5⟩:=hinv
       dsimp only at d2 d3 d4 d5 hng2 ⊢
       have hng2:=fun b P N s' h=>hng2 (b,P,N) s' h
       cases fine with
       | false =>
        have hff:=d5 rfl
        rw [hfa,hff,if_neg (by simp),Option.toList_none,List.nil_append] at j2
        have hn5:¬(2000:Int)<(L1.length:Int):=by omega
        have w7:IntKind.i64.wrap ((w:Int)+1)=((w+1:Nat):Int):=by rw [wrap_ok (by omega) (by omega)];omega
        refine run_sound Tryz.func57 mixed 200 _ _ (by kernel_rfl) ?_
        simp only [go_sem,seval,hn5,w7,hltg,idx_of hgi]
        refine hnw (w+1) L1 _ ⟨by omega,j2,j3⟩ (by dsimp only;omega) (by refine ⟨by simp [mkS],by simp [mkS],by simp only [mkS,List.all_cons,List.all_nil,O.refsLt,C.refsLt,C.refsLt1,all_dmap];first | done | rfl | (simp;done),?_⟩;simp [mkS,Abs.get,C.refsLtT,C.refsLt,C.refsLt1])
       | true =>
        obtain ⟨e1,e2,e3⟩:=d4 rfl
        clear d4 d5
        have hgm:=List.mem_of_getElem? hgi
        have hgn:=hcs g hgm
        rw [←hvl] at hgn
        have hok:(d++[g]).all (okG u vs)=okG u vs g:=by rw [List.all_append,e3];simp
        have hbad:okG u vs g=false→c.all (okG u vs)=false:=fun h=>by rw [d1,List.all_append,List.all_cons,h];simp
        have hd60:d.length≤60:=by have:=congrArg List.length d1;simp at this;omega
        have hP60:P.length≤60:=by omega
        have hN60:N.length≤60:=by omega
        have hps:=clsPos_snoc (valAt vs) d g
        have hns:=clsNeg_snoc (valAt vs) d g
        by_cases h9:g.kind=9
        ·have hcf:=callFact_fn g vs hgn
         have hog:okG u vs g=inUV u (g.callV (valAt vs)):=by unfold okG;rw [if_pos h9]
         have hin:=inUniverse_fn u (g.callV (valAt vs)).2 (by omega)
         rw [show ((g.callV (valAt vs)).2.all fun t=>decide (t∈u))=okG u vs g from hog.symm] at hin
         have hFe:=fcE_eq (g.callV (valAt vs))
         rw [if_pos h9,←e1] at hps
         rw [if_neg (by omega),List.append_nil,←e2] at hns
         change Gives _ _ _ (.d (.agg (fcE (g.callV (valAt vs))))) at hcf
         generalize g.callV (valAt vs)=F at *
         generalize okG u vs g=ok at *
         refine run_sound Tryz.func57 mixed 200 _ _ (by kernel_rfl) ?_
         simp only [go_sem,seval,hltg,idx_of hgi,h9]
         repeat' (first
          | (simp (disch:=omega) only [wrap_ok])
          | ((first
           | (refine hcf.calls rfl ?_)
           | (refine hin.calls rfl ?_)
           | (refine ⟨sd,?_⟩))<;>(try simp only [go_sem,seval,hltg,idx_of hgi,h9,hFe]))
          | fail)
         refine hng2 ok (P++[F]) N _ ⟨d++[g],by rw [d1];simp,by simp;omega,by simp;omega,fun h=>⟨hps.symm,hns.symm,hok.trans h⟩,hbad⟩ (by refine ⟨by simp [mkS,hFe],by simp [mkS,hFe],by simp only [mkS,List.all_cons,List.all_nil,O.refsLt,C.refsLt,C.refsLt1,all_dmap];first | done | rfl | (simp;done),?_⟩;simp [mkS,Abs.get,C.refsLtT,C.refsLt,C.refsLt1,hFe])
        ·rw [if_neg h9,List.append_nil,←e1] at hps
         by_cases h10:g.kind=10
         ·obtain ⟨y,hy⟩:=Gl.shape_not hgn.1 h10
          have hcf:=callFact_fn y vs (Gl.inst_sub hgn y (sub_not hy))
          have hog:okG u vs g=inUV u (y.callV (valAt vs)):=by unfold okG;rw [if_neg h9,if_pos h10,hy];rfl
          have hin:=inUniverse_fn u (y.callV (valAt vs)).2 (by omega)
          rw [show ((y.callV (valAt vs)).2.all fun t=>decide (t∈u))=okG u vs g from hog.symm] at hin
          have hFe:=fcE_eq (y.callV (valAt vs))
          rw [if_pos h10,hy,←e2] at hns
          change Gives _ _ _ (.d (.agg (fcE (y.callV (valAt vs))))) at hcf
          change clsNeg (valAt vs) (d++[g])=N++[y.callV (valAt vs)] at hns
          generalize y.callV (valAt vs)=F at *
          generalize okG u vs g=ok at *
          have hy0:g.goals[0]? = some y:=by rw [hy];rfl
          have hy1:(0:Int)<(g.goals.length:Int):=by rw [hy];simp
          refine run_sound Tryz.func57 mixed 200 _ _ (by kernel_rfl) ?_
          simp only [go_sem,seval,hltg,idx_of hgi,h9,h10,idx_of hy0,hy1]
          repeat' (first
           | (simp (disch:=omega) only [wrap_ok])
           | ((first
            | (refine hcf.calls rfl ?_)
            | (refine hin.calls rfl ?_)
            | (refine ⟨sd,?_⟩))<;>(try simp only [go_sem,seval,hltg,idx_of hgi,h9,h10,hFe,idx_of hy0,hy1]))
           | fail)
          refine hng2 ok P (N++[F]) _ ⟨d++[g],by rw [d1];simp,by simp;omega,by simp;omega,fun h=>⟨hps.symm,hns.symm,hok.trans h⟩,hbad⟩ (by refine ⟨by simp [mkS,hFe],by simp [mkS,hFe],by simp only [mkS,List.all_cons,List.all_nil,O.refsLt,C.refsLt,C.refsLt1,all_dmap];first | done | rfl | (simp;done),?_⟩;simp [mkS,Abs.get,C.refsLtT,C.refsLt,C.refsLt1,hFe])
         ·have htw:=trueWith_fn g vs hgn
          have hog:okG u vs g=g.testV (valAt vs):=by unfold okG;rw [if_neg h9,if_neg h10]
          rw [←hog] at htw
          rw [if_neg h10,List.append_nil,←e2] at hns
          generalize okG u vs g=ok at *
          refine run_sound Tryz.func57 mixed 200 _ _ (by kernel_rfl) ?_
          simp only [go_sem,seval,hltg,idx_of hgi,h9,h10]
          repeat' (first
           | (simp (disch:=omega) only [wrap_ok])
           | ((refine htw.calls rfl ?_)<;>(try simp only [go_sem,seval,hltg,idx_of hgi,h9,h10]))
           | fail)
          refine hng2 ok P N _ ⟨d++[g],by rw [d1];simp,by simp;omega,by simp;omega,fun h=>⟨hps.symm,hns.symm,hok.trans h⟩,hbad⟩ (by refine ⟨by simp [mkS],by simp [mkS],by simp only [mkS,List.all_cons,List.all_nil,O.refsLt,C.refsLt,C.refsLt1,all_dmap];first | done | rfl | (simp;done),?_⟩;simp [mkS,Abs.get,C.refsLtT,C.refsLt,C.refsLt1])
      ·obtain ⟨fine,P,N⟩:=a
       obtain ⟨d,d1,d2,d3,d4,d5⟩:=hinv
       dsimp only at d2 d3 d4 d5 ⊢
       rw [List.append_nil] at d1
       subst d1
       cases fine with
       | false =>
        have hff:=d5 rfl
        rw [hfa,hff,if_neg (by simp),Option.toList_none,List.nil_append] at j2
        have hn5:¬(2000:Int)<(L1.length:Int):=by omega
        have w7:IntKind.i64.wrap ((w:Int)+1)=((w+1:Nat):Int):=by rw [wrap_ok (by omega) (by omega)];omega
        refine run_sound Tryz.func57 mixed 200 _ _ (by kernel_rfl) ?_
        simp only [go_sem,seval,hn5,w7,e0]
        refine hnw (w+1) L1 _ ⟨by omega,j2,j3⟩ (by dsimp only;omega) (by refine ⟨by simp [mkS],by simp [mkS],by simp only [mkS,List.all_cons,List.all_nil,O.refsLt,C.refsLt,C.refsLt1,all_dmap];first | done | rfl | (simp;done),?_⟩;simp [mkS,Abs.get,C.refsLtT,C.refsLt,C.refsLt1])
       | true =>
        obtain ⟨e1,e2,e3⟩:=d4 rfl
        subst e1 e2
        rw [hfa,e3,if_pos rfl,Option.toList_some] at j2
        have hrE:=rvE_eq (rvOf x (ci:Int) c vs)
        unfold rvOf at hrE
        dsimp only at hrE
        have hrF:rvOf x (ci:Int) c vs=⟨(x.name,vs.take x.arity.toNat),(ci:Int),vs,clsPos (valAt vs) c,clsNeg (valAt vs) c⟩:=rfl
        rw [hrF] at j2
        generalize clsPos (valAt vs) c=P at *
        generalize clsNeg (valAt vs) c=N at *
        generalize (RV.mk (x.name,vs.take x.arity.toNat) (ci:Int) vs P N)=RR at *
        have w7:IntKind.i64.wrap ((w:Int)+1)=((w+1:Nat):Int):=by rw [wrap_ok (by omega) (by omega)];omega
        have hrl:(L1.map rvE).length=L1.length:=List.length_map _
        have hj2:GN=(L1++[RR])++(rvsC u x (ci:Int) c (w+1) (W - (w+1))++X):=by rw [j2];simp
        by_cases h20:L1.length<2000
        ·have hn5:¬(2000:Int)<(L1.length:Int)+1:=by omega
         refine run_sound Tryz.func57 mixed 200 _ _ (by kernel_rfl) ?_
         simp only [go_sem,seval,hn5,w7,hrl]
         repeat' (first
          | ((refine ⟨sd,?_⟩)<;>(try simp only [go_sem,seval,hn5,w7,hrl]))
          | fail)
         refine hnw (w+1) (L1++[RR]) _ ⟨by omega,hj2,by simp;omega⟩ (by dsimp only;omega) (by refine ⟨by simp [mkS,hrE],by simp [mkS,hrE],by simp only [mkS,List.all_cons,List.all_nil,O.refsLt,C.refsLt,C.refsLt1,all_dmap];first | done | rfl | (simp;done),?_⟩;simp [mkS,Abs.get,C.refsLtT,C.refsLt,C.refsLt1,hrE])
        ·have hn5:(2000:Int)<(L1.length:Int)+1:=by omega
         rw [Pg.gr_none (hGN.trans hj2) (by simp;omega),grC_none] at hRES
         rw [←hRES]
         refine run_sound Tryz.func57 mixed 200 _ _ (by kernel_rfl) ?_
         simp only [go_sem,seval,hn5,w7,hrl]
         repeat' (first
          | ((refine ⟨sd,?_⟩)<;>(try simp only [go_sem,seval,hn5,w7,hrl]))
          | fail)
         all_goals omega
    ·have n1:¬(w:Int)<(W:Int):=by omega
     rw [show W - w=0 by omega] at j2
     have e0:rvsC u x (ci:Int) c w 0=[]:=rfl
     rw [e0,List.nil_append] at j2
     refine run_sound Tryz.func57 mixed 200 _ _ (by kernel_rfl) ?_
     simp only [go_sem,seval,n1]
     repeat' (first
      | (simp (disch:=omega) only [wrap_ok])
      | (refine hnc L1 _ j3 j2 (by refine ⟨by simp [mkS],by simp [mkS],by simp only [mkS,List.all_cons,List.all_nil,O.refsLt,C.refsLt,C.refsLt1,all_dmap];first | done | rfl | (simp;done),?_⟩;simp [mkS,Abs.get,C.refsLtT,C.refsLt,C.refsLt1]))
      | fail)
     all_goals refine hnc L1 _ j3 (by rw [hX];exact j2) (by refine ⟨by simp [mkS],by simp [mkS],by simp only [mkS,List.all_cons,List.all_nil,O.refsLt,C.refsLt,C.refsLt1,all_dmap];first | done | rfl | (simp;done),?_⟩;simp [mkS,Abs.get,C.refsLtT,C.refsLt,C.refsLt1])
   ·obtain ⟨i1,i2⟩:=hinv
    have e0:rvsB u x W ((CS.length - ([]:List (List Gl)).length:Nat):Int) []=[]:=rfl
    rw [e0,List.nil_append] at i1
    refine run_sound Tryz.func57 mixed 200 _ _ (by kernel_rfl) ?_
    simp only [go_sem,seval]
    repeat' (first
     | (simp (disch:=omega) only [wrap_ok])
     | fail)
    all_goals refine hnext L _ ⟨i1,i2⟩ (by refine ⟨by simp [mkS],by simp [mkS],by simp only [mkS,List.all_cons,List.all_nil,O.refsLt,C.refsLt,C.refsLt1,all_dmap];first | done | rfl | (simp;done),?_⟩;simp [mkS,Abs.get,C.refsLtT,C.refsLt,C.refsLt1])
  ·obtain ⟨i1,i2⟩:=hinv
   have e0:Pg.gnd u []=[]:=rfl
   rw [e0,List.append_nil] at i1
   subst i1
   rw [hgr i2,grC_some] at hRES
   rw [←hRES]
   refine run_sound Tryz.func57 mixed 200 _ _ (by kernel_rfl) ?_
   simp only [go_sem,seval]
theorem l02CopyAll_gn (l:List Tm) (hw:wtR (l.map Tm.enc)≤2000000):Gives Tryz.prog 87 [.sl (l.map Tm.enc)] (.d (.sl (l.map Tm.enc))):=by
 have h:=l02CopyAll_T l hw
 refine ACalls.frozen (ds:=[.sl (l.map Tm.enc)]) (m:=1) h (fun c H' ⟨h1,e,B,h2⟩ _=>?_)
 subst h1 h2;rfl
theorem l02CopyAll_V (l:List V) (hw:wtR (l.map V.enc)≤2000000):Gives Tryz.prog 87 [.sl (l.map V.enc)] (.d (.sl (l.map V.enc))):=by
 have h:=l02CopyAll_gn (l.map V.tm) (by rw [enc_tms];exact hw)
 rw [enc_tms] at h;exact h
theorem l18Copy_V (l:List FcV) (hl:l.length≤2000000) (hw:∀x,x∈l→wtR (x.2.map V.enc)≤2000000):Gives Tryz.prog 52 [.sl (l.map fcE)] (.d (.sl (l.map fcE))):=by
 have hmx:maxLen=9223372036854775807:=rfl
 refine ACalls.enter (fn:=Tryz.f52) Tryz.func52 rfl (by show 1≤_;decide) ?_
 refine run_sound Tryz.func52 mixed 200 _ _ (by kernel_rfl) ?_
 simp only [go_sem,seval]
 refine AW.adopt 3 2 48 (by decide) rfl ?_
 refine AW.rng l [7,8] 9 7 (fun p:List FcV=>[(3,.own 0 p.length)]) (fun _ p=>[.grow p.length 2 48 (p.map fcE)]) (fun r p=>p++r=l) [] rfl (by simp) rfl (by refine ⟨by simp [mkS],by simp [mkS],by simp only [mkS,List.all_cons,List.all_nil,O.refsLt,C.refsLt,C.refsLt1,all_dmap];first | done | rfl | (simp;done),?_⟩;simp [mkS,Abs.get,C.refsLtT,C.refsLt,C.refsLt1]) (fun i x r p hxi hdr hlt hm hinv hnext=>?_) (fun p hinv=>?_)
 ·have hxm:=List.mem_of_getElem? hxi
  have hc:=l02CopyAll_V x.2 (hw x hxm)
  have hpl:p.length+(r.length+1)=l.length:=by rw [←hinv];simp
  have hxe:=fcE_eq x
  generalize hX:fcE x=X at *
  subst hxe
  refine run_sound Tryz.func52 mixed 9 _ _ (by kernel_rfl) ?_
  simp only [go_sem,seval,run.eq_1,hlt,idx_of hxi,hX]
  refine AW.drawA mixed #[true,true,true,true,true,true,true,true,true,false] [(1,.box [.d (.str x.1),.d (.sl (x.2.map V.enc))])] [] [0,1,2,3,4,5,6,7,8] [9] none (by kernel_rfl) trivial (by simp [holdsB]) ?_
  simp only [go_sem,seval]
  repeat' (first
   | ((first
    | (refine hc.calls rfl ?_)
    | (refine ⟨sd,?_⟩))<;>(try simp only [go_sem,seval]))
   | fail)
  refine run_sound Tryz.func52 mixed 200 _ _ (by kernel_rfl) ?_
  simp only [go_sem,seval]
  repeat' (first
   | (simp (disch:=omega) only [wrap_ok])
   | fail)
  refine hnext (p++[x]) _ (by simp [←hinv]) (by refine ⟨by simp [mkS,hX],by simp [mkS,hX],by simp only [mkS,List.all_cons,List.all_nil,O.refsLt,C.refsLt,C.refsLt1,all_dmap];first | done | rfl | (simp;done),?_⟩;simp [mkS,Abs.get,C.refsLtT,C.refsLt,C.refsLt1])
 ·simp only [List.append_nil] at hinv
  subst hinv
  refine run_sound Tryz.func52 mixed 200 _ _ (by kernel_rfl) ?_
  simp only [go_sem,seval]
theorem posLen {c:List Gl} {n:Nat} (h:∀g,g∈c→g.inst n) (f:Int→V):∀x,x∈clsPos f c→x.2.length≤4:=fun x hx=>by
 unfold clsPos at hx
 obtain ⟨g,hg,rfl⟩:=List.mem_map.1 hx
 rw [List.mem_filter] at hg
 have:=(Gl.shape_len (h g hg.1).1).1
 simp [Gl.callV];exact this
theorem negLen {c:List Gl} {n:Nat} (h:∀g,g∈c→g.inst n) (f:Int→V):∀x,x∈clsNeg f c→x.2.length≤4:=fun x hx=>by
 unfold clsNeg at hx
 obtain ⟨y,hy,rfl⟩:=List.mem_map.1 hx
 obtain ⟨g,hg,hgy⟩:=List.mem_filterMap.1 hy
 rw [List.mem_filter] at hg
 have hym:y∈g.goals:=by cases hq:g.goals with | nil=>rw [hq] at hgy;cases hgy | cons a b=>rw [hq] at hgy;cases hgy;simp
 have:=(Gl.shape_len (Gl.inst_goals (h g hg.1) y hym).1).1
 simp [Gl.callV];exact this
theorem uniwts {u:List V} (hu:Uni u) (l:List V) (hl:∀v,v∈l→v∈u) (hn:l.length≤12):wtR (l.map V.enc)≤2000000:=by
 have:=oks_wtV l (List.all_eq_true.2 fun v hv=>hu.ok v (hl v hv))
 omega
theorem inUV_wt {u:List V} (hu:Uni u) {fs:List FcV} (h:fs.all (inUV u)=true) (hl:∀x,x∈fs→x.2.length≤4):∀x,x∈fs→wtR (x.2.map V.enc)≤2000000:=fun x hx=>by
 have h1:=List.all_eq_true.1 h x hx
 unfold inUV at h1
 have h2:=hl x hx
 exact uniwts hu _ (fun v hv=>by simpa using List.all_eq_true.1 h1 v hv) (by omega)
def Over (G L R:List RV):Prop:=(L.length≤2000∧G=L++R)∨(L.length=2001∧∃X,G=L++X)
theorem Over.le {G L R:List RV} (h:Over G L R):L.length≤2001:=by rcases h with h | h<;>omega
theorem Over.full {G L R R':List RV} (h:Over G L R) (hl:¬L.length≤2000):Over G L R':=by
 rcases h with h | h
 ·omega
 ·exact Or.inr h
theorem Over.step {G L R R':List RV} {o:Option RV} (h:Over G L R) (hl:L.length≤2000) (hr:R=o.toList++R'):Over G (L++o.toList) R':=by
 rcases h with ⟨h1,h2⟩ | h
 ·subst hr
  have e:G=(L++o.toList)++R':=by rw [h2,List.append_assoc]
  have h3:(L++o.toList).length≤2001:=by cases o<;>simp<;>omega
  by_cases h4:(L++o.toList).length≤2000
  ·exact Or.inl ⟨h4,e⟩
  ·exact Or.inr ⟨by omega,_,e⟩
 ·omega
def vrs (n:Nat):List (List D):=intsD ((List.range n).map fun i:Nat=>(i:Int))
theorem vrs_0:vrs 0=[]:=rfl
theorem vrs_s (n:Nat):vrs (n+1)=vrs n++[[.int .i64 (n:Int)]]:=by simp [vrs,intsD,List.range_succ]
@[go_sem] theorem vrs_len (n:Nat):(vrs n).length=n:=by simp [vrs,intsD]
theorem sGroundRules_V (p:Pg) (u:List V) (hp:pgOk p=true) (hw:wtL p.enc≤1048576) (hu:Uni u) (hua:Gives Tryz.prog 81 [.sl (u.map V.enc)] (.d (.bool true))):Gives Tryz.prog 50 [.agg p.enc,.sl (u.map V.enc)] (grC (p.gr u)):=by
 have hmx:maxLen=9223372036854775807:=rfl
 have hul:=hu.le
 have hup:=hu.pos
 have ha:=sProgramOk_fn p (by omega)
 rw [hp] at ha
 have hml:(u.map V.enc).length=u.length:=List.length_map _
 obtain ⟨RES,hRES⟩:∃RES,grC (p.gr u)=RES:=⟨_,rfl⟩
 rw [hRES]
 have hpl:p.rels.length≤8:=by
  unfold pgOk at hp;rw [Bool.and_eq_true,decide_eq_true_eq] at hp;exact hp.1
 refine ACalls.enter (fn:=Tryz.f50) Tryz.func50 rfl (by show 2≤_;decide) ?_
 refine run_sound Tryz.func50 mixed 200 _ _ (by kernel_rfl) ?_
 simp only [go_sem,seval]
 repeat' (first
  | ((first
   | (refine ha.calls rfl ?_)
   | (refine hua.calls rfl ?_))<;>(try simp only [go_sem,seval]))
  | fail)
 obtain ⟨GN,hGN⟩:∃GN,Pg.gnd u p.rels=GN:=⟨_,rfl⟩
 refine AW.adopt 6 6 117 (by decide) rfl ?_
 refine AW.rng p.rels [1,29,30] 31 29 (fun L:List RV=>[(6,.own 1 L.length)]) (fun _ L=>[.box (p.enc.map .d),.grow L.length 6 117 (L.map rvE)]) (fun r L=>(∃d,p.rels=d++r∧d.all (Rl.gOk u)=true)∧Over GN L (Pg.gnd u r)) [] rfl (by simp) ⟨⟨[],rfl,rfl⟩,Or.inl ⟨by simp,hGN.symm⟩⟩ (by refine ⟨by simp [mkS],by simp [mkS],by simp only [mkS,List.all_cons,List.all_nil,O.refsLt,C.refsLt,C.refsLt1,all_dmap];first | done | rfl | (simp;done),?_⟩;simp [mkS,Abs.get,C.refsLtT,C.refsLt,C.refsLt1]) (fun i x r L hxi hdr hlt hm hinv hnext=>?_) (fun L hinv=>?_)
 ·obtain ⟨⟨dn,i0,i1⟩,i2⟩:=hinv
  have hxm:=List.mem_of_getElem? hxi
  obtain ⟨z1,z2,z3,z4⟩:=Pg.dims hp hxm
  obtain ⟨n,hn⟩:∃n:Nat,x.arity+x.locals=(n:Int):=⟨(x.arity+x.locals).toNat,by omega⟩
  have hnn:(x.arity+x.locals).toNat=n:=by omega
  have hn12:n≤12:=by omega
  have hL1:=i2.le
  have hwr:IntKind.i64.wrap (x.arity+x.locals)=(n:Int):=by rw [hn];exact wrap_ok (by omega) (by omega)
  obtain ⟨hbi,_,_,_,_,hbc⟩:=Pg.body_inst hp hxm (m:=n) hn.symm
  have hbg:glOk x.body=true:=by simp only [glOk,Bool.and_eq_true,decide_eq_true_eq,glOk];exact ⟨by omega,hbi.1⟩
  have hcl:=sClausesOf_fn x.body (by have:=Pg.wt_rels hxm;have:=Rl.wt_body x;omega)
  have hwy:=l08Ways_fn u.length n 4096 hul (by omega) (by omega)
  have hsw:=sways_1 (b:=u.length) (L:=4096) (n:=n) hup
  have hgo:x.gOk u=(decide (x.body.clsS.length≤64) && decide (u.length ^ n≤4096)):=by unfold Rl.gOk Rl.ways;rw [hnn]
  have hW:x.ways u=u.length ^ n:=by unfold Rl.ways;rw [hnn]
  have hxar:x.enc=[.str x.name,.int .i64 x.arity,.int .i64 x.locals]++x.body.enc:=by unfold Rl.enc;simp
  refine run_sound Tryz.func50 mixed 12 _ _ (by kernel_rfl) ?_
  simp only [go_sem,seval,run.eq_1,hlt,idx_of hxi]
  refine AW.adopt 9 1 3 (by decide) rfl ?_
  refine run_sound Tryz.func50 mixed 3 _ _ (by kernel_rfl) ?_
  simp only [go_sem,seval,run.eq_1]
  refine AW.lp [1,6,8,29,30,31] (fun y:Nat=>[(10,.d (.int .i64 (y:Int))),(9,.own 3 y)]) (fun _ y=>[.box (p.enc.map .d),.grow L.length 6 117 (L.map rvE),.box (x.enc.map .d),.grow y 1 3 (vrs y)]) (fun y=>y≤n) (fun y=>n - y) 0 (Nat.zero_le _) (by refine ⟨by simp [mkS,vrs_0],by simp [mkS,vrs_0],by simp only [mkS,List.all_cons,List.all_nil,O.refsLt,C.refsLt,C.refsLt1,all_dmap];first | done | rfl | (simp;done),?_⟩;simp [mkS,Abs.get,C.refsLtT,C.refsLt,C.refsLt1]) ?_
  intro y hy hny
  by_cases hyn:y<n
  ·have n1:(y:Int)<(n:Int):=by omega
   have w1:IntKind.i64.wrap ((y:Int)+1)=((y+1:Nat):Int):=by rw [wrap_ok (by omega) (by omega)];omega
   refine run_sound Tryz.func50 mixed 200 _ _ (by kernel_rfl) ?_
   simp only [go_sem,seval,hwr,n1,w1]
   repeat' (first
    | ((refine ⟨sd,?_⟩)<;>(try simp only [go_sem,seval,hwr,n1,w1]))
    | fail)
   refine hny (y+1) _ (by omega) (by omega) (by refine ⟨by simp [mkS,vrs_s],by simp [mkS,vrs_s],by simp only [mkS,List.all_cons,List.all_nil,O.refsLt,C.refsLt,C.refsLt1,all_dmap];first | done | rfl | (simp;done),?_⟩;simp [mkS,Abs.get,C.refsLtT,C.refsLt,C.refsLt1])
  have hyy:y=n:=by omega
  subst hyy
  clear hny
  have n1:¬(y:Int)<(y:Int):=by omega
  refine run_sound Tryz.func50 mixed 6 _ _ (by kernel_rfl) ?_
  simp only [go_sem,seval,run.eq_1,hwr,n1]
  refine AW.readG 9 3 rfl rfl ?_
  by_cases h64:x.body.clsS.length≤64
  ·rw [if_pos ⟨hbg,h64⟩] at hcl
   unfold clsR at hcl
   rw [Option.getD_some,Option.isSome_some] at hcl
   by_cases h4:u.length ^ y≤4096
   ·have hg : x.gOk u=true:=by rw [hgo,decide_eq_true h64,decide_eq_true h4];rfl
    rw [hsw.2 h4,←hW] at hwy
    rw [←hW] at h4
    have hcs:∀c,c∈x.body.clsS→∀g,g∈c→g.inst y:=fun c hc g hg=>Gl.inst_sub hbi g (clsS_sub hc hg)
    have hcn:∀c,c∈x.body.clsS→c.length≤60:=fun c hc=>Nat.le_trans (Gl.clsS_row x.body c hc).1 hbc
    have hgn:Pg.gnd u (x :: r)=rvsB u x (x.ways u) 0 x.body.clsS++Pg.gnd u r:=rfl
    rw [hgn] at i2
    clear hgn hsw hgo hW hbg
    have hnext:=fun (L:List RV) s' (h:Over GN L (Pg.gnd u r))=>hnext L s' ⟨⟨dn++[x],by rw [i0];simp,by rw [List.all_append,i1];simp [hg]⟩,h⟩
    generalize hCS:x.body.clsS=CS at *
    generalize hWW:x.ways u=W at *
    have n2:¬(4096:Int)<(W:Int):=by omega
    refine run_sound Tryz.func50 mixed 200 _ _ (by kernel_rfl) ?_
    simp only [go_sem,seval,n2]
    repeat' (first
     | ((first
      | (refine hcl.calls rfl ?_)
      | (refine hwy.calls rfl ?_))<;>(try simp only [go_sem,seval,n2]))
     | fail)
    refine AW.rng CS [1,8,9,13,29,30,31,66,67] 68 66 (fun L:List RV=>[(6,.own 1 L.length)]) (fun _ L=>[.box (p.enc.map .d),.grow L.length 6 117 (L.map rvE),.box (x.enc.map .d),.grow y 1 3 (vrs y)]) (fun cs L=>Over GN L (rvsB u x W ((CS.length - cs.length:Nat):Int) cs++Pg.gnd u r)) L rfl (by simp) (by rw [Nat.sub_self];exact i2) (by refine ⟨by simp [mkS],by simp [mkS],by simp only [mkS,List.all_cons,List.all_nil,O.refsLt,C.refsLt,C.refsLt1,all_dmap];first | done | rfl | (simp;done),?_⟩;simp [mkS,Abs.get,C.refsLtT,C.refsLt,C.refsLt1]) (fun ci c cs L hci hdc hltc hmc hinv hnc=>?_) (fun L hinv=>?_)
    ·have hcm:=List.mem_of_getElem? hci
     have hdl:=congrArg List.length hdc
     simp only [List.length_drop,List.length_cons] at hdl
     have hcs:=hcs c hcm
     have hcn:=hcn c hcm
     have hcil:ci<CS.length:=(List.getElem?_eq_some_iff.1 hci).1
     rw [List.length_cons,show CS.length - (cs.length+1)=ci by omega,rvsB_s,List.append_assoc] at hinv
     have hnc:=fun (L:List RV) s' (h1:Over GN L (rvsB u x W ((ci+1:Nat):Int) cs++Pg.gnd u r))=>hnc L s' (by rw [show CS.length - cs.length=ci+1 by omega];exact h1)
     rw [show ((ci:Int)+1)=((ci+1:Nat):Int) by omega] at hinv
     generalize hX:rvsB u x W ((ci+1:Nat):Int) cs++Pg.gnd u r=X at *
     refine run_sound Tryz.func50 mixed 200 _ _ (by kernel_rfl) ?_
     simp only [go_sem,seval,hltc,idx_of hci,encC_eq]
     refine AW.lp [1,8,9,13,14,15,29,30,31,66,67,68] (fun q:Nat×List RV=>[(16,.d (.int .i64 (q.1:Int))),(6,.own 1 q.2.length)]) (fun _ q=>[.box (p.enc.map .d),.grow q.2.length 6 117 (q.2.map rvE),.box (x.enc.map .d),.grow y 1 3 (vrs y)]) (fun q=>q.1≤W∧Over GN q.2 (rvsC u x (ci:Int) c q.1 (W - q.1)++X)) (fun q=>W - q.1) (0,L) ⟨Nat.zero_le _,hinv⟩ (by refine ⟨by simp [mkS],by simp [mkS],by simp only [mkS,List.all_cons,List.all_nil,O.refsLt,C.refsLt,C.refsLt1,all_dmap];first | done | rfl | (simp;done),?_⟩;simp [mkS,Abs.get,C.refsLtT,C.refsLt,C.refsLt1]) ?_
     rintro ⟨w,L1⟩ ⟨j1,j2⟩ hnw
     dsimp only at j1 j2 hnw ⊢
     have hnw:=fun w' L' s' h=>hnw (w',L') s' h
     have hL2:=j2.le
     by_cases hwW:w<W
     ·have n3:(w:Int)<(W:Int):=by omega
      by_cases hw2:L1.length≤2000
      ·have n4:(L1.length:Int)≤2000:=by omega
       have hvl:=gVals_len u y w
       have hvm:=gVals_mem hup y w
       rw [show W - w=(W - (w+1))+1 by omega,rvsC_s,List.append_assoc] at j2
       have hrk:rvK u x (ci:Int) c w=if rvFine u c (gVals u y w)=true then some (rvOf x (ci:Int) c (gVals u y w)) else none:=by unfold rvK;rw [hnn]
       have hva:Gives Tryz.prog 85 [.sl (vrs y),.sl (u.map V.enc),.int .i64 w] (.d (.sl (bdD (gVals u y w)))):=l08Values_fn u y w hup (by omega) (by omega) (by omega)
       have w7:IntKind.i64.wrap ((w:Int)+1)=((w+1:Nat):Int):=by rw [wrap_ok (by omega) (by omega)];omega
       generalize gVals u y w=vs at *
       have hru:=l18Rule_fn x (ci:Int) c vs (by rw [hvl];exact hcs) (by omega) z1 z3 (by omega) (by omega)
       rw [←rvOf_ru] at hru
       have hre:∀d,(rvOf x (ci:Int) d vs).ru.enc=rvE (rvOf x (ci:Int) d vs):=fun d=>rfl
       rw [hre,rvE_eq] at hru
       unfold rvFine at hrk
       cases hh:clsHolds (valAt vs) c with
       | false =>
        rw [hh] at hru hrk
        rw [hrk] at j2
        refine run_sound Tryz.func50 mixed 8 _ _ (by kernel_rfl) ?_
        simp only [go_sem,seval,run.eq_1,n3,n4]
        refine AW.drawA mixed #[true,true,true,true,true,true,true,true,true,true,true,true,false,false] [(2,.box (x.enc.map .d))] [] [0,1,2,3,4,5,11,6,7,8,9,10] [12,13] (some (11,17,117,[.string ⟨#[]⟩,.slice none 0 0,.int .i64 0,.slice none 0 0,.slice none 0 0,.slice none 0 0])) (by kernel_rfl) tz117 (by simp [holdsB]) ?_
        simp only [go_sem,seval]
        repeat' (first
         | ((first
          | (refine hva.calls rfl ?_)
          | (refine hru.calls rfl ?_))<;>(try simp only [go_sem,seval]))
         | fail)
        refine run_sound Tryz.func50 mixed 200 _ _ (by kernel_rfl) ?_
        simp only [go_sem,seval]
        repeat' (first
         | (simp (disch:=omega) only [wrap_ok])
         | fail)
        refine hnw (w+1) L1 _ ⟨by omega,j2⟩ (by dsimp only;omega) (by refine ⟨by simp [mkS],by simp [mkS],by simp only [mkS,List.all_cons,List.all_nil,O.refsLt,C.refsLt,C.refsLt1,all_dmap];first | done | rfl | (simp;done),?_⟩;simp [mkS,Abs.get,C.refsLtT,C.refsLt,C.refsLt1])
       | true =>
        have hpre:=(clsPre_all hh).1
        rw [hh,hpre] at hru
        rw [hh,Bool.true_and] at hrk
        have hiP:=l18Inside_fn (clsPos (valAt vs) c) u (by omega)
        have hiN:=l18Inside_fn (clsNeg (valAt vs) c) u (by omega)
        have hrF:rvOf x (ci:Int) c vs=⟨(x.name,vs.take x.arity.toNat),(ci:Int),vs,clsPos (valAt vs) c,clsNeg (valAt vs) c⟩:=rfl
        have hpl:=posLen hcs (valAt vs)
        have hnl:=negLen hcs (valAt vs)
        rw [hrF] at hru hrk
        dsimp only at hru
        have hP1:=clsPos_len (valAt vs) c
        have hN1:=clsNeg_len (valAt vs) c
        generalize clsPos (valAt vs) c=P at *
        generalize clsNeg (valAt vs) c=N at *
        by_cases hin:(P.all (inUV u) && N.all (inUV u))=true
        ·rw [hin,if_pos rfl] at hrk
         rw [hrk] at j2
         rw [Bool.and_eq_true] at hin
         rw [hin.1] at hiP
         rw [hin.2] at hiN
         have hcP:=l18Copy_V P (by omega) (inUV_wt hu hin.1 hpl)
         have hcN:=l18Copy_V N (by omega) (inUV_wt hu hin.2 hnl)
         have hcV:=l02CopyAll_V vs (uniwts hu vs hvm (by omega))
         have hcA:=l02CopyAll_V (vs.take x.arity.toNat) (uniwts hu _ (fun v hv=>hvm v (List.mem_of_mem_take hv)) (by simp;omega))
         have hrE:=rvE_eq (RV.mk (x.name,vs.take x.arity.toNat) (ci:Int) vs P N)
         dsimp only at hrE
         have hj2:Over GN (L1++[RV.mk (x.name,vs.take x.arity.toNat) (ci:Int) vs P N]) (rvsC u x (ci:Int) c (w+1) (W - (w+1))++X):=j2.step (o:=some _) hw2 rfl
         generalize (RV.mk (x.name,vs.take x.arity.toNat) (ci:Int) vs P N)=RR at *
         refine run_sound Tryz.func50 mixed 8 _ _ (by kernel_rfl) ?_
         simp only [go_sem,seval,run.eq_1,n3,n4]
         refine AW.drawA mixed #[true,true,true,true,true,true,true,true,true,true,true,true,false,false] [(2,.box (x.enc.map .d))] [] [0,1,2,3,4,5,11,6,7,8,9,10] [12,13] (some (11,17,117,[.string ⟨#[]⟩,.slice none 0 0,.int .i64 0,.slice none 0 0,.slice none 0 0,.slice none 0 0])) (by kernel_rfl) tz117 (by simp [holdsB]) ?_
         simp only [go_sem,seval]
         repeat' (first
          | ((first
           | (refine hva.calls rfl ?_)
           | (refine hru.calls rfl ?_))<;>(try simp only [go_sem,seval]))
          | fail)
         refine run_sound Tryz.func50 mixed 200 _ _ (by kernel_rfl) ?_
         simp only [go_sem,seval]
         repeat' (first
          | ((first
           | (refine hiP.calls rfl ?_)
           | (refine hiN.calls rfl ?_)
           | (refine hcP.calls rfl ?_)
           | (refine hcN.calls rfl ?_)
           | (refine hcV.calls rfl ?_)
           | (refine hcA.calls rfl ?_)
           | (refine ⟨sd,?_⟩))<;>(try simp only [go_sem,seval,w7]))
          | fail)
         refine hnw (w+1) (L1++[RR]) _ ⟨by omega,hj2⟩ (by dsimp only;omega) (by refine ⟨by simp [mkS,hrE],by simp [mkS,hrE],by simp only [mkS,List.all_cons,List.all_nil,O.refsLt,C.refsLt,C.refsLt1,all_dmap];first | done | rfl | (simp;done),?_⟩;simp [mkS,Abs.get,C.refsLtT,C.refsLt,C.refsLt1,hrE])
        ·rw [if_neg hin] at hrk
         rw [hrk] at j2
         cases hp1:P.all (inUV u) with
         | false =>
          rw [hp1] at hiP
          refine run_sound Tryz.func50 mixed 8 _ _ (by kernel_rfl) ?_
          simp only [go_sem,seval,run.eq_1,n3,n4]
          refine AW.drawA mixed #[true,true,true,true,true,true,true,true,true,true,true,true,false,false] [(2,.box (x.enc.map .d))] [] [0,1,2,3,4,5,11,6,7,8,9,10] [12,13] (some (11,17,117,[.string ⟨#[]⟩,.slice none 0 0,.int .i64 0,.slice none 0 0,.slice none 0 0,.slice none 0 0])) (by kernel_rfl) tz117 (by simp [holdsB]) ?_
          simp only [go_sem,seval]
          repeat' (first
           | ((first
            | (refine hva.calls rfl ?_)
            | (refine hru.calls rfl ?_))<;>(try simp only [go_sem,seval]))
           | fail)
          refine run_sound Tryz.func50 mixed 200 _ _ (by kernel_rfl) ?_
          simp only [go_sem,seval]
          repeat' (first
           | ((refine hiP.calls rfl ?_)<;>(try simp only [go_sem,seval,w7]))
           | fail)
          refine hnw (w+1) L1 _ ⟨by omega,j2⟩ (by dsimp only;omega) (by refine ⟨by simp [mkS],by simp [mkS],by simp only [mkS,List.all_cons,List.all_nil,O.refsLt,C.refsLt,C.refsLt1,all_dmap];first | done | rfl | (simp;done),?_⟩;simp [mkS,Abs.get,C.refsLtT,C.refsLt,C.refsLt1])
         | true =>
          rw [hp1] at hiP
          have hp2:N.all (inUV u)=false:=by rw [hp1,Bool.true_and] at hin;simpa using hin
          rw [hp2] at hiN
          refine run_sound Tryz.func50 mixed 8 _ _ (by kernel_rfl) ?_
          simp only [go_sem,seval,run.eq_1,n3,n4]
          refine AW.drawA mixed #[true,true,true,true,true,true,true,true,true,true,true,true,false,false] [(2,.box (x.enc.map .d))] [] [0,1,2,3,4,5,11,6,7,8,9,10] [12,13] (some (11,17,117,[.string ⟨#[]⟩,.slice none 0 0,.int .i64 0,.slice none 0 0,.slice none 0 0,.slice none 0 0])) (by kernel_rfl) tz117 (by simp [holdsB]) ?_
          simp only [go_sem,seval]
          repeat' (first
           | ((first
            | (refine hva.calls rfl ?_)
            | (refine hru.calls rfl ?_))<;>(try simp only [go_sem,seval]))
           | fail)
          refine run_sound Tryz.func50 mixed 200 _ _ (by kernel_rfl) ?_
          simp only [go_sem,seval]
          repeat' (first
           | ((first
            | (refine hiP.calls rfl ?_)
            | (refine hiN.calls rfl ?_))<;>(try simp only [go_sem,seval,w7]))
           | fail)
          refine hnw (w+1) L1 _ ⟨by omega,j2⟩ (by dsimp only;omega) (by refine ⟨by simp [mkS],by simp [mkS],by simp only [mkS,List.all_cons,List.all_nil,O.refsLt,C.refsLt,C.refsLt1,all_dmap];first | done | rfl | (simp;done),?_⟩;simp [mkS,Abs.get,C.refsLtT,C.refsLt,C.refsLt1])
      ·have n4:¬(L1.length:Int)≤2000:=by omega
       refine run_sound Tryz.func50 mixed 200 _ _ (by kernel_rfl) ?_
       simp only [go_sem,seval,n3,n4]
       repeat' (first
        | (simp (disch:=omega) only [wrap_ok])
        | fail)
       all_goals refine hnc L1 _ (j2.full hw2) (by refine ⟨by simp [mkS],by simp [mkS],by simp only [mkS,List.all_cons,List.all_nil,O.refsLt,C.refsLt,C.refsLt1,all_dmap];first | done | rfl | (simp;done),?_⟩;simp [mkS,Abs.get,C.refsLtT,C.refsLt,C.refsLt1])
     ·have n3:¬(w:Int)<(W:Int):=by omega
      rw [show W - w=0 by omega] at j2
      have e0:rvsC u x (ci:Int) c w 0=[]:=rfl
      rw [e0,List.nil_append] at j2
      refine run_sound Tryz.func50 mixed 200 _ _ (by kernel_rfl) ?_
      simp only [go_sem,seval,n3]
      repeat' (first
       | (simp (disch:=omega) only [wrap_ok])
       | fail)
      all_goals refine hnc L1 _ j2 (by refine ⟨by simp [mkS],by simp [mkS],by simp only [mkS,List.all_cons,List.all_nil,O.refsLt,C.refsLt,C.refsLt1,all_dmap];first | done | rfl | (simp;done),?_⟩;simp [mkS,Abs.get,C.refsLtT,C.refsLt,C.refsLt1])
    ·have e0:rvsB u x W ((CS.length - ([]:List (List Gl)).length:Nat):Int) []=[]:=rfl
     rw [e0,List.nil_append] at hinv
     refine run_sound Tryz.func50 mixed 200 _ _ (by kernel_rfl) ?_
     simp only [go_sem,seval]
     repeat' (first
      | (simp (disch:=omega) only [wrap_ok])
      | fail)
     all_goals refine hnext L _ hinv (by refine ⟨by simp [mkS],by simp [mkS],by simp only [mkS,List.all_cons,List.all_nil,O.refsLt,C.refsLt,C.refsLt1,all_dmap];first | done | rfl | (simp;done),?_⟩;simp [mkS,Abs.get,C.refsLtT,C.refsLt,C.refsLt1])
   ·have hg:x.gOk u=false:=by rw [hgo,decide_eq_false h4,Bool.and_false]
    have h41:¬sways u.length 4096 y 1≤4096:=fun h=>h4 (hsw.1.2 h)
    have n2:(4096:Int)<(sways u.length 4096 y 1:Int):=by omega
    rw [Pg.gr_bad hxm hg,grC_none] at hRES
    rw [←hRES]
    generalize sways u.length 4096 y 1=W at *
    refine run_sound Tryz.func50 mixed 200 _ _ (by kernel_rfl) ?_
    simp only [go_sem,seval,n2]
    repeat' (first
     | ((first
      | (refine hcl.calls rfl ?_)
      | (refine hwy.calls rfl ?_))<;>(try simp only [go_sem,seval,n2]))
     | fail)
  ·have hg:x.gOk u=false:=by rw [hgo,decide_eq_false h64,Bool.false_and]
   rw [if_neg (fun h=>h64 h.2)] at hcl
   unfold clsR at hcl
   rw [Option.getD_none,Option.isSome_none] at hcl
   rw [Pg.gr_bad hxm hg,grC_none] at hRES
   rw [←hRES]
   generalize sways u.length 4096 y 1=W at *
   refine run_sound Tryz.func50 mixed 200 _ _ (by kernel_rfl) ?_
   simp only [go_sem,seval]
   repeat' (first
    | ((first
     | (refine hcl.calls rfl ?_)
     | (refine hwy.calls rfl ?_))<;>(try simp only [go_sem,seval]))
    | fail)
 ·obtain ⟨⟨dn,i0,i1⟩,i2⟩:=hinv
  rw [List.append_nil] at i0
  subst i0
  have e0:Pg.gnd u []=[]:=rfl
  rw [e0] at i2
  rcases i2 with ⟨h1,h2⟩ | ⟨h1,X,h2⟩
  ·rw [List.append_nil] at h2
   rw [Pg.gr_some i1 (by rw [hGN,h2];exact h1),hGN,h2,grC_some] at hRES
   rw [←hRES]
   have n5:¬(2000:Int)<(L.length:Int):=by omega
   refine run_sound Tryz.func50 mixed 200 _ _ (by kernel_rfl) ?_
   simp only [go_sem,seval,n5]
  ·rw [Pg.gr_none (hGN.trans h2) (by omega),grC_none] at hRES
   rw [←hRES]
   have n5:(2000:Int)<(L.length:Int):=by omega
   refine run_sound Tryz.func50 mixed 200 _ _ (by kernel_rfl) ?_
   simp only [go_sem,seval,n5]
def Pg.grO (p:Pg) (u:List Tm):Option (List RV):=if pgOk p=true∧uniOk u=true then p.gr (u.map Tm.V) else none
theorem sGroundRules_fn (p:Pg) (u:List Tm) (hw:wtL p.enc≤1048576) (hwu:∀t,t∈u→wtL t.enc≤1048576) (hlu:u.length≤9000000):Gives Tryz.prog 50 [.agg p.enc,.sl (u.map Tm.enc)] (grC (Pg.grO p u)):=by
 have ha:=sProgramOk_fn p (by omega)
 have hb:=sUniverseOk_fn u hwu hlu
 unfold Pg.grO
 by_cases h1:pgOk p=true
 ·by_cases h2:uniOk u=true
  ·rw [if_pos ⟨h1,h2⟩]
   obtain ⟨hu,he⟩:=Uni.of h2
   rw [h2] at hb
   have hee:u.map Tm.enc=(u.map Tm.V).map V.enc:=by rw [←enc_tms,←he]
   rw [hee] at hb ⊢
   exact sGroundRules_V p _ h1 hw hu hb
  ·rw [if_neg (fun h=>h2 h.2),grC_none]
   rw [h1] at ha
   simp only [Bool.not_eq_true] at h2
   rw [h2] at hb
   refine ACalls.enter (fn:=Tryz.f50) Tryz.func50 rfl (by show 2≤_;decide) ?_
   refine run_sound Tryz.func50 mixed 200 _ _ (by kernel_rfl) ?_
   simp only [go_sem,seval]
   repeat' (first
    | ((first
     | (refine ha.calls rfl ?_)
     | (refine hb.calls rfl ?_))<;>(try simp only [go_sem,seval]))
    | fail)
 ·rw [if_neg (fun h=>h1 h.1),grC_none]
  simp only [Bool.not_eq_true] at h1
  rw [h1] at ha
  refine ACalls.enter (fn:=Tryz.f50) Tryz.func50 rfl (by show 2≤_;decide) ?_
  refine run_sound Tryz.func50 mixed 200 _ _ (by kernel_rfl) ?_
  simp only [go_sem,seval]
  repeat' (first
   | ((refine ha.calls rfl ?_)<;>(try simp only [go_sem,seval]))
   | fail)
end Go.Proofs.YtockpdkdnlkkfaaGreat
