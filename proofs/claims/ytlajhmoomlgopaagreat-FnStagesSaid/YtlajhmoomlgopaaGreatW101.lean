import Derived.Test.YtlajhmoomlgopaaGreatFx
import Derived.Test.YtlajhmoomlgopaaGreatA10
namespace Go.Proofs.YtlajhmoomlgopaaGreat
open Go.Abs
set_option maxRecDepth 100000
set_option maxHeartbeats 4000000
set_option linter.unusedSimpArgs false
set_option linter.unusedVariables false
theorem wrapN {x:Int} (n:Nat) (e:x=n) (h:n≤9223372036854775807):IntKind.i64.wrap x=(n:Int):=by
 rw [e];exact wrap_ok (by omega) (by omega)
section
variable {α:Type} {g sf:FuncId} {cs ds:List C} {n m:Nat} {Hs:(Nat→α)→List O} {lt:α→α→Bool}
theorem swapRange_R (h:Srtr Tryz.prog g cs sf ds n m Hs lt) (hn:n<4611686018427387904) (a b k:Nat) (f:Nat→α) (h1:a+k≤b) (h2:b+k≤n) :
  ACalls Tryz.prog 181 [.agg [.fn g cs,.xfn sf ds],.d (.int .i64 a),.d (.int .i64 b),.d (.int .i64 k)] (Hs f) (fun c H'=>c=.tup []∧H'=Hs (srx a b k f)):=by
 refine aE_ Tryz.func181 ?_
 refine rS_ Tryz.func181 ?_
 simp only [go_sem,seval,h.len,h.gog,h.at0,h.atj,h.set0,h.setj,h.tk,h.tk0,h.tkj,h.refs,h.refsj,h.hcaps,h.capsj,h.hcaps2,h.capsj2,List.append_assoc]
 refine AW.lp [1,2,3,4] (fun i:Nat=>[(8,.d (.int .i64 (i:Int)))]) (fun _ i=>Hs (srx a b i f)++[.box [.fn g cs,.xfn sf ds]]) (fun i=>i≤k) (fun i=>k - i) 0 (Nat.zero_le _) (by rw [srx_0];exact by refine ⟨by simp [mkS,h.len],by simp only [mkS,List.length_append,List.length_cons,List.length_nil,h.len,h.tkj,h.tk0,h.tk];first | done | rfl | (simp;done),by simp [mkS,O.refsLt,C.refsLt,C.refsLt1,h.len,h.refs,h.refsj,h.hcaps,h.capsj,h.hcaps2,h.capsj2,all_dmap,all_dcomp,-List.all_eq_true],?_⟩;simp [mkS,Abs.get,C.refsLtT,C.refsLt,C.refsLt1,h.len,h.hcaps,h.capsj,h.hcaps2,h.capsj2,-List.all_eq_true]) ?_
 intro i hi hnext
 by_cases hc:i<k
 ·have n1:(i:Int)<(k:Int):=by omega
  have w1:IntKind.i64.wrap ((a:Int)+(i:Int))=((a+i:Nat):Int):=wrapN _ (by omega) (by omega)
  have w2:IntKind.i64.wrap ((b:Int)+(i:Int))=((b+i:Nat):Int):=wrapN _ (by omega) (by omega)
  have w3:IntKind.i64.wrap ((i:Int)+1)=((i+1:Nat):Int):=wrapN _ (by omega) (by omega)
  have hs:=h.swap (srx a b i f) [.box [.fn g cs,.xfn sf ds]] (a+i) (b+i) (by omega) (by omega)
  rw [srx_s a b i f (by omega)] at hs
  refine rS_ Tryz.func181 ?_
  simp only [go_sem,seval,n1,w1,w2,w3,h.len,h.gog,h.at0,h.atj,h.set0,h.setj,h.tk,h.tk0,h.tkj,h.refs,h.refsj,h.hcaps,h.capsj,h.hcaps2,h.capsj2,List.append_assoc]
  repeat' (first
   | ((refine hs.mono ?_<;>(rintro c H' ⟨rfl,rfl⟩))<;>(try simp only [go_sem,seval,n1,w1,w2,w3,h.len,h.gog,h.at0,h.atj,h.set0,h.setj,h.tk,h.tk0,h.tkj,h.refs,h.refsj,h.hcaps,h.capsj,h.hcaps2,h.capsj2,List.append_assoc]))
   | fail)
  all_goals refine hnext (i+1) _ (by omega) (by omega) wk2_
 ·have n1:¬(i:Int)<(k:Int):=by omega
  obtain rfl:i=k:=by omega
  refine rS_ Tryz.func181 ?_
  simp only [go_sem,seval,n1,h.len,h.gog,h.at0,h.atj,h.set0,h.setj,h.tk,h.tk0,h.tkj,h.refs,h.refsj,h.hcaps,h.capsj,h.hcaps2,h.capsj2,List.append_assoc]
theorem insertionSort_R (h:Srtr Tryz.prog g cs sf ds n m Hs lt) (hw:Wk lt) (hn:n<4611686018427387904) (a b:Nat) (f:Nat→α) (hab:a≤b) (hb:b≤n) :
  ACalls Tryz.prog 163 [.agg [.fn g cs,.xfn sf ds],.d (.int .i64 a),.d (.int .i64 b)] (Hs f) (fun c H'=>c=.tup []∧∃f',Mv n a b f f'∧srt lt f' a b∧H'=Hs f'):=by
 have w0:IntKind.i64.wrap ((a:Int)+1)=((a+1:Nat):Int):=wrapN _ (by omega) (by omega)
 refine aE_ Tryz.func163 ?_
 refine rS_ Tryz.func163 ?_
 simp only [go_sem,seval,h.len,h.gog,h.at0,h.atj,h.set0,h.setj,h.tk,h.tk0,h.tkj,h.refs,h.refsj,h.hcaps,h.capsj,h.hcaps2,h.capsj2,List.append_assoc,w0]
 refine AW.lp [1,2,3] (fun u:Nat×(Nat→α)=>[(6,.d (.int .i64 (u.1:Int)))]) (fun _ u=>Hs u.2++[.box [.fn g cs,.xfn sf ds]]) (fun u=>a<u.1∧(u.1≤b∨u.1=a+1)∧Mv n a b f u.2∧srt lt u.2 a u.1) (fun u=>b - u.1) (a+1,f) ⟨by dsimp only;omega,.inr rfl,Mv.refl _ _ _ _,srt_one _ _ _ (Nat.le_refl _)⟩ wk2_ ?_
 rintro ⟨i,f1⟩ ⟨h1,h2,h3,h4⟩ hnext
 dsimp only at h1 h2 h3 h4 hnext ⊢
 have hnx:=fun i' f' s'=>hnext (i',f') s'
 clear hnext
 by_cases hc:i<b
 ·have n1:(i:Int)<(b:Int):=by omega
  have w3:IntKind.i64.wrap ((i:Int)+1)=((i+1:Nat):Int):=wrapN _ (by omega) (by omega)
  refine rS_ Tryz.func163 ?_
  simp only [go_sem,seval,n1,h.len,h.gog,h.at0,h.atj,h.set0,h.setj,h.tk,h.tk0,h.tkj,h.refs,h.refsj,h.hcaps,h.capsj,h.hcaps2,h.capsj2,List.append_assoc]
  refine AW.lp [1,2,3,6] (fun u:Nat×(Nat→α)=>[(7,.d (.int .i64 (u.1:Int)))]) (fun _ u=>Hs u.2++[.box [.fn g cs,.xfn sf ds]]) (fun u=>a≤u.1∧u.1≤i∧Mv n a b f u.2∧insI lt u.2 a u.1 i) (fun u=>u.1) (i,f1) ⟨by dsimp only;omega,Nat.le_refl _,h3,insI_0 h4⟩ wk2_ ?_
  rintro ⟨j,f2⟩ ⟨j1,j2,j3,j4⟩ hnext
  dsimp only at j1 j2 j3 j4 hnext ⊢
  have hny:=fun i' f' s'=>hnext (i',f') s'
  clear hnext
  by_cases hj:a<j
  ·have n2:(a:Int)<(j:Int):=by omega
   have w1:IntKind.i64.wrap ((j:Int) - 1)=((j - 1:Nat):Int):=wrapN _ (by omega) (by omega)
   have hl:=h.less f2 [.box [.fn g cs,.xfn sf ds]] j (j - 1) (by omega) (by omega)
   have hs:=h.swap f2 [.box [.fn g cs,.xfn sf ds]] j (j - 1) (by omega) (by omega)
   cases hlt:lt (f2 j) (f2 (j - 1)) with
   | true =>
    rw [hlt] at hl
    refine rS_ Tryz.func163 ?_
    simp only [go_sem,seval,n2,w1,h.len,h.gog,h.at0,h.atj,h.set0,h.setj,h.tk,h.tk0,h.tkj,h.refs,h.refsj,h.hcaps,h.capsj,h.hcaps2,h.capsj2,List.append_assoc]
    repeat' (first
     | ((first
      | (refine hl.mono ?_<;>(rintro c H' ⟨rfl,rfl⟩))
      | (refine hs.mono ?_<;>(rintro c H' ⟨rfl,rfl⟩)))<;>(try simp only [go_sem,seval,n2,w1,h.len,h.gog,h.at0,h.atj,h.set0,h.setj,h.tk,h.tk0,h.tkj,h.refs,h.refsj,h.hcaps,h.capsj,h.hcaps2,h.capsj2,List.append_assoc]))
     | fail)
    all_goals refine hny (j - 1) _ _ ⟨by omega,by omega,j3.trans (.swp _ hb (by omega) (by omega) (by omega) (by omega)),insI_s hw j4 hj j2 hlt⟩ (by omega) wk2_
   | false =>
    rw [hlt] at hl
    have he:=insI_end hw j4 j1 j2 (.inr hlt)
    refine rS_ Tryz.func163 ?_
    simp only [go_sem,seval,n2,w1,h.len,h.gog,h.at0,h.atj,h.set0,h.setj,h.tk,h.tk0,h.tkj,h.refs,h.refsj,h.hcaps,h.capsj,h.hcaps2,h.capsj2,List.append_assoc]
    repeat' (first
     | ((refine hl.mono ?_<;>(rintro c H' ⟨rfl,rfl⟩))<;>(try simp only [go_sem,seval,n2,w1,w3,h.len,h.gog,h.at0,h.atj,h.set0,h.setj,h.tk,h.tk0,h.tkj,h.refs,h.refsj,h.hcaps,h.capsj,h.hcaps2,h.capsj2,List.append_assoc]))
     | fail)
    all_goals refine hnx (i+1) f2 _ ⟨by omega,.inl (by omega),j3,he⟩ (by omega) wk2_
  ·have n2:¬(a:Int)<(j:Int):=by omega
   have he:=insI_end hw j4 j1 j2 (.inl (by omega))
   refine rS_ Tryz.func163 ?_
   simp only [go_sem,seval,n2,h.len,h.gog,h.at0,h.atj,h.set0,h.setj,h.tk,h.tk0,h.tkj,h.refs,h.refsj,h.hcaps,h.capsj,h.hcaps2,h.capsj2,List.append_assoc]
   repeat' (first
    | (simp (disch:=omega) only [wrap_ok])
    | fail)
   all_goals refine hnx (i+1) f2 _ ⟨by omega,.inl (by omega),j3,he⟩ (by omega) wk2_
 ·have n1:¬(i:Int)<(b:Int):=by omega
  refine rS_ Tryz.func163 ?_
  simp only [go_sem,seval,n1,h.len,h.gog,h.at0,h.atj,h.set0,h.setj,h.tk,h.tk0,h.tkj,h.refs,h.refsj,h.hcaps,h.capsj,h.hcaps2,h.capsj2,List.append_assoc]
  repeat' (first
   | ((first
    | (refine ⟨sd,?_⟩)
    | (refine ⟨by assumption,?_⟩))<;>(try simp only [go_sem,seval,n1,h.len,h.gog,h.at0,h.atj,h.set0,h.setj,h.tk,h.tk0,h.tkj,h.refs,h.refsj,h.hcaps,h.capsj,h.hcaps2,h.capsj2,List.append_assoc]))
   | fail)
  all_goals exact srt_sub h4 (Nat.le_refl _) (by omega)
theorem rotate_R (h:Srtr Tryz.prog g cs sf ds n m Hs lt) (hn:n<4611686018427387904) (a c b:Nat) (f:Nat→α) (h1:a<c) (h2:c<b) (hb:b≤n) :
  ACalls Tryz.prog 175 [.agg [.fn g cs,.xfn sf ds],.d (.int .i64 a),.d (.int .i64 c),.d (.int .i64 b)] (Hs f) (fun r H'=>r=.tup []∧Mv n a b f (rot a c b f)∧H'=Hs (rot a c b f)):=by
 have hX:=h.ext [.box [.fn g cs,.xfn sf ds]] (by simp [O.refsLt,C.refsLt,h.capsj,h.capsj2,-List.all_eq_true])
 have w1:IntKind.i64.wrap ((c:Int) - (a:Int))=((c - a:Nat):Int):=wrapN _ (by omega) (by omega)
 have w2:IntKind.i64.wrap ((b:Int) - (c:Int))=((b - c:Nat):Int):=wrapN _ (by omega) (by omega)
 refine aE_ Tryz.func175 ?_
 refine rS_ Tryz.func175 ?_
 simp only [go_sem,seval,h.len,h.gog,h.at0,h.atj,h.set0,h.setj,h.tk,h.tk0,h.tkj,h.refs,h.refsj,h.hcaps,h.capsj,h.hcaps2,h.capsj2,List.append_assoc,w1,w2]
 refine AW.lp [2,4] (fun u:Nat×Nat×(Nat→α)=>[(8,.d (.int .i64 (u.1:Int))),(9,.d (.int .i64 (u.2.1:Int)))]) (fun _ u=>Hs u.2.2++[.box [.fn g cs,.xfn sf ds]]) (fun u=>0<u.1∧0<u.2.1∧u.1≤c - a∧u.2.1≤b - c∧Mv n a b f u.2.2∧rot (c - u.1) c (c+u.2.1) u.2.2=rot a c b f) (fun u=>u.1+u.2.1) (c - a,b - c,f) ⟨by dsimp only;omega,by dsimp only;omega,Nat.le_refl _,Nat.le_refl _,Mv.refl _ _ _ _,by dsimp only;rw [show c - (c - a)=a by omega,show c+(b - c)=b by omega]⟩ wk2_ ?_
 rintro ⟨i,j,f1⟩ ⟨i1,i2,i3,i4,i5,i6⟩ hnext
 dsimp only at i1 i2 i3 i4 i5 i6 hnext ⊢
 have hnx:=fun i' j' f' s'=>hnext (i',j',f') s'
 clear hnext
 have v1:IntKind.i64.wrap ((c:Int) - (i:Int))=((c - i:Nat):Int):=wrapN _ (by omega) (by omega)
 have v2:IntKind.i64.wrap ((c:Int)+(j:Int))=((c+j:Nat):Int):=wrapN _ (by omega) (by omega)
 rcases Nat.lt_trichotomy i j with hij | hij | hij
 ·have n1:¬(i:Int)=(j:Int):=by omega
  have n2:¬(j:Int)<(i:Int):=by omega
  have v3:IntKind.i64.wrap ((c:Int)+(j:Int) - (i:Int))=((c+j - i:Nat):Int):=wrapN _ (by omega) (by omega)
  have v4:IntKind.i64.wrap ((j:Int) - (i:Int))=((j - i:Nat):Int):=wrapN _ (by omega) (by omega)
  have hs:=swapRange_R hX hn (c - i) (c+j - i) i f1 (by omega) (by omega)
  have hm:=srx_mv n (c - i) (c+j - i) f1 i (by omega) (by omega)
  have nb:((i:Int) != (j:Int))=true:=by simp;omega
  refine rS_ Tryz.func175 ?_
  simp only [go_sem,seval,nb,n2,v1,v2,v3,v4,h.len,h.gog,h.at0,h.atj,h.set0,h.setj,h.tk,h.tk0,h.tkj,h.refs,h.refsj,h.hcaps,h.capsj,h.hcaps2,h.capsj2,List.append_assoc]
  repeat' (first
   | ((refine hs.mono ?_<;>(rintro c H' ⟨rfl,rfl⟩))<;>(try simp only [go_sem,seval,nb,n2,v1,v2,v3,v4,h.len,h.gog,h.at0,h.atj,h.set0,h.setj,h.tk,h.tk0,h.tkj,h.refs,h.refsj,h.hcaps,h.capsj,h.hcaps2,h.capsj2,List.append_assoc]))
   | fail)
  all_goals refine hnx i (j - i) (srx (c - i) (c+j - i) i f1) _ ⟨i1,by dsimp only;omega,i3,by dsimp only;omega,i5.trans (hm.mono (by omega) (by omega)),?_⟩ (by dsimp only;omega) wk2_
  all_goals (rw [rot_lt c i j f1 hij (by omega) i1];exact i6)
 ·subst hij
  have hs:=swapRange_R hX hn (c - i) c i f1 (by omega) (by omega)
  have hm:=srx_mv n (c - i) c f1 i (by omega) (by omega)
  rw [rot_eq c i f1 (by omega),i6] at hs hm
  refine rS_ Tryz.func175 ?_
  simp only [go_sem,seval,v1,h.len,h.gog,h.at0,h.atj,h.set0,h.setj,h.tk,h.tk0,h.tkj,h.refs,h.refsj,h.hcaps,h.capsj,h.hcaps2,h.capsj2,List.append_assoc]
  repeat' (first
   | ((refine hs.mono ?_<;>(rintro c H' ⟨rfl,rfl⟩))<;>(try simp only [go_sem,seval,v1,h.len,h.gog,h.at0,h.atj,h.set0,h.setj,h.tk,h.tk0,h.tkj,h.refs,h.refsj,h.hcaps,h.capsj,h.hcaps2,h.capsj2,List.append_assoc]))
   | fail)
  all_goals exact i5.trans (hm.mono (by omega) (by omega))
 ·have n1:¬(i:Int)=(j:Int):=by omega
  have n2:(j:Int)<(i:Int):=by omega
  have v4:IntKind.i64.wrap ((i:Int) - (j:Int))=((i - j:Nat):Int):=wrapN _ (by omega) (by omega)
  have hs:=swapRange_R hX hn (c - i) c j f1 (by omega) (by omega)
  have hm:=srx_mv n (c - i) c f1 j (by omega) (by omega)
  have nb:((i:Int) != (j:Int))=true:=by simp;omega
  refine rS_ Tryz.func175 ?_
  simp only [go_sem,seval,nb,n2,v1,v4,h.len,h.gog,h.at0,h.atj,h.set0,h.setj,h.tk,h.tk0,h.tkj,h.refs,h.refsj,h.hcaps,h.capsj,h.hcaps2,h.capsj2,List.append_assoc]
  repeat' (first
   | ((refine hs.mono ?_<;>(rintro c H' ⟨rfl,rfl⟩))<;>(try simp only [go_sem,seval,nb,n2,v1,v4,h.len,h.gog,h.at0,h.atj,h.set0,h.setj,h.tk,h.tk0,h.tkj,h.refs,h.refsj,h.hcaps,h.capsj,h.hcaps2,h.capsj2,List.append_assoc]))
   | fail)
  all_goals refine hnx (i - j) j (srx (c - i) c j f1) _ ⟨by dsimp only;omega,i2,by dsimp only;omega,i4,i5.trans (hm.mono (by omega) (by omega)),?_⟩ (by dsimp only;omega) wk2_
  all_goals (rw [rot_gt c i j f1 hij (by omega) i2];exact i6)
end
end Go.Proofs.YtlajhmoomlgopaaGreat
namespace Go.Proofs.YtlajhmoomlgopaaGreat
open Go.Abs
set_option maxRecDepth 100000
set_option maxHeartbeats 8000000
set_option linter.unusedSimpArgs false
set_option linter.unusedVariables false
theorem halfN (x y:Nat) (h:x+y<9223372036854775808):IntKind.i64.wrap (shrI .u64 (IntKind.u64.wrap ((x:Int)+(y:Int))) 1)=(((x+y) / 2:Nat):Int):=by
 have h1:IntKind.u64.wrap ((x:Int)+(y:Int))=(x:Int)+(y:Int):=by
  unfold IntKind.wrap;simp [IntKind.bits,IntKind.signed];omega
 rw [h1]
 unfold shrI
 have h2:((x:Int)+(y:Int)).fdiv (2 ^ (min (1:Int).toNat IntKind.u64.bits))=(((x+y) / 2:Nat):Int):=by
  show ((x:Int)+(y:Int)).fdiv 2=_
  rw [Int.fdiv_eq_ediv_of_nonneg _ (by omega)]
  omega
 rw [h2]
 exact wrapN _ rfl (by omega)
section
variable {α:Type} {g sf:FuncId} {cs ds:List C} {n:Nat} {lt:α→α→Bool}
theorem symMerge_R (hw:Wk lt) (hn:n<4611686018427387904):∀(k m:Nat) (Hs:(Nat→α)→List O) (h:Srtr Tryz.prog g cs sf ds n m Hs lt) (a c b:Nat) (f:Nat→α),b - a≤k→a<c→c<b→b≤n→srt lt f a c→srt lt f c b →
  ACalls Tryz.prog 164 [.agg [.fn g cs,.xfn sf ds],.d (.int .i64 a),.d (.int .i64 c),.d (.int .i64 b)] (Hs f) (fun r H'=>r=.tup []∧∃f',Mv n a b f f'∧srt lt f' a b∧H'=Hs f'):=by
 intro k
 induction k with
 | zero=>intro m Hs h a c b f hk h1 h2;omega
 | succ k ih =>
 intro m Hs h a c b f hk h1 h2 hb hs1 hs2
 have hX:=h.ext [.box [.fn g cs,.xfn sf ds]] (by simp [O.refsLt,C.refsLt,h.capsj,h.capsj2,-List.all_eq_true])
 by_cases c1:c=a+1
 ·
  have w1:IntKind.i64.wrap ((c:Int) - (a:Int))=1:=by rw [show (c:Int) - a=1 by omega];decide
  refine aE_ Tryz.func164 ?_
  refine rS_ Tryz.func164 ?_
  simp only [go_sem,seval,h.len,h.gog,h.at0,h.atj,h.set0,h.setj,h.tk,h.tk0,h.tkj,h.refs,h.refsj,h.hcaps,h.capsj,h.hcaps2,h.capsj2,List.append_assoc,w1]
  refine AW.lp [1,4] (fun u:Nat×Nat=>[(8,.d (.int .i64 (u.1:Int))),(9,.d (.int .i64 (u.2:Int)))]) (fun H _=>H) (fun u=>c≤u.1∧u.1≤u.2∧u.2≤b∧(∀x,c≤x→x<u.1→lt (f x) (f a)=true)∧(∀x,u.2≤x→x<b→lt (f x) (f a)=false)) (fun u=>u.2 - u.1) (c,b) ⟨Nat.le_refl _,by dsimp only;omega,Nat.le_refl _,fun x hx hx'=>by dsimp only at hx';omega,fun x hx hx'=>by dsimp only at hx;omega⟩ wk2_ ?_
  rintro ⟨i,j⟩ ⟨i1,i2,i3,i4,i5⟩ hnext
  dsimp only at i1 i2 i3 i4 i5 hnext ⊢
  have hnx:=fun i' j' s'=>hnext (i',j') s'
  clear hnext
  by_cases hij:i<j
  ·have n1:(i:Int)<(j:Int):=by omega
   have hh:=halfN i j (by omega)
   have w2:IntKind.i64.wrap ((i:Int)+(j:Int))=(i:Int)+(j:Int):=wrap_ok (by omega) (by omega)
   have hl:=h.less f [.box [.fn g cs,.xfn sf ds]] ((i+j) / 2) a (by omega) (by omega)
   have w3:IntKind.i64.wrap ((((i+j) / 2:Nat):Int)+1)=(((i+j) / 2+1:Nat):Int):=wrapN _ (by omega) (by omega)
   cases hlt:lt (f ((i+j) / 2)) (f a) with
   | true =>
    rw [hlt] at hl
    refine rS_ Tryz.func164 ?_
    simp only [go_sem,seval,n1,w2,hh,h.len,h.gog,h.at0,h.atj,h.set0,h.setj,h.tk,h.tk0,h.tkj,h.refs,h.refsj,h.hcaps,h.capsj,h.hcaps2,h.capsj2,List.append_assoc]
    repeat' (first
     | ((refine hl.mono ?_<;>(rintro c H' ⟨rfl,rfl⟩))<;>(try simp only [go_sem,seval,n1,w2,hh,w3,h.len,h.gog,h.at0,h.atj,h.set0,h.setj,h.tk,h.tk0,h.tkj,h.refs,h.refsj,h.hcaps,h.capsj,h.hcaps2,h.capsj2,List.append_assoc]))
     | fail)
    refine hnx ((i+j) / 2+1) j _ ⟨by dsimp only;omega,by dsimp only;omega,i3,fun x hx hx'=>?_,i5⟩ (by dsimp only;omega) wk2_
    exact leq_lt hw (leq_of hw hs2 hx (by dsimp only at hx';omega) (by omega)) hlt
   | false =>
    rw [hlt] at hl
    refine rS_ Tryz.func164 ?_
    simp only [go_sem,seval,n1,w2,hh,h.len,h.gog,h.at0,h.atj,h.set0,h.setj,h.tk,h.tk0,h.tkj,h.refs,h.refsj,h.hcaps,h.capsj,h.hcaps2,h.capsj2,List.append_assoc]
    repeat' (first
     | ((refine hl.mono ?_<;>(rintro c H' ⟨rfl,rfl⟩))<;>(try simp only [go_sem,seval,n1,w2,hh,w3,h.len,h.gog,h.at0,h.atj,h.set0,h.setj,h.tk,h.tk0,h.tkj,h.refs,h.refsj,h.hcaps,h.capsj,h.hcaps2,h.capsj2,List.append_assoc]))
     | fail)
    refine hnx i ((i+j) / 2) _ ⟨i1,by dsimp only;omega,by dsimp only;omega,i4,fun x hx hx'=>?_⟩ (by dsimp only;omega) wk2_
    exact hw.tr _ _ _ hlt (leq_of hw hs2 (by omega) hx hx')
  ·have n1:¬(i:Int)<(j:Int):=by omega
   obtain rfl:i=j:=by omega
   have w2:IntKind.i64.wrap ((i:Int) - 1)=((i - 1:Nat):Int):=wrapN _ (by omega) (by omega)
   refine run_sound Tryz.func164 mixed 16 _ _ (by kernel_rfl) ?_
   simp only [go_sem,seval,run.eq_1,n1,h.len,h.gog,h.at0,h.atj,h.set0,h.setj,h.tk,h.tk0,h.tkj,h.refs,h.refsj,h.hcaps,h.capsj,h.hcaps2,h.capsj2,List.append_assoc]
   refine AW.lp [4,8] (fun k:Nat=>[(11,.d (.int .i64 (k:Int)))]) (fun _ k=>Hs (mvU a k f)++[.box [.fn g cs,.xfn sf ds]]) (fun k=>a≤k∧k≤i - 1) (fun k=>i - 1 - k) a ⟨Nat.le_refl _,by omega⟩ (by rw [mvU_0];exact by refine ⟨by simp [mkS,h.len],by simp only [mkS,List.length_append,List.length_cons,List.length_nil,h.len,h.tkj,h.tk0,h.tk];first | done | rfl | (simp;done),by simp [mkS,O.refsLt,C.refsLt,C.refsLt1,h.len,h.refs,h.refsj,h.hcaps,h.capsj,h.hcaps2,h.capsj2,all_dmap,all_dcomp,-List.all_eq_true],?_⟩;simp [mkS,Abs.get,C.refsLtT,C.refsLt,C.refsLt1,h.len,h.hcaps,h.capsj,h.hcaps2,h.capsj2,-List.all_eq_true]) ?_
   intro k' hk' hny
   by_cases hc:k'<i - 1
   ·have n2:(k':Int)<((i - 1:Nat):Int):=by omega
    have w4:IntKind.i64.wrap ((k':Int)+1)=((k'+1:Nat):Int):=wrapN _ (by omega) (by omega)
    have hs:=h.swap (mvU a k' f) [.box [.fn g cs,.xfn sf ds]] k' (k'+1) (by omega) (by omega)
    rw [mvU_s a k' f hk'.1] at hs
    refine rS_ Tryz.func164 ?_
    simp only [go_sem,seval,n2,w2,w4,h.len,h.gog,h.at0,h.atj,h.set0,h.setj,h.tk,h.tk0,h.tkj,h.refs,h.refsj,h.hcaps,h.capsj,h.hcaps2,h.capsj2,List.append_assoc]
    repeat' (first
     | ((refine hs.mono ?_<;>(rintro c H' ⟨rfl,rfl⟩))<;>(try simp only [go_sem,seval,n2,w2,w4,h.len,h.gog,h.at0,h.atj,h.set0,h.setj,h.tk,h.tk0,h.tkj,h.refs,h.refsj,h.hcaps,h.capsj,h.hcaps2,h.capsj2,List.append_assoc]))
     | fail)
    all_goals refine hny (k'+1) _ ⟨by omega,by omega⟩ (by omega) wk2_
   ·have n2:¬(k':Int)<((i - 1:Nat):Int):=by omega
    obtain rfl:k'=i - 1:=by omega
    have hM:=mvU_mv n a b f (i - 1) hk'.1 (by omega) hb
    have hS:=mvU_srt hw (by rw [←c1];exact hs2) (show a<i by omega) i3 (fun x hx hx'=>i4 x (by omega) hx') i5
    refine rS_ Tryz.func164 ?_
    simp only [go_sem,seval,n2,w2,h.len,h.gog,h.at0,h.atj,h.set0,h.setj,h.tk,h.tk0,h.tkj,h.refs,h.refsj,h.hcaps,h.capsj,h.hcaps2,h.capsj2,List.append_assoc]
    repeat' (first
     | (exact ⟨_,hM,hS,rfl⟩)
     | fail)
 ·by_cases c2:b=c+1
  ·
   have w1:IntKind.i64.wrap ((c:Int) - (a:Int))=((c - a:Nat):Int):=wrapN _ (by omega) (by omega)
   have n0:¬((c - a:Nat):Int)=1:=by omega
   have w5:IntKind.i64.wrap ((b:Int) - (c:Int))=1:=by rw [show (b:Int) - c=1 by omega];decide
   refine aE_ Tryz.func164 ?_
   refine rS_ Tryz.func164 ?_
   simp only [go_sem,seval,h.len,h.gog,h.at0,h.atj,h.set0,h.setj,h.tk,h.tk0,h.tkj,h.refs,h.refsj,h.hcaps,h.capsj,h.hcaps2,h.capsj2,List.append_assoc,w1,w5,n0]
   refine AW.lp [2,4] (fun u:Nat×Nat=>[(12,.d (.int .i64 (u.1:Int))),(13,.d (.int .i64 (u.2:Int)))]) (fun H _=>H) (fun u=>a≤u.1∧u.1≤u.2∧u.2≤c∧(∀x,a≤x→x<u.1→lt (f c) (f x)=false)∧(∀x,u.2≤x→x<c→lt (f c) (f x)=true)) (fun u=>u.2 - u.1) (a,c) ⟨Nat.le_refl _,by dsimp only;omega,Nat.le_refl _,fun x hx hx'=>by dsimp only at hx';omega,fun x hx hx'=>by dsimp only at hx;omega⟩ wk2_ ?_
   rintro ⟨i,j⟩ ⟨i1,i2,i3,i4,i5⟩ hnext
   dsimp only at i1 i2 i3 i4 i5 hnext ⊢
   have hnx:=fun i' j' s'=>hnext (i',j') s'
   clear hnext
   by_cases hij:i<j
   ·have n1:(i:Int)<(j:Int):=by omega
    have hh:=halfN i j (by omega)
    have w2:IntKind.i64.wrap ((i:Int)+(j:Int))=(i:Int)+(j:Int):=wrap_ok (by omega) (by omega)
    have hl:=h.less f [.box [.fn g cs,.xfn sf ds]] c ((i+j) / 2) (by omega) (by omega)
    have w3:IntKind.i64.wrap ((((i+j) / 2:Nat):Int)+1)=(((i+j) / 2+1:Nat):Int):=wrapN _ (by omega) (by omega)
    cases hlt:lt (f c) (f ((i+j) / 2)) with
    | false =>
     rw [hlt] at hl
     refine rS_ Tryz.func164 ?_
     simp only [go_sem,seval,n1,w2,hh,h.len,h.gog,h.at0,h.atj,h.set0,h.setj,h.tk,h.tk0,h.tkj,h.refs,h.refsj,h.hcaps,h.capsj,h.hcaps2,h.capsj2,List.append_assoc]
     repeat' (first
      | ((refine hl.mono ?_<;>(rintro c H' ⟨rfl,rfl⟩))<;>(try simp only [go_sem,seval,n1,w2,hh,w3,h.len,h.gog,h.at0,h.atj,h.set0,h.setj,h.tk,h.tk0,h.tkj,h.refs,h.refsj,h.hcaps,h.capsj,h.hcaps2,h.capsj2,List.append_assoc]))
      | fail)
     refine hnx ((i+j) / 2+1) j _ ⟨by dsimp only;omega,by dsimp only;omega,i3,fun x hx hx'=>?_,i5⟩ (by dsimp only;omega) wk2_
     exact hw.tr _ _ _ (leq_of hw hs1 hx (by dsimp only at hx';omega) (by omega)) hlt
    | true =>
     rw [hlt] at hl
     refine rS_ Tryz.func164 ?_
     simp only [go_sem,seval,n1,w2,hh,h.len,h.gog,h.at0,h.atj,h.set0,h.setj,h.tk,h.tk0,h.tkj,h.refs,h.refsj,h.hcaps,h.capsj,h.hcaps2,h.capsj2,List.append_assoc]
     repeat' (first
      | ((refine hl.mono ?_<;>(rintro c H' ⟨rfl,rfl⟩))<;>(try simp only [go_sem,seval,n1,w2,hh,w3,h.len,h.gog,h.at0,h.atj,h.set0,h.setj,h.tk,h.tk0,h.tkj,h.refs,h.refsj,h.hcaps,h.capsj,h.hcaps2,h.capsj2,List.append_assoc]))
      | fail)
     refine hnx i ((i+j) / 2) _ ⟨i1,by dsimp only;omega,by dsimp only;omega,i4,fun x hx hx'=>?_⟩ (by dsimp only;omega) wk2_
     exact lt_leq hw hlt (leq_of hw hs1 (by omega) hx hx')
   ·have n1:¬(i:Int)<(j:Int):=by omega
    obtain rfl:i=j:=by omega
    refine run_sound Tryz.func164 mixed 16 _ _ (by kernel_rfl) ?_
    simp only [go_sem,seval,run.eq_1,n1,h.len,h.gog,h.at0,h.atj,h.set0,h.setj,h.tk,h.tk0,h.tkj,h.refs,h.refsj,h.hcaps,h.capsj,h.hcaps2,h.capsj2,List.append_assoc]
    refine AW.lp [4,12] (fun d:Nat=>[(15,.d (.int .i64 ((c - d:Nat):Int)))]) (fun _ d=>Hs (mvD c (c - d) f)++[.box [.fn g cs,.xfn sf ds]]) (fun d=>d≤c - i) (fun d=>c - i - d) 0 (Nat.zero_le _) (by rw [Nat.sub_zero,mvD_0];exact by refine ⟨by simp [mkS,h.len],by simp only [mkS,List.length_append,List.length_cons,List.length_nil,h.len,h.tkj,h.tk0,h.tk];first | done | rfl | (simp;done),by simp [mkS,O.refsLt,C.refsLt,C.refsLt1,h.len,h.refs,h.refsj,h.hcaps,h.capsj,h.hcaps2,h.capsj2,all_dmap,all_dcomp,-List.all_eq_true],?_⟩;simp [mkS,Abs.get,C.refsLtT,C.refsLt,C.refsLt1,h.len,h.hcaps,h.capsj,h.hcaps2,h.capsj2,-List.all_eq_true]) ?_
    intro d hd hny
    by_cases hc:d<c - i
    ·have n2:(i:Int)<((c - d:Nat):Int):=by omega
     have w4:IntKind.i64.wrap (((c - d:Nat):Int) - 1)=((c - (d+1):Nat):Int):=wrapN _ (by omega) (by omega)
     have hs:=h.swap (mvD c (c - d) f) [.box [.fn g cs,.xfn sf ds]] (c - d) (c - d - 1) (by omega) (by omega)
     rw [mvD_s c (c - d) f (by omega) (by omega),show c - d - 1=c - (d+1) by omega] at hs
     refine rS_ Tryz.func164 ?_
     simp only [go_sem,seval,n2,w4,h.len,h.gog,h.at0,h.atj,h.set0,h.setj,h.tk,h.tk0,h.tkj,h.refs,h.refsj,h.hcaps,h.capsj,h.hcaps2,h.capsj2,List.append_assoc]
     repeat' (first
      | ((refine hs.mono ?_<;>(rintro c H' ⟨rfl,rfl⟩))<;>(try simp only [go_sem,seval,n2,w4,h.len,h.gog,h.at0,h.atj,h.set0,h.setj,h.tk,h.tk0,h.tkj,h.refs,h.refsj,h.hcaps,h.capsj,h.hcaps2,h.capsj2,List.append_assoc]))
      | fail)
     all_goals refine hny (d+1) _ (by omega) (by omega) wk2_
    ·have n2:¬(i:Int)<((c - d:Nat):Int):=by omega
     obtain rfl:d=c - i:=by omega
     have hM:=mvD_mv n a c f (by omega) (c - i) (by omega) (by omega)
     rw [←c2,show c - (c - i)=i by omega] at hM
     have hS:=mvD_srt hw hs1 i3 i1 i4 i5
     rw [←c2] at hS
     rw [show c - (c - i)=i by omega] at n2 ⊢
     refine rS_ Tryz.func164 ?_
     simp only [go_sem,seval,n2,h.len,h.gog,h.at0,h.atj,h.set0,h.setj,h.tk,h.tk0,h.tkj,h.refs,h.refsj,h.hcaps,h.capsj,h.hcaps2,h.capsj2,List.append_assoc]
     repeat' (first
      | (exact ⟨_,hM,hS,rfl⟩)
      | fail)
  ·
   have w1:IntKind.i64.wrap ((c:Int) - (a:Int))=((c - a:Nat):Int):=wrapN _ (by omega) (by omega)
   have n0:¬((c - a:Nat):Int)=1:=by omega
   have w5:IntKind.i64.wrap ((b:Int) - (c:Int))=((b - c:Nat):Int):=wrapN _ (by omega) (by omega)
   have n5:¬((b - c:Nat):Int)=1:=by omega
   have hh:=halfN a b (by omega)
   have w6:IntKind.i64.wrap ((a:Int)+(b:Int))=(a:Int)+(b:Int):=wrap_ok (by omega) (by omega)
   obtain ⟨mid,hmid⟩:∃mid,(a+b) / 2=mid:=⟨_,rfl⟩
   rw [hmid] at hh
   have w7:IntKind.i64.wrap ((mid:Int)+(c:Int))=(mid:Int)+(c:Int):=wrap_ok (by omega) (by omega)
   have w8:IntKind.i64.wrap ((mid:Int)+(c:Int) - 1)=((mid+c - 1:Nat):Int):=wrapN _ (by omega) (by omega)
   by_cases hc:mid<c
   ·obtain ⟨s0,hs0⟩:∃s0,mid+c - b=s0:=⟨_,rfl⟩
    have n6:(mid:Int)<(c:Int):=by omega
    have w9:IntKind.i64.wrap ((mid:Int)+(c:Int) - (b:Int))=(s0:Int):=wrapN _ (by omega) (by omega)
    have hrng:∀x,s0≤x→x<mid→a≤x∧x<c∧c≤mid+c - 1 - x∧mid+c - 1 - x<b:=fun x h1 h2=>by omega
    have hA0:s0=a∨mid+c - s0=b:=.inr (by omega)
    have hB0:mid=c∨mid=mid:=.inr rfl
    refine aE_ Tryz.func164 ?_
    refine rS_ Tryz.func164 ?_
    simp only [go_sem,seval,h.len,h.gog,h.at0,h.atj,h.set0,h.setj,h.tk,h.tk0,h.tkj,h.refs,h.refsj,h.hcaps,h.capsj,h.hcaps2,h.capsj2,List.append_assoc,w1,w5,n0,n5,w6,hh,w7,w8,w9,n6]
    refine AW.lp [1,2,3,4,16,17,20] (fun u:Nat×Nat=>[(18,.d (.int .i64 (u.1:Int))),(19,.d (.int .i64 (u.2:Int)))]) (fun H _=>H) (fun u=>Cut lt f (mid+c - 1) s0 mid u.1 u.2) (fun u=>u.2 - u.1) (s0,mid) ⟨Nat.le_refl _,by dsimp only;omega,Nat.le_refl _,fun x h1 h2=>absurd h2 (by dsimp only;omega),fun x h1 h2=>absurd h2 (by dsimp only at h1;omega)⟩ wk2_ ?_
    rintro ⟨s,r⟩ hcut hnext
    dsimp only at hcut hnext ⊢
    have hnx:=fun i' j' s'=>hnext (i',j') s'
    clear hnext
    have q1:=hcut.lo
    have q2:=hcut.le
    have q3:=hcut.hi
    by_cases hsr:s<r
    ·have n1:(s:Int)<(r:Int):=by omega
     have hh2:=halfN s r (by omega)
     have w10:IntKind.i64.wrap ((s:Int)+(r:Int))=(s:Int)+(r:Int):=wrap_ok (by omega) (by omega)
     obtain ⟨y,hy⟩:∃y,(s+r) / 2=y:=⟨_,rfl⟩
     rw [hy] at hh2
     have w11:IntKind.i64.wrap (((mid+c - 1:Nat):Int) - (y:Int))=((mid+c - 1 - y:Nat):Int):=wrapN _ (by omega) (by omega)
     have w12:IntKind.i64.wrap ((y:Int)+1)=((y+1:Nat):Int):=wrapN _ (by omega) (by omega)
     have hl:=h.less f [.box [.fn g cs,.xfn sf ds]] (mid+c - 1 - y) y (by omega) (by omega)
     cases hlt:lt (f (mid+c - 1 - y)) (f y) with
     | false =>
      rw [hlt] at hl
      refine rS_ Tryz.func164 ?_
      simp only [go_sem,seval,n1,w10,hh2,w11,h.len,h.gog,h.at0,h.atj,h.set0,h.setj,h.tk,h.tk0,h.tkj,h.refs,h.refsj,h.hcaps,h.capsj,h.hcaps2,h.capsj2,List.append_assoc]
      repeat' (first
       | ((refine hl.mono ?_<;>(rintro c H' ⟨rfl,rfl⟩))<;>(try simp only [go_sem,seval,n1,w10,hh2,w11,w12,h.len,h.gog,h.at0,h.atj,h.set0,h.setj,h.tk,h.tk0,h.tkj,h.refs,h.refsj,h.hcaps,h.capsj,h.hcaps2,h.capsj2,List.append_assoc]))
       | fail)
      refine hnx (y+1) r _ (hcut.up hw hs1 hs2 hrng (by omega) (by omega) hlt) (by dsimp only;omega) wk2_
     | true =>
      rw [hlt] at hl
      refine rS_ Tryz.func164 ?_
      simp only [go_sem,seval,n1,w10,hh2,w11,h.len,h.gog,h.at0,h.atj,h.set0,h.setj,h.tk,h.tk0,h.tkj,h.refs,h.refsj,h.hcaps,h.capsj,h.hcaps2,h.capsj2,List.append_assoc]
      repeat' (first
       | ((refine hl.mono ?_<;>(rintro c H' ⟨rfl,rfl⟩))<;>(try simp only [go_sem,seval,n1,w10,hh2,w11,w12,h.len,h.gog,h.at0,h.atj,h.set0,h.setj,h.tk,h.tk0,h.tkj,h.refs,h.refsj,h.hcaps,h.capsj,h.hcaps2,h.capsj2,List.append_assoc]))
       | fail)
      refine hnx s y _ (hcut.dn hw hs1 hs2 hrng (by omega) (by omega) hlt) (by dsimp only;omega) wk2_
    ·have n1:¬(s:Int)<(r:Int):=by omega
     obtain rfl:s=r:=by omega
     obtain ⟨e,he⟩:∃e,mid+c - s=e:=⟨_,rfl⟩
     have w13:IntKind.i64.wrap ((mid:Int)+(c:Int) - (s:Int))=(e:Int):=wrapN _ (by omega) (by omega)
     have hA:s=a∨e=b∨leq lt (f (s - 1)) (f e):=by
      by_cases e0:s=s0
      ·rcases hA0 with h0 | h0
       ·exact .inl (by omega)
       ·exact .inr (.inl (by omega))
      ·have:=hcut.bel (s - 1) (by omega) (by omega)
       rw [show mid+c - 1 - (s - 1)=e by omega] at this
       exact .inr (.inr this)
     have hB:s=c∨e=c∨lt (f (e - 1)) (f s)=true:=by
      by_cases e0:s=mid
      ·rcases hB0 with h0 | h0
       ·exact .inl (by omega)
       ·exact .inr (.inl (by omega))
      ·have:=hcut.abv s (Nat.le_refl _) (by omega)
       rw [show mid+c - 1 - s=e - 1 by omega] at this
       exact .inr (.inr this)
     have hx:=sym_cross hw hs1 hs2 (s:=s) (e:=e) (mid:=mid) (by omega) (by omega) (by omega) (by omega) (by omega) hA hB
     obtain ⟨l1,l2,l3,l4⟩:=rot_lo hs1 hs2 (s:=s) (e:=e) (mid:=mid) (by omega) (by omega) (by omega) (by omega) (by omega)
     have hnxt:=hnx
     clear hnx hcut hA hB
     rcases (show (s=c∧s<mid)∨(s=c∧s=mid)∨(s<c∧s=mid)∨(s<c∧s<mid) by omega) with ⟨p1,p2⟩ | ⟨p1,p2⟩ | ⟨p1,p2⟩ | ⟨p1,p2⟩
     ·have g1:¬(s:Int)<(c:Int):=by omega
      have g2:(a:Int)<(s:Int):=by omega
      have g3:(s:Int)<(mid:Int):=by omega
      have g4:¬(mid:Int)<(e:Int):=by omega
      rw [p1,rot_id1] at hx l1 l2 l3 l4
      rw [←p1] at l1 l2
      have hl:=ih _ _ hX a s mid f (by omega) (by omega) (by omega) (by omega) l1 l2
      refine rS_ Tryz.func164 ?_
      simp only [go_sem,seval,n1,w13,g1,g2,g3,g4,h.len,h.gog,h.at0,h.atj,h.set0,h.setj,h.tk,h.tk0,h.tkj,h.refs,h.refsj,h.hcaps,h.capsj,h.hcaps2,h.capsj2,List.append_assoc]
      repeat' (first
       | ((first
        | (refine hl.mono ?_<;>(rintro c H' ⟨rfl,f2,m2,s2,rfl⟩))
        | (refine ⟨sd,?_⟩)
        | (refine ⟨by assumption,?_⟩))<;>(try simp only [go_sem,seval,n1,w13,g1,g2,g3,g4,h.len,h.gog,h.at0,h.atj,h.set0,h.setj,h.tk,h.tk0,h.tkj,h.refs,h.refsj,h.hcaps,h.capsj,h.hcaps2,h.capsj2,List.append_assoc]))
       | fail)
      have s4:=m2.srt_out l4 (.inr (by omega))
      first | exact srt_join hx m2 s2 (.refl n mid b f2) (srt_sub s4 (by omega) (Nat.le_refl _)) | exact ⟨(m2.mono (Nat.le_refl _) (by omega)),srt_join hx m2 s2 (.refl n mid b f2) (srt_sub s4 (by omega) (Nat.le_refl _))⟩ | exact ⟨_,(m2.mono (Nat.le_refl _) (by omega)),srt_join hx m2 s2 (.refl n mid b f2) (srt_sub s4 (by omega) (Nat.le_refl _)),rfl⟩
     ·have g1:¬(s:Int)<(c:Int):=by omega
      have g2:(a:Int)<(s:Int):=by omega
      have g3:¬(s:Int)<(mid:Int):=by omega
      have g4:¬(mid:Int)<(e:Int):=by omega
      rw [p1,rot_id1] at hx l1 l2 l3 l4
      refine rS_ Tryz.func164 ?_
      simp only [go_sem,seval,n1,w13,g1,g2,g3,g4,h.len,h.gog,h.at0,h.atj,h.set0,h.setj,h.tk,h.tk0,h.tkj,h.refs,h.refsj,h.hcaps,h.capsj,h.hcaps2,h.capsj2,List.append_assoc]
      repeat' (first
       | ((first
        | (refine ⟨sd,?_⟩)
        | (refine ⟨by assumption,?_⟩))<;>(try simp only [go_sem,seval,n1,w13,g1,g2,g3,g4,h.len,h.gog,h.at0,h.atj,h.set0,h.setj,h.tk,h.tk0,h.tkj,h.refs,h.refsj,h.hcaps,h.capsj,h.hcaps2,h.capsj2,List.append_assoc]))
       | fail)
      all_goals first | exact srt_join hx (.refl n a mid f) (srt_sub l1 (Nat.le_refl _) (by omega)) (.refl n mid b f) (srt_sub l4 (by omega) (Nat.le_refl _)) | exact ⟨(.refl _ _ _ _),srt_join hx (.refl n a mid f) (srt_sub l1 (Nat.le_refl _) (by omega)) (.refl n mid b f) (srt_sub l4 (by omega) (Nat.le_refl _))⟩ | exact ⟨_,(.refl _ _ _ _),srt_join hx (.refl n a mid f) (srt_sub l1 (Nat.le_refl _) (by omega)) (.refl n mid b f) (srt_sub l4 (by omega) (Nat.le_refl _)),rfl⟩
     ·have g1:(s:Int)<(c:Int):=by omega
      have g2:¬(c:Int)<(e:Int):=by omega
      have g3:(a:Int)<(s:Int):=by omega
      have g4:¬(s:Int)<(mid:Int):=by omega
      have g5:(mid:Int)<(e:Int):=by omega
      have g6:(e:Int)<(b:Int):=by omega
      rw [show e=c by omega,rot_id2] at hx l1 l2 l3 l4
      rw [show c=e by omega] at l3 l4
      have hr2:=fun (f2:Nat→α) (m:Mv n a mid f f2)=>ih _ _ hX mid e b f2 (by omega) (by omega) (by omega) hb (m.srt_out l3 (.inr (Nat.le_refl _))) (m.srt_out l4 (.inr (by omega)))
      refine rS_ Tryz.func164 ?_
      simp only [go_sem,seval,n1,w13,g1,g2,g3,g4,g5,g6,h.len,h.gog,h.at0,h.atj,h.set0,h.setj,h.tk,h.tk0,h.tkj,h.refs,h.refsj,h.hcaps,h.capsj,h.hcaps2,h.capsj2,List.append_assoc]
      repeat' (first
       | ((first
        | (refine (hr2 _ (Mv.refl n a mid f)).mono ?_<;>(rintro c H' ⟨rfl,f3,m3,s3,rfl⟩))
        | (refine ⟨by assumption,?_⟩))<;>(try simp only [go_sem,seval,n1,w13,g1,g2,g3,g4,g5,g6,h.len,h.gog,h.at0,h.atj,h.set0,h.setj,h.tk,h.tk0,h.tkj,h.refs,h.refsj,h.hcaps,h.capsj,h.hcaps2,h.capsj2,List.append_assoc]))
       | fail)
      first | exact srt_join hx (.refl n a mid f) (srt_sub l1 (Nat.le_refl _) (by omega)) m3 s3 | exact ⟨(m3.mono (by omega) (Nat.le_refl _)),srt_join hx (.refl n a mid f) (srt_sub l1 (Nat.le_refl _) (by omega)) m3 s3⟩ | exact ⟨_,(m3.mono (by omega) (Nat.le_refl _)),srt_join hx (.refl n a mid f) (srt_sub l1 (Nat.le_refl _) (by omega)) m3 s3,rfl⟩
     ·have g1:(s:Int)<(c:Int):=by omega
      have g2:(c:Int)<(e:Int):=by omega
      have g4:(s:Int)<(mid:Int):=by omega
      have g5:(mid:Int)<(e:Int):=by omega
      have hrt:=rotate_R hX hn s c e f p1 (by omega) (by omega)
      generalize hF:rot s c e f=F at hx l1 l2 l3 l4 hrt
      have hr2:=fun (f2:Nat→α) (m:Mv n a mid F f2) (hh:e<b)=>ih _ _ hX mid e b f2 (by omega) (by omega) (by omega) hb (m.srt_out l3 (.inr (Nat.le_refl _))) (m.srt_out l4 (.inr (by omega)))
      by_cases d1:a<s
      ·have g3:(a:Int)<(s:Int):=by omega
       have hl:=ih _ _ hX a s mid F (by omega) d1 (by omega) (by omega) l1 l2
       by_cases d2:e<b
       ·have g6:(e:Int)<(b:Int):=by omega
        refine rS_ Tryz.func164 ?_
        simp only [go_sem,seval,n1,w13,g1,g2,g3,g4,g5,g6,h.len,h.gog,h.at0,h.atj,h.set0,h.setj,h.tk,h.tk0,h.tkj,h.refs,h.refsj,h.hcaps,h.capsj,h.hcaps2,h.capsj2,List.append_assoc]
        repeat' (first
         | ((first
          | (refine hrt.mono ?_<;>(rintro c H' ⟨rfl,hm1,rfl⟩))
          | (refine hl.mono ?_<;>(rintro c H' ⟨rfl,f2,m2,s2,rfl⟩))
          | (refine (hr2 _ m2 d2).mono ?_<;>(rintro c H' ⟨rfl,f3,m3,s3,rfl⟩))
          | (refine ⟨by assumption,?_⟩))<;>(try simp only [go_sem,seval,n1,w13,g1,g2,g3,g4,g5,g6,h.len,h.gog,h.at0,h.atj,h.set0,h.setj,h.tk,h.tk0,h.tkj,h.refs,h.refsj,h.hcaps,h.capsj,h.hcaps2,h.capsj2,List.append_assoc]))
         | fail)
        first | exact srt_join hx m2 s2 m3 s3 | exact ⟨(((hm1.mono (by omega) (by omega)).trans (m2.mono (Nat.le_refl _) (by omega))).trans (m3.mono (by omega) (Nat.le_refl _))),srt_join hx m2 s2 m3 s3⟩ | exact ⟨_,(((hm1.mono (by omega) (by omega)).trans (m2.mono (Nat.le_refl _) (by omega))).trans (m3.mono (by omega) (Nat.le_refl _))),srt_join hx m2 s2 m3 s3,rfl⟩
       ·have g6:¬(e:Int)<(b:Int):=by omega
        refine rS_ Tryz.func164 ?_
        simp only [go_sem,seval,n1,w13,g1,g2,g3,g4,g5,g6,h.len,h.gog,h.at0,h.atj,h.set0,h.setj,h.tk,h.tk0,h.tkj,h.refs,h.refsj,h.hcaps,h.capsj,h.hcaps2,h.capsj2,List.append_assoc]
        repeat' (first
         | ((first
          | (refine hrt.mono ?_<;>(rintro c H' ⟨rfl,hm1,rfl⟩))
          | (refine hl.mono ?_<;>(rintro c H' ⟨rfl,f2,m2,s2,rfl⟩))
          | (refine ⟨by assumption,?_⟩))<;>(try simp only [go_sem,seval,n1,w13,g1,g2,g3,g4,g5,g6,h.len,h.gog,h.at0,h.atj,h.set0,h.setj,h.tk,h.tk0,h.tkj,h.refs,h.refsj,h.hcaps,h.capsj,h.hcaps2,h.capsj2,List.append_assoc]))
         | fail)
        first | exact srt_join hx m2 s2 (.refl n mid b f2) (srt_sub (m2.srt_out l3 (.inr (Nat.le_refl _))) (Nat.le_refl _) (by omega)) | exact ⟨((hm1.mono (by omega) (by omega)).trans (m2.mono (Nat.le_refl _) (by omega))),srt_join hx m2 s2 (.refl n mid b f2) (srt_sub (m2.srt_out l3 (.inr (Nat.le_refl _))) (Nat.le_refl _) (by omega))⟩ | exact ⟨_,((hm1.mono (by omega) (by omega)).trans (m2.mono (Nat.le_refl _) (by omega))),srt_join hx m2 s2 (.refl n mid b f2) (srt_sub (m2.srt_out l3 (.inr (Nat.le_refl _))) (Nat.le_refl _) (by omega)),rfl⟩
      ·have g3:¬(a:Int)<(s:Int):=by omega
       have l2':srt lt F a mid:=srt_sub l2 (by omega) (Nat.le_refl _)
       by_cases d2:e<b
       ·have g6:(e:Int)<(b:Int):=by omega
        refine rS_ Tryz.func164 ?_
        simp only [go_sem,seval,n1,w13,g1,g2,g3,g4,g5,g6,h.len,h.gog,h.at0,h.atj,h.set0,h.setj,h.tk,h.tk0,h.tkj,h.refs,h.refsj,h.hcaps,h.capsj,h.hcaps2,h.capsj2,List.append_assoc]
        repeat' (first
         | ((first
          | (refine hrt.mono ?_<;>(rintro c H' ⟨rfl,hm1,rfl⟩))
          | (refine (hr2 _ (Mv.refl n a mid F) d2).mono ?_<;>(rintro c H' ⟨rfl,f3,m3,s3,rfl⟩))
          | (refine ⟨sd,?_⟩)
          | (refine ⟨by assumption,?_⟩))<;>(try simp only [go_sem,seval,n1,w13,g1,g2,g3,g4,g5,g6,h.len,h.gog,h.at0,h.atj,h.set0,h.setj,h.tk,h.tk0,h.tkj,h.refs,h.refsj,h.hcaps,h.capsj,h.hcaps2,h.capsj2,List.append_assoc]))
         | fail)
        first | exact srt_join hx (.refl n a mid F) l2' m3 s3 | exact ⟨((hm1.mono (by omega) (by omega)).trans (m3.mono (by omega) (Nat.le_refl _))),srt_join hx (.refl n a mid F) l2' m3 s3⟩ | exact ⟨_,((hm1.mono (by omega) (by omega)).trans (m3.mono (by omega) (Nat.le_refl _))),srt_join hx (.refl n a mid F) l2' m3 s3,rfl⟩
       ·have g6:¬(e:Int)<(b:Int):=by omega
        refine rS_ Tryz.func164 ?_
        simp only [go_sem,seval,n1,w13,g1,g2,g3,g4,g5,g6,h.len,h.gog,h.at0,h.atj,h.set0,h.setj,h.tk,h.tk0,h.tkj,h.refs,h.refsj,h.hcaps,h.capsj,h.hcaps2,h.capsj2,List.append_assoc]
        repeat' (first
         | ((first
          | (refine hrt.mono ?_<;>(rintro c H' ⟨rfl,hm1,rfl⟩))
          | (refine ⟨by assumption,?_⟩))<;>(try simp only [go_sem,seval,n1,w13,g1,g2,g3,g4,g5,g6,h.len,h.gog,h.at0,h.atj,h.set0,h.setj,h.tk,h.tk0,h.tkj,h.refs,h.refsj,h.hcaps,h.capsj,h.hcaps2,h.capsj2,List.append_assoc]))
         | fail)
        first | exact srt_join hx (.refl n a mid F) l2' (.refl n mid b F) (srt_sub l3 (Nat.le_refl _) (by omega)) | exact ⟨(hm1.mono (by omega) (by omega)),srt_join hx (.refl n a mid F) l2' (.refl n mid b F) (srt_sub l3 (Nat.le_refl _) (by omega))⟩ | exact ⟨_,(hm1.mono (by omega) (by omega)),srt_join hx (.refl n a mid F) l2' (.refl n mid b F) (srt_sub l3 (Nat.le_refl _) (by omega)),rfl⟩
   ·have n6:¬(mid:Int)<(c:Int):=by omega
    have hrng:∀x,a≤x→x<c→a≤x∧x<c∧c≤mid+c - 1 - x∧mid+c - 1 - x<b:=fun x h1 h2=>by omega
    have hA0:a=a∨mid+c - a=b:=.inl rfl
    have hB0:c=c∨c=mid:=.inl rfl
    refine aE_ Tryz.func164 ?_
    refine rS_ Tryz.func164 ?_
    simp only [go_sem,seval,h.len,h.gog,h.at0,h.atj,h.set0,h.setj,h.tk,h.tk0,h.tkj,h.refs,h.refsj,h.hcaps,h.capsj,h.hcaps2,h.capsj2,List.append_assoc,w1,w5,n0,n5,w6,hh,w7,w8,n6]
    refine AW.lp [1,2,3,4,16,17,20] (fun u:Nat×Nat=>[(18,.d (.int .i64 (u.1:Int))),(19,.d (.int .i64 (u.2:Int)))]) (fun H _=>H) (fun u=>Cut lt f (mid+c - 1) a c u.1 u.2) (fun u=>u.2 - u.1) (a,c) ⟨Nat.le_refl _,by dsimp only;omega,Nat.le_refl _,fun x h1 h2=>absurd h2 (by dsimp only;omega),fun x h1 h2=>absurd h2 (by dsimp only at h1;omega)⟩ wk2_ ?_
    rintro ⟨s,r⟩ hcut hnext
    dsimp only at hcut hnext ⊢
    have hnx:=fun i' j' s'=>hnext (i',j') s'
    clear hnext
    have q1:=hcut.lo
    have q2:=hcut.le
    have q3:=hcut.hi
    by_cases hsr:s<r
    ·have n1:(s:Int)<(r:Int):=by omega
     have hh2:=halfN s r (by omega)
     have w10:IntKind.i64.wrap ((s:Int)+(r:Int))=(s:Int)+(r:Int):=wrap_ok (by omega) (by omega)
     obtain ⟨y,hy⟩:∃y,(s+r) / 2=y:=⟨_,rfl⟩
     rw [hy] at hh2
     have w11:IntKind.i64.wrap (((mid+c - 1:Nat):Int) - (y:Int))=((mid+c - 1 - y:Nat):Int):=wrapN _ (by omega) (by omega)
     have w12:IntKind.i64.wrap ((y:Int)+1)=((y+1:Nat):Int):=wrapN _ (by omega) (by omega)
     have hl:=h.less f [.box [.fn g cs,.xfn sf ds]] (mid+c - 1 - y) y (by omega) (by omega)
     cases hlt:lt (f (mid+c - 1 - y)) (f y) with
     | false =>
      rw [hlt] at hl
      refine rS_ Tryz.func164 ?_
      simp only [go_sem,seval,n1,w10,hh2,w11,h.len,h.gog,h.at0,h.atj,h.set0,h.setj,h.tk,h.tk0,h.tkj,h.refs,h.refsj,h.hcaps,h.capsj,h.hcaps2,h.capsj2,List.append_assoc]
      repeat' (first
       | ((refine hl.mono ?_<;>(rintro c H' ⟨rfl,rfl⟩))<;>(try simp only [go_sem,seval,n1,w10,hh2,w11,w12,h.len,h.gog,h.at0,h.atj,h.set0,h.setj,h.tk,h.tk0,h.tkj,h.refs,h.refsj,h.hcaps,h.capsj,h.hcaps2,h.capsj2,List.append_assoc]))
       | fail)
      refine hnx (y+1) r _ (hcut.up hw hs1 hs2 hrng (by omega) (by omega) hlt) (by dsimp only;omega) wk2_
     | true =>
      rw [hlt] at hl
      refine rS_ Tryz.func164 ?_
      simp only [go_sem,seval,n1,w10,hh2,w11,h.len,h.gog,h.at0,h.atj,h.set0,h.setj,h.tk,h.tk0,h.tkj,h.refs,h.refsj,h.hcaps,h.capsj,h.hcaps2,h.capsj2,List.append_assoc]
      repeat' (first
       | ((refine hl.mono ?_<;>(rintro c H' ⟨rfl,rfl⟩))<;>(try simp only [go_sem,seval,n1,w10,hh2,w11,w12,h.len,h.gog,h.at0,h.atj,h.set0,h.setj,h.tk,h.tk0,h.tkj,h.refs,h.refsj,h.hcaps,h.capsj,h.hcaps2,h.capsj2,List.append_assoc]))
       | fail)
      refine hnx s y _ (hcut.dn hw hs1 hs2 hrng (by omega) (by omega) hlt) (by dsimp only;omega) wk2_
    ·have n1:¬(s:Int)<(r:Int):=by omega
     obtain rfl:s=r:=by omega
     obtain ⟨e,he⟩:∃e,mid+c - s=e:=⟨_,rfl⟩
     have w13:IntKind.i64.wrap ((mid:Int)+(c:Int) - (s:Int))=(e:Int):=wrapN _ (by omega) (by omega)
     have hA:s=a∨e=b∨leq lt (f (s - 1)) (f e):=by
      by_cases e0:s=a
      ·rcases hA0 with h0 | h0
       ·exact .inl (by omega)
       ·exact .inr (.inl (by omega))
      ·have:=hcut.bel (s - 1) (by omega) (by omega)
       rw [show mid+c - 1 - (s - 1)=e by omega] at this
       exact .inr (.inr this)
     have hB:s=c∨e=c∨lt (f (e - 1)) (f s)=true:=by
      by_cases e0:s=c
      ·rcases hB0 with h0 | h0
       ·exact .inl (by omega)
       ·exact .inr (.inl (by omega))
      ·have:=hcut.abv s (Nat.le_refl _) (by omega)
       rw [show mid+c - 1 - s=e - 1 by omega] at this
       exact .inr (.inr this)
     have hx:=sym_cross hw hs1 hs2 (s:=s) (e:=e) (mid:=mid) (by omega) (by omega) (by omega) (by omega) (by omega) hA hB
     obtain ⟨l1,l2,l3,l4⟩:=rot_lo hs1 hs2 (s:=s) (e:=e) (mid:=mid) (by omega) (by omega) (by omega) (by omega) (by omega)
     have hnxt:=hnx
     clear hnx hcut hA hB
     rcases (show (s=c∧s<mid)∨(s=c∧s=mid)∨(s<c∧s=mid)∨(s<c∧s<mid) by omega) with ⟨p1,p2⟩ | ⟨p1,p2⟩ | ⟨p1,p2⟩ | ⟨p1,p2⟩
     ·have g1:¬(s:Int)<(c:Int):=by omega
      have g2:(a:Int)<(s:Int):=by omega
      have g3:(s:Int)<(mid:Int):=by omega
      have g4:¬(mid:Int)<(e:Int):=by omega
      rw [p1,rot_id1] at hx l1 l2 l3 l4
      rw [←p1] at l1 l2
      have hl:=ih _ _ hX a s mid f (by omega) (by omega) (by omega) (by omega) l1 l2
      refine rS_ Tryz.func164 ?_
      simp only [go_sem,seval,n1,w13,g1,g2,g3,g4,h.len,h.gog,h.at0,h.atj,h.set0,h.setj,h.tk,h.tk0,h.tkj,h.refs,h.refsj,h.hcaps,h.capsj,h.hcaps2,h.capsj2,List.append_assoc]
      repeat' (first
       | ((first
        | (refine hl.mono ?_<;>(rintro c H' ⟨rfl,f2,m2,s2,rfl⟩))
        | (refine ⟨by assumption,?_⟩))<;>(try simp only [go_sem,seval,n1,w13,g1,g2,g3,g4,h.len,h.gog,h.at0,h.atj,h.set0,h.setj,h.tk,h.tk0,h.tkj,h.refs,h.refsj,h.hcaps,h.capsj,h.hcaps2,h.capsj2,List.append_assoc]))
       | fail)
      have s4:=m2.srt_out l4 (.inr (by omega))
      first | exact srt_join hx m2 s2 (.refl n mid b f2) (srt_sub s4 (by omega) (Nat.le_refl _)) | exact ⟨(m2.mono (Nat.le_refl _) (by omega)),srt_join hx m2 s2 (.refl n mid b f2) (srt_sub s4 (by omega) (Nat.le_refl _))⟩ | exact ⟨_,(m2.mono (Nat.le_refl _) (by omega)),srt_join hx m2 s2 (.refl n mid b f2) (srt_sub s4 (by omega) (Nat.le_refl _)),rfl⟩
     ·have g1:¬(s:Int)<(c:Int):=by omega
      have g2:(a:Int)<(s:Int):=by omega
      have g3:¬(s:Int)<(mid:Int):=by omega
      have g4:¬(mid:Int)<(e:Int):=by omega
      rw [p1,rot_id1] at hx l1 l2 l3 l4
      refine rS_ Tryz.func164 ?_
      simp only [go_sem,seval,n1,w13,g1,g2,g3,g4,h.len,h.gog,h.at0,h.atj,h.set0,h.setj,h.tk,h.tk0,h.tkj,h.refs,h.refsj,h.hcaps,h.capsj,h.hcaps2,h.capsj2,List.append_assoc]
      repeat' (first
       | ((refine ⟨by assumption,?_⟩)<;>(try simp only [go_sem,seval,n1,w13,g1,g2,g3,g4,h.len,h.gog,h.at0,h.atj,h.set0,h.setj,h.tk,h.tk0,h.tkj,h.refs,h.refsj,h.hcaps,h.capsj,h.hcaps2,h.capsj2,List.append_assoc]))
       | fail)
      all_goals first | exact srt_join hx (.refl n a mid f) (srt_sub l1 (Nat.le_refl _) (by omega)) (.refl n mid b f) (srt_sub l4 (by omega) (Nat.le_refl _)) | exact ⟨(.refl _ _ _ _),srt_join hx (.refl n a mid f) (srt_sub l1 (Nat.le_refl _) (by omega)) (.refl n mid b f) (srt_sub l4 (by omega) (Nat.le_refl _))⟩ | exact ⟨_,(.refl _ _ _ _),srt_join hx (.refl n a mid f) (srt_sub l1 (Nat.le_refl _) (by omega)) (.refl n mid b f) (srt_sub l4 (by omega) (Nat.le_refl _)),rfl⟩
     ·have g1:(s:Int)<(c:Int):=by omega
      have g2:¬(c:Int)<(e:Int):=by omega
      have g3:(a:Int)<(s:Int):=by omega
      have g4:¬(s:Int)<(mid:Int):=by omega
      have g5:(mid:Int)<(e:Int):=by omega
      have g6:(e:Int)<(b:Int):=by omega
      rw [show e=c by omega,rot_id2] at hx l1 l2 l3 l4
      rw [show c=e by omega] at l3 l4
      have hr2:=fun (f2:Nat→α) (m:Mv n a mid f f2)=>ih _ _ hX mid e b f2 (by omega) (by omega) (by omega) hb (m.srt_out l3 (.inr (Nat.le_refl _))) (m.srt_out l4 (.inr (by omega)))
      refine rS_ Tryz.func164 ?_
      simp only [go_sem,seval,n1,w13,g1,g2,g3,g4,g5,g6,h.len,h.gog,h.at0,h.atj,h.set0,h.setj,h.tk,h.tk0,h.tkj,h.refs,h.refsj,h.hcaps,h.capsj,h.hcaps2,h.capsj2,List.append_assoc]
      repeat' (first
       | ((first
        | (refine (hr2 _ (Mv.refl n a mid f)).mono ?_<;>(rintro c H' ⟨rfl,f3,m3,s3,rfl⟩))
        | (refine ⟨sd,?_⟩)
        | (refine ⟨by assumption,?_⟩))<;>(try simp only [go_sem,seval,n1,w13,g1,g2,g3,g4,g5,g6,h.len,h.gog,h.at0,h.atj,h.set0,h.setj,h.tk,h.tk0,h.tkj,h.refs,h.refsj,h.hcaps,h.capsj,h.hcaps2,h.capsj2,List.append_assoc]))
       | fail)
      first | exact srt_join hx (.refl n a mid f) (srt_sub l1 (Nat.le_refl _) (by omega)) m3 s3 | exact ⟨(m3.mono (by omega) (Nat.le_refl _)),srt_join hx (.refl n a mid f) (srt_sub l1 (Nat.le_refl _) (by omega)) m3 s3⟩ | exact ⟨_,(m3.mono (by omega) (Nat.le_refl _)),srt_join hx (.refl n a mid f) (srt_sub l1 (Nat.le_refl _) (by omega)) m3 s3,rfl⟩
     ·have g1:(s:Int)<(c:Int):=by omega
      have g2:(c:Int)<(e:Int):=by omega
      have g4:(s:Int)<(mid:Int):=by omega
      have g5:(mid:Int)<(e:Int):=by omega
      have hrt:=rotate_R hX hn s c e f p1 (by omega) (by omega)
      generalize hF:rot s c e f=F at hx l1 l2 l3 l4 hrt
      have hr2:=fun (f2:Nat→α) (m:Mv n a mid F f2) (hh:e<b)=>ih _ _ hX mid e b f2 (by omega) (by omega) (by omega) hb (m.srt_out l3 (.inr (Nat.le_refl _))) (m.srt_out l4 (.inr (by omega)))
      by_cases d1:a<s
      ·have g3:(a:Int)<(s:Int):=by omega
       have hl:=ih _ _ hX a s mid F (by omega) d1 (by omega) (by omega) l1 l2
       by_cases d2:e<b
       ·have g6:(e:Int)<(b:Int):=by omega
        refine rS_ Tryz.func164 ?_
        simp only [go_sem,seval,n1,w13,g1,g2,g3,g4,g5,g6,h.len,h.gog,h.at0,h.atj,h.set0,h.setj,h.tk,h.tk0,h.tkj,h.refs,h.refsj,h.hcaps,h.capsj,h.hcaps2,h.capsj2,List.append_assoc]
        repeat' (first
         | ((first
          | (refine hrt.mono ?_<;>(rintro c H' ⟨rfl,hm1,rfl⟩))
          | (refine hl.mono ?_<;>(rintro c H' ⟨rfl,f2,m2,s2,rfl⟩))
          | (refine (hr2 _ m2 d2).mono ?_<;>(rintro c H' ⟨rfl,f3,m3,s3,rfl⟩))
          | (refine ⟨by assumption,?_⟩))<;>(try simp only [go_sem,seval,n1,w13,g1,g2,g3,g4,g5,g6,h.len,h.gog,h.at0,h.atj,h.set0,h.setj,h.tk,h.tk0,h.tkj,h.refs,h.refsj,h.hcaps,h.capsj,h.hcaps2,h.capsj2,List.append_assoc]))
         | fail)
        first | exact srt_join hx m2 s2 m3 s3 | exact ⟨(((hm1.mono (by omega) (by omega)).trans (m2.mono (Nat.le_refl _) (by omega))).trans (m3.mono (by omega) (Nat.le_refl _))),srt_join hx m2 s2 m3 s3⟩ | exact ⟨_,(((hm1.mono (by omega) (by omega)).trans (m2.mono (Nat.le_refl _) (by omega))).trans (m3.mono (by omega) (Nat.le_refl _))),srt_join hx m2 s2 m3 s3,rfl⟩
       ·have g6:¬(e:Int)<(b:Int):=by omega
        refine rS_ Tryz.func164 ?_
        simp only [go_sem,seval,n1,w13,g1,g2,g3,g4,g5,g6,h.len,h.gog,h.at0,h.atj,h.set0,h.setj,h.tk,h.tk0,h.tkj,h.refs,h.refsj,h.hcaps,h.capsj,h.hcaps2,h.capsj2,List.append_assoc]
        repeat' (first
         | ((first
          | (refine hrt.mono ?_<;>(rintro c H' ⟨rfl,hm1,rfl⟩))
          | (refine hl.mono ?_<;>(rintro c H' ⟨rfl,f2,m2,s2,rfl⟩))
          | (refine ⟨sd,?_⟩)
          | (refine ⟨by assumption,?_⟩))<;>(try simp only [go_sem,seval,n1,w13,g1,g2,g3,g4,g5,g6,h.len,h.gog,h.at0,h.atj,h.set0,h.setj,h.tk,h.tk0,h.tkj,h.refs,h.refsj,h.hcaps,h.capsj,h.hcaps2,h.capsj2,List.append_assoc]))
         | fail)
        first | exact srt_join hx m2 s2 (.refl n mid b f2) (srt_sub (m2.srt_out l3 (.inr (Nat.le_refl _))) (Nat.le_refl _) (by omega)) | exact ⟨((hm1.mono (by omega) (by omega)).trans (m2.mono (Nat.le_refl _) (by omega))),srt_join hx m2 s2 (.refl n mid b f2) (srt_sub (m2.srt_out l3 (.inr (Nat.le_refl _))) (Nat.le_refl _) (by omega))⟩ | exact ⟨_,((hm1.mono (by omega) (by omega)).trans (m2.mono (Nat.le_refl _) (by omega))),srt_join hx m2 s2 (.refl n mid b f2) (srt_sub (m2.srt_out l3 (.inr (Nat.le_refl _))) (Nat.le_refl _) (by omega)),rfl⟩
      ·have g3:¬(a:Int)<(s:Int):=by omega
       have l2':srt lt F a mid:=srt_sub l2 (by omega) (Nat.le_refl _)
       by_cases d2:e<b
       ·have g6:(e:Int)<(b:Int):=by omega
        refine rS_ Tryz.func164 ?_
        simp only [go_sem,seval,n1,w13,g1,g2,g3,g4,g5,g6,h.len,h.gog,h.at0,h.atj,h.set0,h.setj,h.tk,h.tk0,h.tkj,h.refs,h.refsj,h.hcaps,h.capsj,h.hcaps2,h.capsj2,List.append_assoc]
        repeat' (first
         | ((first
          | (refine hrt.mono ?_<;>(rintro c H' ⟨rfl,hm1,rfl⟩))
          | (refine (hr2 _ (Mv.refl n a mid F) d2).mono ?_<;>(rintro c H' ⟨rfl,f3,m3,s3,rfl⟩))
          | (refine ⟨by assumption,?_⟩))<;>(try simp only [go_sem,seval,n1,w13,g1,g2,g3,g4,g5,g6,h.len,h.gog,h.at0,h.atj,h.set0,h.setj,h.tk,h.tk0,h.tkj,h.refs,h.refsj,h.hcaps,h.capsj,h.hcaps2,h.capsj2,List.append_assoc]))
         | fail)
        first | exact srt_join hx (.refl n a mid F) l2' m3 s3 | exact ⟨((hm1.mono (by omega) (by omega)).trans (m3.mono (by omega) (Nat.le_refl _))),srt_join hx (.refl n a mid F) l2' m3 s3⟩ | exact ⟨_,((hm1.mono (by omega) (by omega)).trans (m3.mono (by omega) (Nat.le_refl _))),srt_join hx (.refl n a mid F) l2' m3 s3,rfl⟩
       ·have g6:¬(e:Int)<(b:Int):=by omega
        refine rS_ Tryz.func164 ?_
        simp only [go_sem,seval,n1,w13,g1,g2,g3,g4,g5,g6,h.len,h.gog,h.at0,h.atj,h.set0,h.setj,h.tk,h.tk0,h.tkj,h.refs,h.refsj,h.hcaps,h.capsj,h.hcaps2,h.capsj2,List.append_assoc]
        repeat' (first
         | ((first
          | (refine hrt.mono ?_<;>(rintro c H' ⟨rfl,hm1,rfl⟩))
          | (refine ⟨by assumption,?_⟩))<;>(try simp only [go_sem,seval,n1,w13,g1,g2,g3,g4,g5,g6,h.len,h.gog,h.at0,h.atj,h.set0,h.setj,h.tk,h.tk0,h.tkj,h.refs,h.refsj,h.hcaps,h.capsj,h.hcaps2,h.capsj2,List.append_assoc]))
         | fail)
        first | exact srt_join hx (.refl n a mid F) l2' (.refl n mid b F) (srt_sub l3 (Nat.le_refl _) (by omega)) | exact ⟨(hm1.mono (by omega) (by omega)),srt_join hx (.refl n a mid F) l2' (.refl n mid b F) (srt_sub l3 (Nat.le_refl _) (by omega))⟩ | exact ⟨_,(hm1.mono (by omega) (by omega)),srt_join hx (.refl n a mid F) l2' (.refl n mid b F) (srt_sub l3 (Nat.le_refl _) (by omega)),rfl⟩
end
end Go.Proofs.YtlajhmoomlgopaaGreat
