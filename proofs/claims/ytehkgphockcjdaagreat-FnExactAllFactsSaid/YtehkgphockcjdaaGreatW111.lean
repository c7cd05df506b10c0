import Derived.Test.YtehkgphockcjdaaGreatW107
import Derived.Test.YtehkgphockcjdaaGreatW8
import Derived.Test.YtehkgphockcjdaaGreatW9
open List renaming getElem?_eq_some_iff→a_,map_take→b_,map_drop→c_,getElem?_eq_none_iff→d_
namespace Go.Proofs.YtehkgphockcjdaaGreat
open Go.Abs
set_option maxRecDepth 100000
set_option maxHeartbeats 8000000
set_option linter.unusedSimpArgs false
set_option linter.unusedVariables false
def vcOpL0 (P:Program) (s:St) (o:Oper) (K:C→List O→Prop):Prop:=
 match o.op with
 | .buildSlice _ 0 _=>vcOpT P s o K
 | _=>vcOpL P s o K
def vcRL0 (P:Program) (n:Nat) (K:St→Prop):List Oper→St→Prop
 | [],⟨σ,H⟩=>K ⟨σ,H⟩
 | o :: rest,⟨σ,H⟩=>okDst n o=true∧o.guard=none∧vcOpL0 P ⟨σ,H⟩ o (kR (vcRL0 P n K rest) ⟨σ,H⟩ o.dst)
attribute [go_sem] vcOpL0.eq_def vcRL0.eq_1 vcRL0.eq_2
def stgD (rs:List RV) (m:Nat):List (List D):=(List.range m).map fun i=>[.sl ((stg rs i).map fcE)]
theorem stgD_1 (rs:List RV):stgD rs 1=[[.sl []]]:=rfl
theorem l18CmpV_fn (a b:FcV):Gives Tryz.prog 47 [.agg [.str a.1,.sl (a.2.map V.enc)],.agg [.str b.1,.sl (b.2.map V.enc)]] (.d (.int .i64 (a.cmp b))):=by
 have h:Gives Tryz.prog 47 [.agg (fcE a),.agg (fcE b)] (.d (.int .i64 (a.cmp b))):=l18Cmp_fn a.1 b.1 a.2 b.2
 rw [fcE_eq,fcE_eq] at h;exact h
theorem l18Insert_fn (l:List FcV) (f:FcV) (ha:ascC FcV.cmp l) (hl:l.length≤1000000):Gives Tryz.prog 23 [.sl (l.map fcE),.agg (fcE f)] (.d (.sl ((insC FcV.cmp l f).map fcE))):=by
 have hmx:maxLen=9223372036854775807:=rfl
 have hmap:∀x:List FcV,(x.map fcE).length=x.length:=fun x=>List.length_map _
 obtain ⟨RES,hRES⟩:∃RES,insC FcV.cmp l f=RES:=⟨_,rfl⟩
 have hFe:=fcE_eq f
 rw [hRES,hFe]
 refine aE_ Tryz.func23 ?_
 refine rS_ Tryz.func23 ?_
 simp only [go_sem,seval,hmap]
 refine AW.lp [0,3] (fun k:Nat=>[(5,.d (.int .i64 (k:Int)))]) (fun H _=>H) (fun k=>k≤l.length∧∀i y,k≤i→l[i]? = some y→¬y.cmp f<0) (fun k=>k) l.length ⟨Nat.le_refl _,fun i y hi hy=>by have:=(a_.1 hy).1;omega⟩ wk3_ ?_
 intro k hk hnk
 obtain ⟨k1,k2⟩:=hk
 have stop:(∀i y,i<k→l[i]? = some y→y.cmp f<0)→insC FcV.cmp l f=if eqAt FcV.cmp l k f then l else l.take k++f :: l.drop k:=fun h=>insC_at FcV.cmp_lin l f k ha k1 h k2
 by_cases hkz:k=0
 ·have n1:¬(0:Int)<(k:Int):=by omega
  have hst:=stop (fun i y hi=>by omega)
  clear stop hnk
  rw [hRES] at hst
  have hks:(0:Int)≤(k:Int):=by omega
  cases hlk:l[k]? with
  | none =>
   have hkl:k=l.length:=by have:=d_.1 hlk;omega
   have m1:¬(k:Int)<(l.length:Int):=by omega
   have hq:eqAt FcV.cmp l k f=false:=by unfold eqAt;rw [hlk]
   rw [hq,if_neg (by simp)] at hst
   rw [hst]
   refine rS_ Tryz.func23 ?_
   simp only [go_sem,seval,n1,hmap,m1,hks]
   skip
   repeat' (first
    | ((refine ⟨sd,?_⟩)<;>(try simp only [go_sem,seval,n1,hmap,m1,hks]))
    | fail)
   all_goals simp [hFe,b_,c_]
  | some z =>
   have m1:(k:Int)<(l.length:Int):=by have:=(a_.1 hlk).1;omega
   have hz:=l18CmpV_fn z f
   by_cases hzf:z.cmp f=0
   ·have hq:eqAt FcV.cmp l k f=true:=by unfold eqAt;rw [hlk];simp [hzf]
    rw [hq,if_pos rfl] at hst
    rw [hzf] at hz
    rw [hst]
    refine rS_ Tryz.func23 ?_
    simp only [go_sem,seval,n1,hmap,m1,hks,idx_of hlk,fcE_eq]
    skip
    repeat' (first
     | ((refine hz.callQ rfl ?_)<;>(try simp only [go_sem,seval,n1,hmap,m1,hks,idx_of hlk,fcE_eq]))
     | fail)
   ·have hq:eqAt FcV.cmp l k f=false:=by unfold eqAt;rw [hlk];simp [hzf]
    rw [hq,if_neg (by simp)] at hst
    rw [hst]
    refine rS_ Tryz.func23 ?_
    simp only [go_sem,seval,n1,hmap,m1,hks,idx_of hlk,fcE_eq,hzf]
    skip
    repeat' (first
     | ((first
      | (refine hz.callQ rfl ?_)
      | (refine ⟨sd,?_⟩))<;>(try simp only [go_sem,seval,n1,hmap,m1,hks,idx_of hlk,fcE_eq,hzf]))
     | fail)
    all_goals first | (exact absurd (by assumption) hzf) | skip
    all_goals simp [hFe,b_,c_]
 ·obtain ⟨y,hy⟩:∃y,l[k - 1]? = some y:=⟨_,List.getElem?_eq_getElem (by omega)⟩
  have n1:(0:Int)<(k:Int):=by omega
  have w1:IntKind.i64.wrap ((k:Int) - 1)=((k - 1:Nat):Int):=by rw [wrap_ok (by omega) (by omega)];omega
  have n2:((k - 1:Nat):Int)<(l.length:Int):=by omega
  have he:=l18CmpV_fn y f
  by_cases hc:y.cmp f<0
  ·have hc':¬(0:Int)≤y.cmp f:=by omega
   have hst:=stop (fun i z hi hz=>by
    by_cases e:i=k - 1
    ·subst e;rw [hz] at hy;cases hy;exact hc
    ·exact FcV.cmp_lin.tr _ _ _ (ascC_at ha (show i<k - 1 by omega) hz hy) hc)
   clear stop hnk
   rw [hRES] at hst
   have hks:(0:Int)≤(k:Int):=by omega
   cases hlk:l[k]? with
   | none =>
    have hkl:k=l.length:=by have:=d_.1 hlk;omega
    have m1:¬(k:Int)<(l.length:Int):=by omega
    have hq:eqAt FcV.cmp l k f=false:=by unfold eqAt;rw [hlk]
    rw [hq,if_neg (by simp)] at hst
    rw [hst]
    refine rS_ Tryz.func23 ?_
    simp only [go_sem,seval,n1,w1,n2,idx_of hy,hmap,fcE_eq,hc,hc',m1,hks]
    repeat' (first
     | ((first
      | (refine he.callQ rfl ?_)
      | (refine ⟨sd,?_⟩))<;>(try simp only [go_sem,seval,n1,w1,n2,idx_of hy,hmap,fcE_eq,hc,hc',m1,hks]))
     | fail)
    all_goals simp [hFe,b_,c_]
   | some z =>
    have m1:(k:Int)<(l.length:Int):=by have:=(a_.1 hlk).1;omega
    have hz:=l18CmpV_fn z f
    by_cases hzf:z.cmp f=0
    ·have hq:eqAt FcV.cmp l k f=true:=by unfold eqAt;rw [hlk];simp [hzf]
     rw [hq,if_pos rfl] at hst
     rw [hzf] at hz
     rw [hst]
     refine rS_ Tryz.func23 ?_
     simp only [go_sem,seval,n1,w1,n2,idx_of hy,hmap,fcE_eq,hc,hc',m1,hks,idx_of hlk,fcE_eq]
     repeat' (first
      | ((first
       | (refine he.callQ rfl ?_)
       | (refine hz.callQ rfl ?_))<;>(try simp only [go_sem,seval,n1,w1,n2,idx_of hy,hmap,fcE_eq,hc,hc',m1,hks,idx_of hlk,fcE_eq]))
      | fail)
    ·have hq:eqAt FcV.cmp l k f=false:=by unfold eqAt;rw [hlk];simp [hzf]
     rw [hq,if_neg (by simp)] at hst
     rw [hst]
     refine rS_ Tryz.func23 ?_
     simp only [go_sem,seval,n1,w1,n2,idx_of hy,hmap,fcE_eq,hc,hc',m1,hks,idx_of hlk,fcE_eq,hzf]
     repeat' (first
      | ((first
       | (refine he.callQ rfl ?_)
       | (refine hz.callQ rfl ?_)
       | (refine ⟨sd,?_⟩))<;>(try simp only [go_sem,seval,n1,w1,n2,idx_of hy,hmap,fcE_eq,hc,hc',m1,hks,idx_of hlk,fcE_eq,hzf]))
      | fail)
     all_goals first | (exact absurd (by assumption) hzf) | skip
     all_goals simp [hFe,b_,c_]
  ·have hc':(0:Int)≤y.cmp f:=by omega
   refine rS_ Tryz.func23 ?_
   simp only [go_sem,seval,n1,w1,n2,idx_of hy,hmap,fcE_eq,hc,hc']
   repeat' (first
    | ((refine he.callQ rfl ?_)<;>(try simp only [go_sem,seval,n1,w1,n2,idx_of hy,hmap,fcE_eq,hc,hc']))
    | fail)
   refine hnk (k - 1) _ ⟨by omega,fun i z hi hz=>?_⟩ (by omega) wk3_
   by_cases e:i=k - 1
   ·subst e;rw [hz] at hy;cases hy;exact hc
   ·exact k2 i z (by omega) hz
end Go.Proofs.YtehkgphockcjdaaGreat
