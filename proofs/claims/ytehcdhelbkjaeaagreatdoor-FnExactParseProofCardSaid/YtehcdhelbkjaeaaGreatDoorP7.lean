import Derived.Test.YtehcdhelbkjaeaaGreatDoorP5
open Bool renaming and_eq_true→a_
open List renaming getElem?_append_right→b_,getElem?_append_left→c_,length_eq_zero_iff→d_
set_option linter.unusedVariables false
set_option linter.unusedSimpArgs false
namespace Go.Abs
mutual
def Gl.nc:Gl→Nat→Nat
 | .mk k _ _ gs,i=>if k=8 then Gl.ncOr gs i else if k=7 then Gl.ncAnd gs i else if k=9 then 1 else 0
def Gl.ncOr:List Gl→Nat→Nat
 | [],_=>0
 | g :: r,i=>if i<g.clsS.length then Gl.nc g i else Gl.ncOr r (i - g.clsS.length)
def Gl.ncAnd:List Gl→Nat→Nat
 | [],_=>0
 | g :: r,i=>Gl.nc g (i / Gl.prd r % g.clsS.length)+Gl.ncAnd r i
end
mutual
def Gl.cn:Gl→Nat→List (List UInt8)
 | .mk k n _ gs,i=>if k=8 then Gl.cnOr gs i else if k=7 then Gl.cnAnd gs i else if k=9 then [n] else []
def Gl.cnOr:List Gl→Nat→List (List UInt8)
 | [],_=>[]
 | g :: r,i=>if i<g.clsS.length then Gl.cn g i else Gl.cnOr r (i - g.clsS.length)
def Gl.cnAnd:List Gl→Nat→List (List UInt8)
 | [],_=>[]
 | g :: r,i=>Gl.cn g (i / Gl.prd r % g.clsS.length)++Gl.cnAnd r i
end
theorem Gl.cn_eq (g:Gl) (i:Nat):g.cn i=if g.kind=8 then Gl.cnOr g.goals i else if g.kind=7 then Gl.cnAnd g.goals i else if g.kind=9 then [g.name] else []:=by
 cases g;simp only [Gl.cn,Gl.kind,Gl.goals,Gl.name];rfl
def calls9 (c:List Gl):List (List UInt8):=(c.filter fun g=>decide (g.kind=9)).map Gl.name
theorem FcV.eq_rel {a b:FcV} (h:a.eq b=true):a.1=b.1:=by
 simp only [FcV.eq,decide_eq_true_eq] at h
 unfold cmpFact at h
 split at h
 ·split at h<;>omega
 ·rename_i hh;exact Decidable.not_not.1 hh
theorem calls9_app (a b:List Gl):calls9 (a++b)=calls9 a++calls9 b:=by simp [calls9,List.filter_append]
theorem clsLoop_kids {f:Int→V}:∀{c:List Gl} {ks:List (Bool×FcV)},clsLoop f c ks=true→(ks.map fun k=>k.2.1)=calls9 c∧∀k,k∈ks→k.1=true
 | [],ks,h=>by
  simp only [clsLoop,List.isEmpty_iff] at h
  subst h;simp [calls9]
 | g :: r,ks,h=>by
  simp only [clsLoop] at h
  by_cases h10:g.kind=10
  ·rw [if_pos h10] at h;cases h
  ·rw [if_neg h10] at h
   by_cases h9:g.kind=9
   ·rw [if_pos h9] at h
    cases ks with
    | nil=>cases h
    | cons k ks =>
     simp only [a_] at h
     obtain ⟨i1,i2⟩:=clsLoop_kids h.2
     refine ⟨by rw [List.map_cons,i1,FcV.eq_rel h.1.2];simp [calls9,h9,Gl.callV],fun x hx=>?_⟩
     rcases List.mem_cons.1 hx with rfl | hx
     ·exact h.1.1
     ·exact i2 x hx
   ·rw [if_neg h9] at h
    simp only [a_] at h
    obtain ⟨i1,i2⟩:=clsLoop_kids h.2
    exact ⟨by rw [i1];simp [calls9,h9],i2⟩
theorem prodC_at {α:Type}:∀(a l:List (List α)) (i:Nat) (c:List α),(prodC a l)[i]? = some c→∃x y,a[i / l.length]? = some x∧l[i % l.length]? = some y∧c=x++y
 | [],l,i,c,h=>by simp [prodC] at h
 | x :: a,l,i,c,h=>by
  have hp:prodC (x :: a) l=(l.map fun y=>x++y)++prodC a l:=by simp [prodC]
  rw [hp] at h
  have hl0:0<l.length:=by
   rcases Nat.eq_zero_or_pos l.length with h0 | h0
   ·have:l=[]:=d_.1 h0
    subst this
    have hz:(prodC a ([]:List (List α))).length=0:=by rw [prodC_len];simp
    rw [d_.1 hz] at h
    simp at h
   ·exact h0
  by_cases hi:i<l.length
  ·rw [c_ (by simpa using hi)] at h
   simp only [List.getElem?_map,Option.map_eq_some_iff] at h
   obtain ⟨y,hy,rfl⟩:=h
   refine ⟨x,y,?_,?_,rfl⟩
   ·rw [Nat.div_eq_of_lt hi];rfl
   ·rw [Nat.mod_eq_of_lt hi];exact hy
  ·rw [b_ (by simp;omega)] at h
   simp only [List.length_map] at h
   obtain ⟨u,y,h1,h2,h3⟩:=prodC_at a l _ c h
   obtain ⟨j,rfl⟩:∃j,i=j+l.length:=⟨i - l.length,by omega⟩
   rw [Nat.add_sub_cancel] at h1 h2
   refine ⟨u,y,?_,?_,h3⟩
   ·rw [Nat.add_div_right _ hl0];simpa using h1
   ·rw [Nat.add_mod_right];exact h2
theorem Gl.cn_calls:∀(t:Gl),t.clsS.length≤64→∀(i:Nat) (c:List Gl),t.clsS[i]? = some c→calls9 c=t.cn i:=by
 intro t
 induction t using Gl.ind' with
 | h t ih =>
  intro hl i c hc
  rw [Gl.cn_eq]
  rw [Gl.clsS_eq] at hl hc
  by_cases h0:t.kind=0
  ·rw [if_pos h0] at hc
   rw [if_neg (by omega),if_neg (by omega),if_neg (by omega)]
   cases i with
   | zero=>simp at hc;subst hc;rfl
   | succ i=>simp at hc
  rw [if_neg h0] at hl hc
  by_cases h1:t.kind=1
  ·rw [if_pos h1] at hc;simp at hc
  rw [if_neg h1] at hl hc
  by_cases h8:t.kind=8
  ·rw [if_pos h8] at hl hc ⊢
   have key:∀(l:List Gl) (a:List (List Gl)) (j:Nat),(∀x,x∈l→x∈t.goals)→(Gl.orS l a).length≤64→(Gl.orS l a)[a.length+j]? = some c→calls9 c=Gl.cnOr l j:=by
    intro l
    induction l with
    | nil=>intro a j _ _ h;simp [Gl.orS] at h
    | cons g r ihr =>
     intro a j hm hle h
     have hp:=(Gl.orS_parts _ _ hle).1
     have hg:=hp g (by simp)
     simp only [Gl.orS,if_neg (show ¬64<g.clsS.length by omega)] at h hle
     simp only [Gl.cnOr]
     by_cases hj:j<g.clsS.length
     ·rw [if_pos hj]
      refine ih g (hm g (by simp)) hg j c ?_
      have hpre:∀(l:List Gl) (a:List (List Gl)) (k:Nat),(Gl.orS l a).length≤64→k<a.length→(Gl.orS l a)[k]? = a[k]?:=by
       intro l
       induction l with
       | nil=>intro a k _ _;simp [Gl.orS]
       | cons x r ih2 =>
        intro a k h1 h2
        have:=(Gl.orS_parts _ _ h1).1 x (by simp)
        simp only [Gl.orS,if_neg (show ¬64<x.clsS.length by omega)] at h1 ⊢
        rw [ih2 _ k h1 (by simp;omega),c_ h2]
      rw [hpre r _ _ hle (by simp;omega),b_ (by omega)] at h
      simpa using h
     ·rw [if_neg hj]
      refine ihr (a++g.clsS) (j - g.clsS.length) (fun x hx=>hm x (by simp [hx])) hle ?_
      rw [←h];congr 1;simp;omega
   exact key t.goals [] i (fun x hx=>hx) hl (by simpa using hc)
  rw [if_neg h8] at hl hc ⊢
  by_cases h7:t.kind=7
  ·rw [if_pos h7] at hl hc ⊢
   have key:∀(l:List Gl) (a:List (List Gl)) (j:Nat),(∀x,x∈l→x∈t.goals)→(Gl.andS l a).length≤64→(Gl.andS l a)[j]? = some c→∃u,a[j / Gl.prd l]? = some u∧calls9 c=calls9 u++Gl.cnAnd l j:=by
    intro l
    induction l with
    | nil=>intro a j _ _ h;simp only [Gl.andS] at h;exact ⟨c,by simpa [Gl.prd] using h,by simp [Gl.cnAnd]⟩
    | cons g r ihr =>
     intro a j hm hle h
     have hg:=Gl.andS_parts _ _ hle g (by simp)
     simp only [Gl.andS,if_neg (show ¬64<g.clsS.length by omega)] at h hle
     by_cases h2:64<(prodC a g.clsS).length
     ·rw [if_pos h2] at hle;omega
     rw [if_neg h2] at h hle
     obtain ⟨u,hu,hcu⟩:=ihr _ j (fun x hx=>hm x (by simp [hx])) hle h
     obtain ⟨x,y,hx,hy,rfl⟩:=prodC_at _ _ _ _ hu
     have hny:=ih g (hm g (by simp)) hg _ y hy
     refine ⟨x,?_,?_⟩
     ·rw [←hx];congr 1
      simp only [Gl.prd]
      rw [Nat.div_div_eq_div_mul,Nat.mul_comm]
     ·simp only [Gl.cnAnd]
      rw [hcu,calls9_app,hny,List.append_assoc]
   obtain ⟨u,hu,he⟩:=key t.goals [[]] i (fun x hx=>hx) hl hc
   rw [he]
   cases hq:i / Gl.prd t.goals with
   | zero=>rw [hq] at hu;simp at hu;subst hu;simp [calls9]
   | succ n=>rw [hq] at hu;simp at hu
  rw [if_neg h7] at hl hc ⊢
  cases i with
  | zero =>
   simp at hc;subst hc
   by_cases h9:t.kind=9
   ·simp [calls9,h9]
   ·simp [calls9,h9]
  | succ i=>simp at hc
theorem Pg.prf_kids {p:Pg} {t:Pf} (h:p.prf t=true):0≤p.find t.rel∧∃r,p.rels[(p.find t.rel).toNat]? = some r∧r∈p.rels∧r.body.clsS.length≤64∧0≤t.clause∧t.clause.toNat<r.body.clsS.length∧t.kids.map Pf.rel=r.body.cn t.clause.toNat∧∀k,k∈t.kids→p.prf k=true:=by
 rw [Pg.prf_eq] at h
 unfold Pg.prfAt at h
 simp only [a_,decide_eq_true_eq] at h
 obtain ⟨h0,h1⟩:=h
 refine ⟨h0,?_⟩
 split at h1
 ·exact absurd h1 (by simp)
 ·rename_i r hr
  simp only [a_,decide_eq_true_eq] at h1
  obtain ⟨_,_,h2,h3,h4⟩:=h1
  split at h4
  ·cases h4
  ·rename_i c hc
   obtain ⟨i1,i2⟩:=clsLoop_kids h4
   refine ⟨r,hr,List.mem_of_getElem? hr,h2,h3,(List.getElem?_eq_some_iff.1 hc).1,?_,fun k hk=>?_⟩
   ·rw [←Gl.cn_calls _ h2 _ c hc,←i1,Pg.prfs_eq,List.map_map];rfl
   ·rw [Pg.prfs_eq] at i2
    exact i2 _ (List.mem_map.2 ⟨k,hk,rfl⟩)
end Go.Abs
