import Derived.Test.YtehkgphockcjdaaGreatP2
open List renaming getElem?_cons_succ→a_,take_succ_cons→b_,getElem?_eq_getElem→c_,foldl_cons→d_,getElem?_eq_none→f_
open Nat renaming lt_or_ge→e_
set_option linter.unusedVariables false
set_option linter.unusedSimpArgs false
namespace Go.Abs
def prodC {α:Type} (a l:List (List α)):List (List α):=a.flatMap fun x=>l.map fun y=>x++y
theorem prodC_len {α:Type} (a l:List (List α)):(prodC a l).length=a.length * l.length:=by
 induction a with
 | nil=>simp [prodC]
 | cons x r ih=>simp only [prodC,List.flatMap_cons,List.length_append,List.length_map,List.length_cons] at ih ⊢;rw [ih,Nat.succ_mul];omega
mutual
def Gl.clsI:Gl→Option (List (List Gl))
 | .mk k n ts gs=>if k=0 then some [[]] else if k=1 then some [] else if k=8 then Gl.orI gs [] else if k=7 then Gl.andI gs [[]] else some [[.mk k n ts gs]]
def Gl.orI:List Gl→List (List Gl)→Option (List (List Gl))
 | [],a=>some a
 | g :: r,a=>match Gl.clsI g with
  | none=>none
  | some l=>if 64<(a++l).length then none else Gl.orI r (a++l)
def Gl.andI:List Gl→List (List Gl)→Option (List (List Gl))
 | [],a=>some a
 | g :: r,a=>match Gl.clsI g with
  | none=>none
  | some l=>if 64<(prodC a l).length then none else Gl.andI r (prodC a l)
end
theorem Gl.clsI_eq (g:Gl):g.clsI=if g.kind=0 then some [[]] else if g.kind=1 then some [] else if g.kind=8 then Gl.orI g.goals [] else if g.kind=7 then Gl.andI g.goals [[]] else some [[g]]:=by
 cases g;simp only [Gl.clsI,Gl.kind,Gl.goals];rfl
mutual
def Gl.clsS:Gl→List (List Gl)
 | .mk k n ts gs=>if k=0 then [[]] else if k=1 then [] else if k=8 then Gl.orS gs [] else if k=7 then Gl.andS gs [[]] else [[.mk k n ts gs]]
def Gl.orS:List Gl→List (List Gl)→List (List Gl)
 | [],a=>a
 | g :: r,a=>if 64<(Gl.clsS g).length then Gl.clsS g else Gl.orS r (a++Gl.clsS g)
def Gl.andS:List Gl→List (List Gl)→List (List Gl)
 | [],a=>a
 | g :: r,a=>if 64<(Gl.clsS g).length then Gl.clsS g else if 64<(prodC a (Gl.clsS g)).length then prodC a (Gl.clsS g) else Gl.andS r (prodC a (Gl.clsS g))
end
theorem Gl.clsS_eq (g:Gl):g.clsS=if g.kind=0 then [[]] else if g.kind=1 then [] else if g.kind=8 then Gl.orS g.goals [] else if g.kind=7 then Gl.andS g.goals [[]] else [[g]]:=by
 cases g;simp only [Gl.clsS,Gl.kind,Gl.goals];rfl
theorem Gl.orS_big:∀(r:List Gl) (a:List (List Gl)),64<a.length→64<(Gl.orS r a).length
 | [],a,h=>by simpa [Gl.orS] using h
 | g :: r,a,h=>by
  simp only [Gl.orS]
  split
  ·assumption
  ·exact Gl.orS_big r _ (by simp;omega)
theorem Gl.cls_same:∀g:Gl,g.clsI=if g.clsS.length≤64 then some g.clsS else none:=by
 intro g
 induction g using Gl.ind' with
 | h t ih =>
  have key8:∀(l:List Gl) (a:List (List Gl)),(∀x,x∈l→x∈t.goals)→a.length≤64→Gl.orI l a=if (Gl.orS l a).length≤64 then some (Gl.orS l a) else none:=by
   intro l
   induction l with
   | nil=>intro a _ ha;simp [Gl.orI,Gl.orS,ha]
   | cons x r ihr =>
    intro a hl ha
    by_cases h1:64<x.clsS.length
    ·have e:Gl.orS (x :: r) a=x.clsS:=by simp only [Gl.orS,if_pos h1]
     simp only [Gl.orI]
     rw [e,ih x (hl x (by simp)),if_neg (by omega)]
    ·have e:Gl.orS (x :: r) a=Gl.orS r (a++x.clsS):=by simp only [Gl.orS,if_neg h1]
     simp only [Gl.orI]
     rw [e,ih x (hl x (by simp)),if_pos (by omega)]
     dsimp only
     by_cases h2:64<(a++x.clsS).length
     ·rw [if_pos h2]
      have:=Gl.orS_big r _ h2
      rw [if_neg (by omega)]
     ·rw [if_neg h2]
      exact ihr _ (fun y hy=>hl y (by simp [hy])) (by omega)
  have key7:∀(l:List Gl) (a:List (List Gl)),(∀x,x∈l→x∈t.goals)→a.length≤64→Gl.andI l a=if (Gl.andS l a).length≤64 then some (Gl.andS l a) else none:=by
   intro l
   induction l with
   | nil=>intro a _ ha;simp [Gl.andI,Gl.andS,ha]
   | cons x r ihr =>
    intro a hl ha
    by_cases h1:64<x.clsS.length
    ·have e:Gl.andS (x :: r) a=x.clsS:=by simp only [Gl.andS,if_pos h1]
     simp only [Gl.andI]
     rw [e,ih x (hl x (by simp)),if_neg (by omega)]
    ·have e:Gl.andS (x :: r) a=if 64<(prodC a x.clsS).length then prodC a x.clsS else Gl.andS r (prodC a x.clsS):=by simp only [Gl.andS,if_neg h1]
     simp only [Gl.andI]
     rw [e,ih x (hl x (by simp)),if_pos (by omega)]
     dsimp only
     by_cases h2:64<(prodC a x.clsS).length
     ·rw [if_pos h2,if_pos h2,if_neg (by omega)]
     ·rw [if_neg h2,if_neg h2]
      exact ihr _ (fun y hy=>hl y (by simp [hy])) (by omega)
  rw [Gl.clsI_eq,Gl.clsS_eq]
  by_cases h0:t.kind=0
  ·simp [h0]
  ·simp only [if_neg h0]
   by_cases h1:t.kind=1
   ·simp [h1]
   ·simp only [if_neg h1]
    by_cases h8:t.kind=8
    ·simp only [if_pos h8];exact key8 t.goals [] (fun x hx=>hx) (by simp)
    ·simp only [if_neg h8]
     by_cases h7:t.kind=7
     ·simp only [if_pos h7];exact key7 t.goals [[]] (fun x hx=>hx) (by simp)
     ·simp [h7]
def Gl.nI (g:Gl):Nat:=(g.clsI.getD []).length
def i64 (n:Int):Int:=IntKind.i64.wrap n
mutual
def Gl.leadI:Gl→List Int→Int×List Int
 | .mk k _ _ gs,cs=>if k=1 then (-1,cs) else if k=8 then
   (match cs with
   | []=>(-1,[])
   | c :: r=>if c<0∨(gs.length:Int)≤c then (-1,r) else Gl.leadAt gs c.toNat 0 r)
  else if k=7 then Gl.leadL gs 0 cs else (0,cs)
def Gl.leadAt:List Gl→Nat→Int→List Int→Int×List Int
 | [],_,_,cs=>(-1,cs)
 | g :: _,0,n,cs=>if (Gl.leadI g cs).1<0 then (-1,(Gl.leadI g cs).2) else (i64 (n+(Gl.leadI g cs).1),(Gl.leadI g cs).2)
 | g :: r,i+1,n,cs=>Gl.leadAt r i (i64 (n+g.nI)) cs
def Gl.leadL:List Gl→Int→List Int→Int×List Int
 | [],n,cs=>(n,cs)
 | g :: r,n,cs=>if (Gl.leadI g cs).1<0 then (-1,(Gl.leadI g cs).2) else Gl.leadL r (i64 (i64 (n * g.nI)+(Gl.leadI g cs).1)) (Gl.leadI g cs).2
end
theorem Gl.leadI_eq (g:Gl) (cs:List Int):g.leadI cs=if g.kind=1 then (-1,cs) else if g.kind=8 then
   (match cs with
   | []=>(-1,[])
   | c :: r=>if c<0∨(g.goals.length:Int)≤c then (-1,r) else Gl.leadAt g.goals c.toNat 0 r)
  else if g.kind=7 then Gl.leadL g.goals 0 cs else (0,cs):=by
 cases g;simp only [Gl.leadI,Gl.kind,Gl.goals];rfl
mutual
def Gl.idxS (cs:List Int):Gl→Nat→Bool→Int×Nat×Bool
 | .mk k _ _ gs,u,ok=>if k=1 then (0,u,false) else if k=8 then
   (match cs[u]? with
   | none=>(0,u,false)
   | some c=>if 0≤c∧c≤(gs.length:Int) - 1 then Gl.idxAt cs gs c.toNat [] (u+1) ok else (0,u,false))
  else if k=7 then Gl.idxL cs gs 0 u ok else (0,u,ok)
def Gl.idxAt (cs:List Int):List Gl→Nat→List Gl→Nat→Bool→Int×Nat×Bool
 | [],_,_,u,ok=>(0,u,ok)
 | g :: _,0,before,u,ok=>(before.foldl (fun k x=>i64 (k+x.clsS.length)) (Gl.idxS cs g u ok).1,(Gl.idxS cs g u ok).2)
 | g :: r,i+1,before,u,ok=>Gl.idxAt cs r i (before++[g]) u ok
def Gl.idxL (cs:List Int):List Gl→Int→Nat→Bool→Int×Nat×Bool
 | [],n,u,ok=>(n,u,ok)
 | g :: r,n,u,ok=>Gl.idxL cs r (i64 (i64 (n * g.clsS.length)+(Gl.idxS cs g u ok).1)) (Gl.idxS cs g u ok).2.1 (Gl.idxS cs g u ok).2.2
end
theorem Gl.idxS_eq (cs:List Int) (g:Gl) (u:Nat) (ok:Bool):g.idxS cs u ok=if g.kind=1 then (0,u,false) else if g.kind=8 then
   (match cs[u]? with
   | none=>(0,u,false)
   | some c=>if 0≤c∧c≤(g.goals.length:Int) - 1 then Gl.idxAt cs g.goals c.toNat [] (u+1) ok else (0,u,false))
  else if g.kind=7 then Gl.idxL cs g.goals 0 u ok else (0,u,ok):=by
 cases g;simp only [Gl.idxS,Gl.kind,Gl.goals];rfl
theorem Gl.leadAt_eq:∀(l:List Gl) (i:Nat) (x:Gl) (n:Int) (cs:List Int),l[i]? = some x→Gl.leadAt l i n cs=if (x.leadI cs).1<0 then (-1,(x.leadI cs).2) else (i64 ((l.take i).foldl (fun k x=>i64 (k+x.nI)) n+(x.leadI cs).1),(x.leadI cs).2)
 | [],i,x,n,cs,h=>by simp at h
 | g :: r,0,x,n,cs,h=>by simp at h;subst h;simp only [Gl.leadAt,List.take_zero,List.foldl_nil]
 | g :: r,i+1,x,n,cs,h=>by
  simp only [a_] at h
  simp only [Gl.leadAt,b_,d_]
  exact Gl.leadAt_eq r i x _ cs h
theorem Gl.idxAt_eq (cs:List Int):∀(l:List Gl) (i:Nat) (x:Gl) (b:List Gl) (u:Nat) (ok:Bool),l[i]? = some x→Gl.idxAt cs l i b u ok=((b++l.take i).foldl (fun k x=>i64 (k+x.clsS.length)) (x.idxS cs u ok).1,(x.idxS cs u ok).2)
 | [],i,x,b,u,ok,h=>by simp at h
 | g :: r,0,x,b,u,ok,h=>by simp at h;subst h;simp only [Gl.idxAt,List.take_zero,List.append_nil]
 | g :: r,i+1,x,b,u,ok,h=>by
  simp only [a_] at h
  simp only [Gl.idxAt,b_]
  rw [Gl.idxAt_eq cs r i x _ u ok h,List.append_assoc];rfl
theorem Gl.idxS_place (cs:List Int):∀(g:Gl) (u:Nat) (ok:Bool),u≤cs.length→u≤(g.idxS cs u ok).2.1∧(g.idxS cs u ok).2.1≤cs.length∧((g.idxS cs u ok).2.2=true→ok=true):=by
 intro g
 induction g using Gl.ind' with
 | h t ih =>
  intro u ok hu
  have key:∀(l:List Gl) (n:Int) (u:Nat) (ok:Bool),(∀x,x∈l→x∈t.goals)→u≤cs.length→u≤(Gl.idxL cs l n u ok).2.1∧(Gl.idxL cs l n u ok).2.1≤cs.length∧((Gl.idxL cs l n u ok).2.2=true→ok=true):=by
   intro l
   induction l with
   | nil=>intro n u ok _ hu;simpa only [Gl.idxL] using ⟨Nat.le_refl u,hu,fun h=>h⟩
   | cons x r ihr =>
    intro n u ok hl hu
    obtain ⟨h1,h2,h3⟩:=ih x (hl x (by simp)) u ok hu
    simp only [Gl.idxL]
    obtain ⟨k1,k2,k3⟩:=ihr (i64 (i64 (n * x.clsS.length)+(x.idxS cs u ok).1)) _ (x.idxS cs u ok).2.2 (fun y hy=>hl y (by simp [hy])) h2
    exact ⟨by omega,k2,fun h=>h3 (k3 h)⟩
  rw [Gl.idxS_eq]
  split
  ·simp [hu]
  ·split
   ·cases hc:cs[u]? with
    | none=>simp [hu]
    | some c =>
     dsimp only
     split
     ·rename_i hb
      have hlt:c.toNat<t.goals.length:=by omega
      have hx:t.goals[c.toNat]? = some t.goals[c.toNat]:=c_ hlt
      rw [Gl.idxAt_eq cs _ _ _ _ _ _ hx]
      have hul:u<cs.length:=by
       rcases e_ u cs.length with h | h
       ·exact h
       ·rw [f_ h] at hc;cases hc
      obtain ⟨h1,h2,h3⟩:=ih _ (List.getElem_mem hlt) (u+1) ok (by omega)
      exact ⟨by dsimp only;omega,h2,h3⟩
     ·simp [hu]
   ·split
    ·exact key t.goals 0 u ok (fun x hx=>hx) hu
    ·simp [hu]
theorem i64_ok {n:Int} (h1:-9223372036854775808≤n) (h2:n≤9223372036854775807):i64 n=n:=wrap_ok h1 h2
theorem Gl.nI_eq {g:Gl} (h:g.clsS.length≤64):g.nI=g.clsS.length:=by simp [Gl.nI,Gl.cls_same,h]
theorem Gl.orS_parts:∀(l:List Gl) (a:List (List Gl)),(Gl.orS l a).length≤64→(∀x,x∈l→x.clsS.length≤64)∧(Gl.orS l a).length=a.length+(l.map fun x=>x.clsS.length).sum
 | [],a,h=>by simp [Gl.orS]
 | g :: r,a,h=>by
  simp only [Gl.orS] at h ⊢
  by_cases h1:64<g.clsS.length
  ·rw [if_pos h1] at h;omega
  ·rw [if_neg h1] at h ⊢
   obtain ⟨k1,k2⟩:=Gl.orS_parts r _ h
   refine ⟨fun x hx=>?_,?_⟩
   ·rcases List.mem_cons.1 hx with rfl | hx
    ·omega
    ·exact k1 x hx
   ·rw [k2];simp;omega
theorem Gl.andS_parts:∀(l:List Gl) (a:List (List Gl)),(Gl.andS l a).length≤64→(∀x,x∈l→x.clsS.length≤64)
 | [],a,h=>by simp
 | g :: r,a,h=>by
  simp only [Gl.andS] at h
  by_cases h1:64<g.clsS.length
  ·rw [if_pos h1] at h;omega
  ·rw [if_neg h1] at h
   by_cases h2:64<(prodC a g.clsS).length
   ·rw [if_pos h2] at h;omega
   ·rw [if_neg h2] at h
    have k1:=Gl.andS_parts r _ h
    intro x hx
    rcases List.mem_cons.1 hx with rfl | hx
    ·omega
    ·exact k1 x hx
theorem sumI (f:Gl→Nat):∀(l:List Gl) (k:Int),0≤k→(∀x,x∈l→f x≤64)→k+(l.map f).sum≤9223372036854775807→l.foldl (fun k x=>i64 (k+f x)) k=k+(l.map f).sum
 | [],k,h0,h1,h2=>by simp
 | x :: r,k,h0,h1,h2=>by
  simp only [List.map_cons,List.sum_cons,d_] at h2 ⊢
  rw [i64_ok (by omega) (by omega),sumI f r _ (by omega) (fun y hy=>h1 y (by simp [hy])) (by omega)]
  omega
theorem sum_take (f:Gl→Nat):∀(l:List Gl) (i:Nat) (x:Gl),l[i]? = some x→((l.take i).map f).sum+f x≤(l.map f).sum
 | [],i,x,h=>by simp at h
 | g :: r,0,x,h=>by simp at h;subst h;simp
 | g :: r,i+1,x,h=>by
  simp only [a_] at h
  have:=sum_take f r i x h
  simp only [b_,List.map_cons,List.sum_cons];omega
theorem Gl.lead_same (cs:List Int):∀(g:Gl) (u:Nat),g.clsS.length≤64→u≤cs.length →
  if (g.idxS cs u true).2.2=true then g.leadI (cs.drop u)=((g.idxS cs u true).1,cs.drop (g.idxS cs u true).2.1)∧0≤(g.idxS cs u true).1∧(g.idxS cs u true).1<g.clsS.length else (g.leadI (cs.drop u)).1=-1:=by
 intro g
 induction g using Gl.ind' with
 | h t ih =>
  intro u hl hu
  have key:∀(l:List Gl) (a:List (List Gl)) (n:Int) (u:Nat),(∀x,x∈l→x∈t.goals)→u≤cs.length→(Gl.andS l a).length≤64→0≤n→n<a.length→a.length≤64 →
    if (Gl.idxL cs l n u true).2.2=true then Gl.leadL l n (cs.drop u)=((Gl.idxL cs l n u true).1,cs.drop (Gl.idxL cs l n u true).2.1)∧0≤(Gl.idxL cs l n u true).1∧(Gl.idxL cs l n u true).1<(Gl.andS l a).length else (Gl.leadL l n (cs.drop u)).1=-1:=by
   intro l
   induction l with
   | nil=>intro a n u _ hu ha h0 h1 h2;simp only [Gl.idxL,Gl.leadL,Gl.andS,if_true];exact ⟨trivial,h0,h1⟩
   | cons x r ihr =>
    intro a n u hl hu ha h0 h1 h2
    have hx:=Gl.andS_parts _ _ ha x (by simp)
    have h:=ih x (hl x (by simp)) u hx hu
    have hp:=Gl.idxS_place cs x u true hu
    simp only [Gl.idxL,Gl.leadL,Gl.nI_eq hx]
    by_cases hok:(x.idxS cs u true).2.2=true
    ·rw [if_pos hok] at h
     obtain ⟨e,e0,e1⟩:=h
     rw [e,hok]
     dsimp only
     rw [if_neg (show ¬(x.idxS cs u true).1<0 by omega)]
     have hpr:=prodC_len a x.clsS
     have hb:n * x.clsS.length+(x.idxS cs u true).1<(a.length * x.clsS.length:Nat):=by
      have h3:(n+1) * (x.clsS.length:Int)≤(a.length:Int) * x.clsS.length:=Int.mul_le_mul_of_nonneg_right (by omega) (by omega)
      rw [Int.add_mul,Int.one_mul] at h3
      rw [Int.natCast_mul]
      omega
     have hnn:0≤n * (x.clsS.length:Int):=Int.mul_nonneg h0 (by omega)
     have hmm:(a.length * x.clsS.length:Nat)≤64 * 64:=Nat.mul_le_mul h2 hx
     rw [i64_ok (n:=n * (x.clsS.length:Int)) (by omega) (by omega),i64_ok (by omega) (by omega)]
     have ha':=ha
     simp only [Gl.andS] at ha'
     rw [if_neg (by omega)] at ha'
     by_cases h5:64<(prodC a x.clsS).length
     ·rw [if_pos h5] at ha';omega
     ·rw [if_neg h5] at ha'
      have e2:Gl.andS (x :: r) a=Gl.andS r (prodC a x.clsS):=by simp only [Gl.andS];rw [if_neg (by omega),if_neg h5]
      rw [e2]
      exact ihr _ _ _ (fun y hy=>hl y (by simp [hy])) hp.2.1 ha' (by omega) (by rw [hpr];omega) (by omega)
    ·rw [if_neg hok] at h
     simp only [Bool.not_eq_true] at hok
     have hno:∀(m:Int),¬(Gl.idxL cs r m (x.idxS cs u true).2.1 (x.idxS cs u true).2.2).2.2=true:=by
      intro m hm
      have key2:∀(l:List Gl) (m:Int) (u:Nat),u≤cs.length→(Gl.idxL cs l m u false).2.2=false:=by
       intro l
       induction l with
       | nil=>intro m u _;simp only [Gl.idxL]
       | cons y s ihs =>
        intro m u hu
        have hp:=Gl.idxS_place cs y u false hu
        simp only [Gl.idxL]
        have:(y.idxS cs u false).2.2=false:=by
         cases hb:(y.idxS cs u false).2.2 with
         | false=>rfl
         | true=>exact absurd (hp.2.2 hb) (by decide)
        rw [this]
        exact ihs _ _ hp.2.1
      rw [hok,key2 _ _ _ hp.2.1] at hm
      cases hm
     rw [if_neg (hno _),if_pos (by omega)]
  rw [Gl.idxS_eq,Gl.leadI_eq]
  rw [Gl.clsS_eq] at hl ⊢
  by_cases h1:t.kind=1
  ·simp [h1]
  ·simp only [if_neg h1] at hl ⊢
   by_cases h8:t.kind=8
   ·have h0:¬t.kind=0:=by omega
    simp only [if_neg h0,if_pos h8] at hl ⊢
    obtain ⟨hs1,hs2⟩:=Gl.orS_parts _ _ hl
    cases hc:cs[u]? with
    | none =>
     have:cs.length≤u:=by rcases e_ u cs.length with h | h;rw [c_ h] at hc;cases hc;exact h
     rw [List.drop_eq_nil_of_le this]
     simp
    | some c =>
     have hul:u<cs.length:=by
      rcases e_ u cs.length with h | h
      ·exact h
      ·rw [f_ h] at hc;cases hc
     have hd:cs.drop u=c :: cs.drop (u+1):=by
      rw [List.drop_eq_getElem_cons hul]
      rw [c_ hul] at hc
      simp only [Option.some.injEq] at hc
      rw [hc]
     rw [hd]
     dsimp only
     by_cases hb:0≤c∧c≤(t.goals.length:Int) - 1
     ·have hlt:c.toNat<t.goals.length:=by omega
      have hx:t.goals[c.toNat]? = some t.goals[c.toNat]:=c_ hlt
      have hxm:=List.getElem_mem hlt
      have hnb:¬(c<0∨(t.goals.length:Int)≤c):=by omega
      simp only [if_pos hb,if_neg hnb,Gl.idxAt_eq cs _ _ _ _ _ _ hx,Gl.leadAt_eq _ _ _ _ _ hx]
      generalize t.goals[c.toNat]=x at hx hxm
      have h:=ih x hxm (u+1) (hs1 x hxm) (by omega)
      have hst:=sum_take (fun x=>x.clsS.length) _ _ _ hx
      have hmt:∀y,y∈t.goals.take c.toNat→y∈t.goals:=fun y hy=>List.mem_of_mem_take hy
      by_cases hok:(x.idxS cs (u+1) true).2.2=true
      ·rw [if_pos hok] at h ⊢
       obtain ⟨e,e0,e1⟩:=h
       rw [e]
       dsimp only
       rw [if_neg (by omega)]
       have hfn:∀(l:List Gl) (k:Int),(∀y,y∈l→y∈t.goals)→l.foldl (fun k x=>i64 (k+x.nI)) k=l.foldl (fun k x=>i64 (k+x.clsS.length)) k:=by
        intro l
        induction l with
        | nil=>intro k _;rfl
        | cons y s ihs=>intro k hm;simp only [d_];rw [Gl.nI_eq (hs1 y (hm y (by simp)))];exact ihs _ (fun z hz=>hm z (by simp [hz]))
       rw [hfn _ _ hmt,List.nil_append]
       rw [hs2] at hl
       simp only [List.length_nil,Nat.zero_add] at hl hs2
       rw [sumI (fun x=>x.clsS.length) _ 0 (by omega) (fun y hy=>hs1 y (hmt y hy)) (by omega),sumI (fun x=>x.clsS.length) _ _ e0 (fun y hy=>hs1 y (hmt y hy)) (by omega),i64_ok (by omega) (by omega),hs2]
       refine ⟨?_,by omega,by omega⟩
       rw [Int.zero_add,Int.add_comm]
      ·rw [if_neg hok] at h ⊢
       rw [if_pos (by omega)]
     ·have hnb:c<0∨(t.goals.length:Int)≤c:=by omega
      simp only [if_neg hb,if_pos hnb]
      simp
   ·simp only [if_neg h8] at hl ⊢
    by_cases h7:t.kind=7
    ·have h0:¬t.kind=0:=by omega
     simp only [if_neg h0,if_pos h7] at hl ⊢
     exact key t.goals [[]] 0 u (fun x hx=>hx) hu hl (by omega) (by simp) (by simp)
    ·simp only [if_neg h7]
     simp only [if_true]
     refine ⟨trivial,Int.le_refl 0,?_⟩
     split<;>simp
theorem Tm.mrks_at:∀(l:List Tm) (k:Int) (i:Nat) (x:Tm),l[i]? = some x→(Tm.mrks k l)[i]? = some (x.mrk (k+Tm.mcnts (l.take i)))
 | [],k,i,x,h=>by simp at h
 | t :: r,k,0,x,h=>by simp at h;subst h;simp [Tm.mrks,Tm.mcnts]
 | t :: r,k,i+1,x,h=>by
  simp only [a_] at h
  simp only [Tm.mrks,a_,b_,Tm.mcnts]
  rw [Tm.mrks_at r _ i x h]
  rw [show k+(t.mcnt:Int)+(Tm.mcnts (r.take i):Int)=k+((t.mcnt+Tm.mcnts (r.take i):Nat):Int) by omega]
theorem Gl.mrks_at:∀(l:List Gl) (k:Int) (i:Nat) (x:Gl),l[i]? = some x→(Gl.mrks k l)[i]? = some (x.mrk (k+Gl.mcnts (l.take i)))
 | [],k,i,x,h=>by simp at h
 | t :: r,k,0,x,h=>by simp at h;subst h;simp [Gl.mrks,Gl.mcnts]
 | t :: r,k,i+1,x,h=>by
  simp only [a_] at h
  simp only [Gl.mrks,a_,b_,Gl.mcnts]
  rw [Gl.mrks_at r _ i x h]
  rw [show k+(t.mcnt:Int)+(Gl.mcnts (r.take i):Int)=k+((t.mcnt+Gl.mcnts (r.take i):Nat):Int) by omega]
end Go.Abs
