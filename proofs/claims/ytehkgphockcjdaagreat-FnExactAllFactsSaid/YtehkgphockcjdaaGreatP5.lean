import Derived.Test.YtehkgphockcjdaaGreatP3
open List renaming getElem?_cons_succ→a_
set_option linter.unusedVariables false
set_option linter.unusedSimpArgs false
namespace Go.Abs
def V.sub (f:Int→V):V→V
 | .var n=>f n
 | .pair a b=>.pair (a.sub f) (b.sub f)
 | v=>v
def valAt (vs:List V) (n:Int):V:=vs.getD n.toNat .nil
abbrev FcV:=List UInt8×List V
def FcV.fc (f:FcV):Fc:=⟨f.1,f.2.map V.tm⟩
def Gl.testV (f:Int→V) (g:Gl):Bool:=
 match g.kind,g.terms with
 | 0,_=>true
 | 2,[a,b]=>decide ((a.V.sub f).cmp (b.V.sub f)=0)
 | 3,[a,b]=>!decide ((a.V.sub f).cmp (b.V.sub f)=0)
 | 4,[a]=>decide ((a.V.sub f).kind=2)
 | 5,[a]=>decide ((a.V.sub f).kind=3)
 | 6,[a,b]=>!(b.V.sub f).has (a.V.sub f).name
 | _,_=>false
def Gl.callV (f:Int→V) (g:Gl):FcV:=(g.name,g.terms.map fun t=>t.V.sub f)
def clsHolds (f:Int→V) (c:List Gl):Bool:=c.all fun g=>decide (g.kind=9) || decide (g.kind=10) || g.testV f
def clsPos (f:Int→V) (c:List Gl):List FcV:=(c.filter fun g=>decide (g.kind=9)).map (Gl.callV f)
def clsNeg (f:Int→V) (c:List Gl):List FcV:=((c.filter fun g=>decide (g.kind=10)).filterMap fun g=>g.goals.head?).map (Gl.callV f)
theorem ground_ok {t:Tm} (h:t.ground=true):tmOk t=true:=by unfold Tm.ground at h;simp only [Bool.and_eq_true] at h;exact h.1
theorem grounds_V {l:List Tm} (h:l.all Tm.ground=true):l=(l.map Tm.V).map V.tm:=by
 rw [List.map_map]
 conv=>lhs;rw [←List.map_id l]
 refine List.map_congr_left fun t ht=>?_
 exact Tm.V_of (ground_ok (List.all_eq_true.1 h t ht))
theorem Pf.ind' {Q:Pf→Prop} (h:∀t:Pf,(∀x,x∈t.kids→Q x)→Q t):∀t,Q t:=by
 intro t
 induction t using Pf.ind with
 | h a0 a1 a2 a3 ih=>exact h _ ih
mutual
def Pf.cnt:Pf→Nat
 | .mk _ _ _ ks=>1+Pf.cnts ks
def Pf.cnts:List Pf→Nat
 | []=>0
 | k :: r=>k.cnt+Pf.cnts r
end
theorem Pf.cnt_eq (t:Pf):t.cnt=1+Pf.cnts t.kids:=by cases t;simp only [Pf.cnt,Pf.kids]
theorem Pf.cnt_pos (t:Pf):1≤t.cnt:=by rw [Pf.cnt_eq];omega
mutual
def Pf.countF:Pf→Int→Int
 | .mk _ _ _ ks,most=>Pf.countL ks most 1
def Pf.countL:List Pf→Int→Int→Int
 | [],_,n=>n
 | k :: r,most,n=>if n > most then n else Pf.countL r most (n+k.countF (most - n))
end
theorem Pf.countF_eq (t:Pf) (most:Int):t.countF most=Pf.countL t.kids most 1:=by cases t;simp only [Pf.countF,Pf.kids]
theorem Pf.count_spec:∀(t:Pf) (most:Int),1≤t.countF most∧t.countF most≤t.cnt∧((t.cnt:Int)≤most→t.countF most=t.cnt)∧(most<t.cnt→most<t.countF most):=by
 intro t
 induction t using Pf.ind' with
 | h t ih =>
  have key:∀(l:List Pf),(∀x,x∈l→x∈t.kids)→∀(most n:Int),n≤Pf.countL l most n∧Pf.countL l most n≤n+Pf.cnts l∧(n+(Pf.cnts l:Int)≤most→Pf.countL l most n=n+Pf.cnts l)∧(most<n+Pf.cnts l→most<Pf.countL l most n):=by
   intro l
   induction l with
   | nil=>intro _ most n;simp only [Pf.countL,Pf.cnts];omega
   | cons k r ihl =>
    intro hl most n
    obtain ⟨i1,i2,i3,i4⟩:=ih k (hl k (by simp)) (most - n)
    obtain ⟨j1,j2,j3,j4⟩:=ihl (fun x hx=>hl x (by simp [hx])) most (n+k.countF (most - n))
    simp only [Pf.countL,Pf.cnts]
    have hp:=Pf.cnt_pos k
    split
    ·omega
    ·refine ⟨by omega,by omega,fun h=>?_,fun h=>?_⟩
     ·have:=i3 (by omega);rw [j3 (by omega)];omega
     ·by_cases hk:(k.cnt:Int)≤most - n
      ·have:=i3 hk;exact j4 (by omega)
      ·have:=i4 (by omega);omega
  intro most
  have:=key t.kids (fun x hx=>hx) most 1
  rw [Pf.countF_eq,Pf.cnt_eq]
  omega
theorem Pf.cnt_le_wt:∀t:Pf,t.cnt≤1+wtL t.enc:=by
 intro t
 induction t using Pf.ind' with
 | h t ih =>
  have key:∀(l:List Pf),(∀x,x∈l→x∈t.kids)→Pf.cnts l≤wtR (l.map Pf.enc):=by
   intro l
   induction l with
   | nil=>intro _;simp [Pf.cnts]
   | cons k r ihl =>
    intro hl
    have:=ih k (hl k (by simp))
    have:=ihl (fun x hx=>hl x (by simp [hx]))
    simp only [Pf.cnts,List.map_cons,wtR];omega
  have:=key t.kids (fun x hx=>hx)
  rw [Pf.cnt_eq,Pf.enc_eq]
  simp only [wtL,D.wt];omega
def bdsF:Nat→List V→List Bd
 | _,[]=>[]
 | k,v :: r=>⟨k,v.tm⟩ :: bdsF (k+1) r
theorem bdsF_len:∀(l:List V) (k:Nat),(bdsF k l).length=l.length
 | [],_=>rfl
 | v :: r,k=>by simp [bdsF,bdsF_len r (k+1)]
theorem bdsF_at:∀(l:List V) (k i:Nat) (v:V),l[i]? = some v→(bdsF k l)[i]? = some ⟨((k+i:Nat):Int),v.tm⟩
 | [],_,_,_,h=>by simp at h
 | v :: r,k,0,w,h=>by simp at h;subst h;rfl
 | v :: r,k,i+1,w,h=>by
  simp only [a_] at h
  have:=bdsF_at r (k+1) i w h
  simp only [bdsF,a_,this]
  rw [show k+1+i=k+(i+1) by omega]
theorem bdsF_snoc:∀(l:List V) (k:Nat) (v:V),bdsF k (l++[v])=bdsF k l++[⟨((k+l.length:Nat):Int),v.tm⟩]
 | [],k,v=>by simp [bdsF]
 | w :: r,k,v=>by simp only [List.cons_append,bdsF,bdsF_snoc r (k+1) v,List.length_cons,show k+1+r.length=k+(r.length+1) by omega]
mutual
def Gl.ins (f:Int→V):Gl→Gl
 | .mk k n ts gs=>.mk k n (ts.map fun t=>(t.V.sub f).tm) (Gl.inss f gs)
def Gl.inss (f:Int→V):List Gl→List Gl
 | []=>[]
 | g :: r=>g.ins f :: Gl.inss f r
end
end Go.Abs
