import Derived.Test.YtehcdhelbkjaeaaGreatDoorP3
open Bool renaming and_eq_true→a_
open List renaming all_eq_true→b_,mem_flatMap→c_,takeWhile_append_of_pos→d_,map_cons→e_,getElem?_eq_getElem→f_,getElem?_cons_succ→g_,length_filter_le→h_
set_option linter.unusedVariables false
set_option linter.unusedSimpArgs false
namespace Go.Abs
def V.sub (f:Int→V):V→V
 | .var n=>f n
 | .pair a b=>.pair (a.sub f) (b.sub f)
 | v=>v
def valAt (vs:List V) (n:Int):V:=vs.getD n.toNat .nil
theorem valAt_at {vs:List V} {n:Int} (h0:0≤n) (h1:n<vs.length):vs[n.toNat]? = some (valAt vs n):=by
 have h:n.toNat<vs.length:=by omega
 rw [valAt,List.getD_eq_getElem?_getD,f_ h];rfl
abbrev FcV:=List UInt8×List V
def FcV.fc (f:FcV):Fc:=⟨f.1,f.2.map V.tm⟩
def Gl.testV (f:Int→V) (g:Gl):Bool:=
 match g.kind,g.terms with
 | 0,_=>true
 | 2,[a,b]=>decide ((a.V.sub f).cmp (b.V.sub f)=0)
 | 3,[a,b]=>!decide ((a.V.sub f).cmp (b.V.sub f)=0)
 | 4,[a]=>decide ((a.V.sub f).kind=2)
 | 5,[a]=>decide ((a.V.sub f).kind=3)
 | 6,[a,b]=>!(b.V.sub f).has (a.V.sub f).name
 | _,_=>false
def Gl.callV (f:Int→V) (g:Gl):FcV:=(g.name,g.terms.map fun t=>t.V.sub f)
def FcV.eq (a b:FcV):Bool:=decide (cmpFact a.1 a.2 b.1 b.2=0)
def clsLoop (f:Int→V):List Gl→List (Bool×FcV)→Bool
 | [],ks=>ks.isEmpty
 | g :: r,ks=>if g.kind=10 then false else if g.kind=9 then
   (match ks with
   | []=>false
   | k :: ks=>k.1 && k.2.eq (g.callV f) && clsLoop f r ks)
  else g.testV f && clsLoop f r ks
def clsHolds (f:Int→V) (c:List Gl):Bool:=c.all fun g=>decide (g.kind=9) || decide (g.kind=10) || g.testV f
def clsPos (f:Int→V) (c:List Gl):List FcV:=(c.filter fun g=>decide (g.kind=9)).map (Gl.callV f)
def clsNeg (f:Int→V) (c:List Gl):List FcV:=((c.filter fun g=>decide (g.kind=10)).filterMap fun g=>g.goals.head?).map (Gl.callV f)
def kidsFit:List (Bool×FcV)→List FcV→Bool
 | k :: ks,x :: xs=>k.1 && k.2.eq x && kidsFit ks xs
 | _,_=>true
theorem clsLoop_same (f:Int→V):∀(c:List Gl) (ks:List (Bool×FcV)),(∀g,g∈c→g.kind=10→g.goals≠[]) →
  clsLoop f c ks=(clsHolds f c && (decide (clsNeg f c=[]) && (decide ((clsPos f c).length=ks.length) && kidsFit ks (clsPos f c))))
 | [],ks,_=>by
  cases ks with
  | nil=>simp [clsLoop,clsHolds,clsNeg,clsPos,kidsFit]
  | cons k r=>simp [clsLoop,clsHolds,clsNeg,clsPos]
 | g :: r,ks,hn=>by
  have ih:=fun ks=>clsLoop_same f r ks (fun x hx=>hn x (by simp [hx]))
  have hg:=hn g (by simp)
  unfold clsLoop
  by_cases h10:g.kind=10
  ·obtain ⟨x,q,hx⟩:∃x q,g.goals=x :: q:=by
    cases hgl:g.goals with
    | nil=>exact absurd hgl (hg h10)
    | cons x q=>exact ⟨x,q,rfl⟩
   simp [h10,clsNeg,hx]
  ·rw [if_neg h10]
   by_cases h9:g.kind=9
   ·rw [if_pos h9]
    have e1:clsHolds f (g :: r)=clsHolds f r:=by simp [clsHolds,h9]
    have e2:clsNeg f (g :: r)=clsNeg f r:=by simp [clsNeg,h9]
    have e3:clsPos f (g :: r)=g.callV f :: clsPos f r:=by simp [clsPos,h9]
    rw [e1,e2,e3]
    cases ks with
    | nil=>simp
    | cons k ks =>
     dsimp only
     rw [ih ks]
     simp only [List.length_cons,kidsFit]
     have e4:decide ((clsPos f r).length+1=ks.length+1)=decide ((clsPos f r).length=ks.length):=by simp
     rw [e4]
     cases k.1<;>cases k.2.eq (g.callV f)<;>cases clsHolds f r<;>cases decide (clsNeg f r=[])<;>cases decide ((clsPos f r).length=ks.length)<;>simp
   ·rw [if_neg h9,ih ks]
    have e1:clsHolds f (g :: r)=(g.testV f && clsHolds f r):=by simp [clsHolds,h9,h10]
    have e2:clsNeg f (g :: r)=clsNeg f r:=by simp [clsNeg,h10]
    have e3:clsPos f (g :: r)=clsPos f r:=by simp [clsPos,h9]
    rw [e1,e2,e3,Bool.and_assoc]
def Pg.headV (p:Pg) (rel:List UInt8) (vals:List Tm):FcV:=(rel,(vals.map Tm.V).take (match p.rels[(p.find rel).toNat]? with | some r=>r.arity.toNat | none=>0))
def Pg.prfAt (p:Pg) (rel:List UInt8) (cl:Int) (vals:List Tm) (ks:List (Bool×FcV)):Bool:=
 decide (0≤p.find rel) && (match p.rels[(p.find rel).toNat]? with
  | none=>false
  | some r=>decide ((vals.length:Int)=r.arity+r.locals) && (vals.all Tm.ground && (decide (r.body.clsS.length≤64) && (decide (0≤cl) && (match r.body.clsS[cl.toNat]? with
   | none=>false
   | some c=>clsLoop (valAt (vals.map Tm.V)) c ks)))))
mutual
def Pg.prf (p:Pg):Pf→Bool
 | .mk rel cl vals kids=>p.prfAt rel cl vals (Pg.prfs p kids)
def Pg.prfs (p:Pg):List Pf→List (Bool×FcV)
 | []=>[]
 | k :: r=>(p.prf k,p.headV k.rel k.values) :: p.prfs r
end
theorem Pg.prf_eq (p:Pg) (t:Pf):p.prf t=p.prfAt t.rel t.clause t.values (p.prfs t.kids):=by
 cases t;simp only [Pg.prf,Pf.rel,Pf.clause,Pf.values,Pf.kids]
theorem Pg.prfs_eq (p:Pg):∀l:List Pf,p.prfs l=l.map fun k=>(p.prf k,p.headV k.rel k.values)
 | []=>rfl
 | k :: r=>by simp only [Pg.prfs,e_,Pg.prfs_eq p r]
theorem Pg.prfAt_neg {p:Pg} {rel:List UInt8} {cl:Int} {vals:List Tm} {ks:List (Bool×FcV)} (h:p.find rel<0):p.prfAt rel cl vals ks=false:=by
 unfold Pg.prfAt;rw [decide_eq_false (by omega),Bool.false_and]
theorem Pg.prfAt_at {p:Pg} {rel:List UInt8} {cl:Int} {vals:List Tm} {ks:List (Bool×FcV)} (h:0≤p.find rel) {r:Rl} (hr:p.rels[(p.find rel).toNat]? = some r) :
  p.prfAt rel cl vals ks=(decide ((vals.length:Int)=r.arity+r.locals) && (vals.all Tm.ground && (decide (r.body.clsS.length≤64) && (decide (0≤cl) && (match r.body.clsS[cl.toNat]? with
   | none=>false
   | some c=>clsLoop (valAt (vals.map Tm.V)) c ks))))):=by
 unfold Pg.prfAt;rw [decide_eq_true h,Bool.true_and,hr]
theorem Pg.prf_head {p:Pg} {t:Pf} (h:p.prf t=true):0≤p.find t.rel∧∃r,p.rels[(p.find t.rel).toNat]? = some r∧(t.values.length:Int)=r.arity+r.locals∧t.values.all Tm.ground=true∧p.headV t.rel t.values=(t.rel,(t.values.map Tm.V).take r.arity.toNat):=by
 rw [Pg.prf_eq] at h
 unfold Pg.prfAt at h
 simp only [a_,decide_eq_true_eq] at h
 obtain ⟨h0,h1⟩:=h
 refine ⟨h0,?_⟩
 split at h1
 ·exact absurd h1 (by simp)
 ·rename_i r hr
  simp only [a_,decide_eq_true_eq] at h1
  exact ⟨r,hr,h1.1,h1.2.1,by unfold Pg.headV;rw [hr]⟩
theorem ground_ok {t:Tm} (h:t.ground=true):tmOk t=true:=by unfold Tm.ground at h;simp only [a_] at h;exact h.1
theorem grounds_V {l:List Tm} (h:l.all Tm.ground=true):l=(l.map Tm.V).map V.tm:=by
 rw [List.map_map]
 conv=>lhs;rw [←List.map_id l]
 refine List.map_congr_left fun t ht=>?_
 exact Tm.V_of (ground_ok (b_.1 h t ht))
theorem Pf.ind' {Q:Pf→Prop} (h:∀t:Pf,(∀x,x∈t.kids→Q x)→Q t):∀t,Q t:=by
 intro t
 induction t using Pf.ind with
 | h a0 a1 a2 a3 ih=>exact h _ ih
theorem Pf.wt_kids {t x:Pf} (h:x∈t.kids):wtL x.enc<wtL t.enc:=by
 have:=wtL_lt (t.kids.map Pf.enc) x.enc (List.mem_map.2 ⟨x,h,rfl⟩)
 simp only [Pf.enc_eq t,wtL,D.wt];omega
theorem Pf.wt_values {t:Pf} {x:Tm} (h:x∈t.values):wtL x.enc<wtL t.enc:=by
 have:=wtL_lt (t.values.map Tm.enc) x.enc (List.mem_map.2 ⟨x,h,rfl⟩)
 simp only [Pf.enc_eq t,wtL,D.wt];omega
mutual
def Pf.cnt:Pf→Nat
 | .mk _ _ _ ks=>1+Pf.cnts ks
def Pf.cnts:List Pf→Nat
 | []=>0
 | k :: r=>k.cnt+Pf.cnts r
end
theorem Pf.cnt_eq (t:Pf):t.cnt=1+Pf.cnts t.kids:=by cases t;simp only [Pf.cnt,Pf.kids]
theorem Pf.cnt_pos (t:Pf):1≤t.cnt:=by rw [Pf.cnt_eq];omega
mutual
def Pf.countF:Pf→Int→Int
 | .mk _ _ _ ks,most=>Pf.countL ks most 1
def Pf.countL:List Pf→Int→Int→Int
 | [],_,n=>n
 | k :: r,most,n=>if n > most then n else Pf.countL r most (n+k.countF (most - n))
end
theorem Pf.countF_eq (t:Pf) (most:Int):t.countF most=Pf.countL t.kids most 1:=by cases t;simp only [Pf.countF,Pf.kids]
theorem Pf.count_spec:∀(t:Pf) (most:Int),1≤t.countF most∧t.countF most≤t.cnt∧((t.cnt:Int)≤most→t.countF most=t.cnt)∧(most<t.cnt→most<t.countF most):=by
 intro t
 induction t using Pf.ind' with
 | h t ih =>
  have key:∀(l:List Pf),(∀x,x∈l→x∈t.kids)→∀(most n:Int),n≤Pf.countL l most n∧Pf.countL l most n≤n+Pf.cnts l∧(n+(Pf.cnts l:Int)≤most→Pf.countL l most n=n+Pf.cnts l)∧(most<n+Pf.cnts l→most<Pf.countL l most n):=by
   intro l
   induction l with
   | nil=>intro _ most n;simp only [Pf.countL,Pf.cnts];omega
   | cons k r ihl =>
    intro hl most n
    obtain ⟨i1,i2,i3,i4⟩:=ih k (hl k (by simp)) (most - n)
    obtain ⟨j1,j2,j3,j4⟩:=ihl (fun x hx=>hl x (by simp [hx])) most (n+k.countF (most - n))
    simp only [Pf.countL,Pf.cnts]
    have hp:=Pf.cnt_pos k
    split
    ·omega
    ·refine ⟨by omega,by omega,fun h=>?_,fun h=>?_⟩
     ·have:=i3 (by omega);rw [j3 (by omega)];omega
     ·by_cases hk:(k.cnt:Int)≤most - n
      ·have:=i3 hk;exact j4 (by omega)
      ·have:=i4 (by omega);omega
  intro most
  have:=key t.kids (fun x hx=>hx) most 1
  rw [Pf.countF_eq,Pf.cnt_eq]
  omega
def maxI (a b:Int):Int:=if a<b then b else a
mutual
def Pf.mea:Pf→Int→Int×Int
 | .mk _ _ _ ks,c=>Pf.meas ks 0 (c+1)
def Pf.meas:List Pf→Int→Int→Int×Int
 | [],h,c=>(h+1,c)
 | k :: r,h,c=>if c > 200 then (0,c) else Pf.meas r (maxI h (k.mea c).1) (k.mea c).2
end
theorem Pf.mea_eq (t:Pf) (c:Int):t.mea c=Pf.meas t.kids 0 (c+1):=by cases t;simp only [Pf.mea,Pf.kids]
theorem Pf.mea_spec:∀(t:Pf) (c:Int),0≤(t.mea c).1∧(t.mea c).1≤t.cnt∧c≤(t.mea c).2∧(t.mea c).2≤c+t.cnt∧(c+t.cnt≤200→(t.mea c).2=c+t.cnt)∧(200<c+t.cnt→200<(t.mea c).2):=by
 intro t
 induction t using Pf.ind' with
 | h t ih =>
  have key:∀(l:List Pf),(∀x,x∈l→x∈t.kids)→∀(h c:Int),0≤h→0≤(Pf.meas l h c).1∧(Pf.meas l h c).1≤h+1+Pf.cnts l∧c≤(Pf.meas l h c).2∧(Pf.meas l h c).2≤c+Pf.cnts l∧(c+(Pf.cnts l:Int)≤200→(Pf.meas l h c).2=c+Pf.cnts l)∧(200<c+Pf.cnts l→200<(Pf.meas l h c).2):=by
   intro l
   induction l with
   | nil=>intro _ h c h0;simp only [Pf.meas,Pf.cnts];omega
   | cons k r ihl =>
    intro hl h c h0
    have i:=ih k (hl k (by simp)) c
    have hm:0≤maxI h (k.mea c).1∧maxI h (k.mea c).1≤h+k.cnt:=by unfold maxI;split<;>omega
    have j:=ihl (fun x hx=>hl x (by simp [hx])) (maxI h (k.mea c).1) (k.mea c).2 hm.1
    simp only [Pf.meas,Pf.cnts]
    have hp:=Pf.cnt_pos k
    split
    ·dsimp only;omega
    ·obtain ⟨i1,i2,i3,i4,i5,i6⟩:=i
     obtain ⟨j1,j2,j3,j4,j5,j6⟩:=j
     refine ⟨by omega,by omega,by omega,by omega,fun h=>?_,fun h=>?_⟩
     ·have:=i5 (by omega);rw [j5 (by omega)];omega
     ·by_cases hk:c+(k.cnt:Int)≤200
      ·have:=i5 hk;exact j6 (by omega)
      ·have:=i6 (by omega);omega
  intro c
  have:=key t.kids (fun x hx=>hx) 0 (c+1) (by omega)
  rw [Pf.mea_eq,Pf.cnt_eq]
  omega
theorem Pf.cnt_le_wt:∀t:Pf,t.cnt≤1+wtL t.enc:=by
 intro t
 induction t using Pf.ind' with
 | h t ih =>
  have key:∀(l:List Pf),(∀x,x∈l→x∈t.kids)→Pf.cnts l≤wtR (l.map Pf.enc):=by
   intro l
   induction l with
   | nil=>intro _;simp [Pf.cnts]
   | cons k r ihl =>
    intro hl
    have:=ih k (hl k (by simp))
    have:=ihl (fun x hx=>hl x (by simp [hx]))
    simp only [Pf.cnts,e_,wtR];omega
  have:=key t.kids (fun x hx=>hx)
  rw [Pf.cnt_eq,Pf.enc_eq]
  simp only [wtL,D.wt];omega
def Pf.sizeI (t:Pf):Int:=if t.cnt≤200 then t.cnt else 0
theorem Pf.size_count (t:Pf):t.sizeI=if t.countF 200 > 200 then 0 else t.countF 200:=by
 have:=Pf.count_spec t 200
 unfold Pf.sizeI
 split<;>split<;>omega
theorem Pf.size_mea (t:Pf):t.sizeI=if (t.mea 0).2 > 200 then 0 else (t.mea 0).2:=by
 have:=Pf.mea_spec t 0
 unfold Pf.sizeI
 split<;>split<;>omega
def Pg.prfOk (p:Pg) (t:Pf):Bool:=pgOk p && (decide (t.cnt≤200) && p.prf t)
def bdsF:Nat→List V→List Bd
 | _,[]=>[]
 | k,v :: r=>⟨k,v.tm⟩ :: bdsF (k+1) r
theorem bdsF_len:∀(l:List V) (k:Nat),(bdsF k l).length=l.length
 | [],_=>rfl
 | v :: r,k=>by simp [bdsF,bdsF_len r (k+1)]
theorem bdsF_at:∀(l:List V) (k i:Nat) (v:V),l[i]? = some v→(bdsF k l)[i]? = some ⟨((k+i:Nat):Int),v.tm⟩
 | [],_,_,_,h=>by simp at h
 | v :: r,k,0,w,h=>by simp at h;subst h;rfl
 | v :: r,k,i+1,w,h=>by
  simp only [g_] at h
  have:=bdsF_at r (k+1) i w h
  simp only [bdsF,g_,this]
  rw [show k+1+i=k+(i+1) by omega]
theorem bdsF_inv {l:List V} {k i:Nat} {b:Bd} (h:(bdsF k l)[i]? = some b):∃v,l[i]? = some v∧b=⟨((k+i:Nat):Int),v.tm⟩:=by
 have hl:i<l.length:=by rw [←bdsF_len l k];exact (List.getElem?_eq_some_iff.1 h).1
 have hv:l[i]? = some l[i]:=f_ hl
 rw [bdsF_at l k i _ hv] at h
 cases h
 exact ⟨_,hv,rfl⟩
theorem bdsF_snoc:∀(l:List V) (k:Nat) (v:V),bdsF k (l++[v])=bdsF k l++[⟨((k+l.length:Nat):Int),v.tm⟩]
 | [],k,v=>by simp [bdsF]
 | w :: r,k,v=>by simp only [List.cons_append,bdsF,bdsF_snoc r (k+1) v,List.length_cons,show k+1+r.length=k+(r.length+1) by omega]
mutual
def Gl.ins (f:Int→V):Gl→Gl
 | .mk k n ts gs=>.mk k n (ts.map fun t=>(t.V.sub f).tm) (Gl.inss f gs)
def Gl.inss (f:Int→V):List Gl→List Gl
 | []=>[]
 | g :: r=>g.ins f :: Gl.inss f r
end
theorem Gl.inss_eq (f:Int→V):∀l:List Gl,Gl.inss f l=l.map (Gl.ins f)
 | []=>rfl
 | g :: r=>by simp only [Gl.inss,e_,Gl.inss_eq f r]
theorem Gl.ins_eq (f:Int→V) (g:Gl):g.ins f=.mk g.kind g.name (g.terms.map fun t=>(t.V.sub f).tm) (g.goals.map (Gl.ins f)):=by
 cases g;simp only [Gl.ins,Gl.inss_eq,Gl.kind,Gl.name,Gl.terms,Gl.goals]
theorem V.fine_vars:∀v:V,v.fine=true→∀n,n∈v.vars→0≤n∧n≤100000
 | .nil,_,n,hn=>by simp [V.vars] at hn
 | .var m,h,n,hn=>by simp [V.vars] at hn;subst hn;simpa [V.fine] using h
 | .sym _,_,n,hn=>by simp [V.vars] at hn
 | .num _,_,n,hn=>by simp [V.vars] at hn
 | .pair a b,h,n,hn=>by
  simp only [V.fine,a_] at h
  simp only [V.vars,List.mem_append] at hn
  rcases hn with hn | hn
  ·exact V.fine_vars a h.1 n hn
  ·exact V.fine_vars b h.2 n hn
theorem tmOk_vars {t:Tm} (h:tmOk t=true):∀n,n∈t.vars→0≤n∧n≤100000:=by
 obtain ⟨v,rfl,hv⟩:=tmOk_v h
 rw [V.vars_tm];exact V.fine_vars v hv
theorem Gl.vars_terms {t:Gl} {x:Tm} (h:x∈t.terms):∀n,n∈x.vars→n∈t.vars:=fun n hn=>by
 rw [Gl.vars_eq,Tm.varss_eq]
 exact List.mem_append_left _ (c_.2 ⟨x,h,hn⟩)
theorem Gl.vars_goals {t x:Gl} (h:x∈t.goals):∀n,n∈x.vars→n∈t.vars:=fun n hn=>by
 rw [Gl.vars_eq,Gl.varss_eq]
 exact List.mem_append_right _ (c_.2 ⟨x,h,hn⟩)
theorem Gl.vars_sub {t:Gl}:∀x,x∈t.subs→∀n,n∈x.vars→n∈t.vars:=
 Gl.subs_ind (Q:=fun y=>∀n,n∈y.vars→n∈t.vars) (fun y h x hx n hn=>h n (Gl.vars_goals hx n hn)) t (fun _ h=>h)
def Gl.inst (m:Nat) (g:Gl):Prop:=g.shape=true∧∀n,n∈g.vars→0≤n∧n<m
theorem Gl.inst_terms {m:Nat} {g:Gl} (h:g.inst m):∀t,t∈g.terms→t.enc=t.V.enc∧∀n,n∈t.V.vars→0≤n∧n<m:=fun t ht=>by
 have hok:=Gl.shape_terms h.1 t ht
 refine ⟨Tm.enc_V hok,fun n hn=>?_⟩
 rw [←Tm.vars_V hok] at hn
 exact h.2 n (Gl.vars_terms ht n hn)
theorem Gl.inst_goals {m:Nat} {g:Gl} (h:g.inst m):∀x,x∈g.goals→x.inst m:=fun x hx=>by
 have hs:=h.1
 rw [Gl.shape_eq] at hs
 simp only [a_,b_] at hs
 exact ⟨hs.2 x hx,fun n hn=>h.2 n (Gl.vars_goals hx n hn)⟩
theorem Gl.inst_sub {m:Nat} {g:Gl} (h:g.inst m):∀x,x∈g.subs→x.inst m:=fun x hx=>⟨Gl.shape_sub h.1 x hx,fun n hn=>h.2 n (Gl.vars_sub x hx n hn)⟩
theorem Gl.vars_nonneg {g:Gl} (h:g.shape=true):∀n,n∈g.vars→0≤n:=fun n hn=>by
 rw [Gl.vars_subs] at hn
 obtain ⟨x,hx,hn⟩:=c_.1 hn
 rw [Tm.varss_eq] at hn
 obtain ⟨t,ht,hn⟩:=c_.1 hn
 exact (tmOk_vars (Gl.shape_terms (Gl.shape_sub h x hx) t ht) n hn).1
theorem Pg.body_inst {p:Pg} (h:pgOk p=true) {r:Rl} (hr:r∈p.rels) {m:Nat} (hm:(m:Int)=r.arity+r.locals):r.body.inst m∧0≤r.arity∧0≤r.locals∧r.arity≤4∧r.locals≤8∧r.body.cnt≤60:=by
 unfold pgOk at h
 simp only [a_] at h
 obtain ⟨i,hi⟩:=okL_mem h.2 r hr
 unfold Pg.relOk at hi
 simp only [a_,decide_eq_true_eq] at hi
 obtain ⟨⟨⟨⟨⟨⟨⟨_,_⟩,ha⟩,hl⟩,hc⟩,hs⟩,hv⟩,_⟩:=hi
 unfold Gl.varsLt at hv
 simp only [b_,decide_eq_true_eq] at hv
 exact ⟨⟨hs,fun n hn=>⟨Gl.vars_nonneg hs n hn,by have:=hv n hn;omega⟩⟩,ha.1,hl.1,ha.2,hl.2,hc⟩
theorem Gl.shape_cases {g:Gl} (h:g.shape=true) :
  ((g.kind=0∨g.kind=1)∧g.terms=[])∨((g.kind=2∨g.kind=3∨g.kind=6)∧∃a b,g.terms=[a,b]∧tmOk a=true∧tmOk b=true)∨((g.kind=4∨g.kind=5)∧∃a,g.terms=[a]∧tmOk a=true)∨7≤g.kind:=by
 have ht:=Gl.shape_terms h
 have hs:=h
 rw [Gl.shape_eq] at hs
 simp only [a_] at hs
 have hf:=Gl.form_inv hs.1.1
 by_cases h7:7≤g.kind
 ·exact .inr (.inr (.inr h7))
 have h0:(g.kind=0∨g.kind=1)→(g.terms.length:Int)=0:=fun hk=>by
  have e:arityOf g.kind=0:=by rcases hk with hk | hk<;>rw [hk]<;>rfl
  rw [e] at hf;omega
 have h2:(g.kind=2∨g.kind=3∨g.kind=6)→(g.terms.length:Int)=2:=fun hk=>by
  have e:arityOf g.kind=2:=by rcases hk with hk | hk | hk<;>rw [hk]<;>rfl
  rw [e] at hf;omega
 have h1:(g.kind=4∨g.kind=5)→(g.terms.length:Int)=1:=fun hk=>by
  have e:arityOf g.kind=1:=by rcases hk with hk | hk<;>rw [hk]<;>rfl
  rw [e] at hf;omega
 by_cases c0:g.kind=0∨g.kind=1
 ·exact .inl ⟨c0,List.eq_nil_of_length_eq_zero (by have:=h0 c0;omega)⟩
 ·by_cases c1:g.kind=4∨g.kind=5
  ·obtain ⟨a,e⟩:=len_one (h1 c1)
   exact .inr (.inr (.inl ⟨c1,a,e,ht a (by simp [e])⟩))
  ·have c2:g.kind=2∨g.kind=3∨g.kind=6:=by omega
   obtain ⟨a,b,e⟩:=len_two (h2 c2)
   exact .inr (.inl ⟨c2,a,b,e,ht a (by simp [e]),ht b (by simp [e])⟩)
theorem Gl.shape_len {g:Gl} (h:g.shape=true):g.terms.length≤4∧g.goals.length≤8:=by
 have hs:=h
 rw [Gl.shape_eq] at hs
 simp only [a_] at hs
 have hf:=Gl.form_inv hs.1.1
 have:=arityOf_le g.kind
 omega
theorem Gl.shape_not {g:Gl} (h:g.shape=true) (hk:g.kind=10):∃x,g.goals=[x]:=by
 have hs:=h
 rw [Gl.shape_eq] at hs
 simp only [a_] at hs
 have hf:=Gl.form_inv hs.1.1
 exact len_one (by omega)
theorem bdsF_to:∀(l:List V) (k:Nat),(bdsF k l).map Bd.to=l.map V.tm
 | [],_=>rfl
 | v :: r,k=>by simp [bdsF,bdsF_to r (k+1)]
def clsOk1 (f:Int→V) (g:Gl):Bool:=decide (g.kind=9) || decide (g.kind=10) || g.testV f
def clsPre (f:Int→V) (c:List Gl):List Gl:=c.takeWhile (clsOk1 f)
theorem clsPre_fail {f:Int→V} {d s:List Gl} {g:Gl} (hd:d.all (clsOk1 f)=true) (hg:clsOk1 f g=false):clsPre f (d++g :: s)=d∧clsHolds f (d++g :: s)=false:=by
 constructor
 ·unfold clsPre
  rw [d_ (fun x hx=>b_.1 hd x hx),List.takeWhile_cons_of_neg (by rw [hg];simp),List.append_nil]
 ·unfold clsHolds
  rw [List.all_append,List.all_cons]
  have:(decide (g.kind=9) || decide (g.kind=10) || g.testV f)=false:=hg
  rw [this];simp
theorem clsPre_all {f:Int→V} {d:List Gl} (hd:d.all (clsOk1 f)=true):clsPre f d=d∧clsHolds f d=true:=by
 refine ⟨?_,hd⟩
 have:=d_ (p:=clsOk1 f) (l₁:=d) (l₂:=[]) (fun x hx=>b_.1 hd x hx)
 simpa [clsPre] using this
theorem clsPos_snoc (f:Int→V) (d:List Gl) (g:Gl):clsPos f (d++[g])=clsPos f d++(if g.kind=9 then [g.callV f] else []):=by
 unfold clsPos
 by_cases h:g.kind=9<;>simp [h]
theorem clsNeg_snoc (f:Int→V) (d:List Gl) (g:Gl):clsNeg f (d++[g])=clsNeg f d++(if g.kind=10 then (g.goals.head?.toList.map (Gl.callV f)) else []):=by
 unfold clsNeg
 by_cases h:g.kind=10
 ·cases hh:g.goals.head?<;>simp [h,hh]
 ·simp [h]
def ruOf (r:Rl) (i:Int) (vs:List V) (d:List Gl):Ru:=⟨⟨r.name,(vs.map V.tm).take r.arity.toNat⟩,i,vs.map V.tm,(clsPos (valAt vs) d).map FcV.fc,(clsNeg (valAt vs) d).map FcV.fc⟩
theorem clsPos_len (f:Int→V) (d:List Gl):(clsPos f d).length≤d.length:=by unfold clsPos;rw [List.length_map];exact h_ _ _
theorem clsNeg_len (f:Int→V) (d:List Gl):(clsNeg f d).length≤d.length:=by
 unfold clsNeg;rw [List.length_map]
 exact Nat.le_trans (List.length_filterMap_le _ _) (h_ _ _)
end Go.Abs
