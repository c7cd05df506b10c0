import Derived.Test.YtehkgphockcjdaaGreatP2
open List renaming getD_eq_getElem?_getD→a_
set_option linter.unusedVariables false
set_option linter.unusedSimpArgs false
namespace Go.Abs
theorem Gl.mcnts_wt:∀l:List Gl,Gl.mcnts l≤3 * wtR (l.map Gl.enc)
 | []=>by simp [Gl.mcnts]
 | t :: r=>by
  have h1:=Gl.mcnts_wt r
  have h2:=Gl.mcnt_wt t
  simp only [Gl.mcnts,List.map_cons,wtR];omega
def Rl.mcnt (t:Rl):Nat:=5+Tm.mcnts t.body.terms+Gl.mcnts t.body.goals
def Rl.mrk (k:Int) (t:Rl):Rl:=⟨mText k,k+1,k+2,.mk (k+3) (mText (k+4)) (Tm.mrks (k+5) t.body.terms) (Gl.mrks (k+5+Tm.mcnts t.body.terms) t.body.goals)⟩
def Rl.mcnts:List Rl→Nat
 | []=>0
 | t :: r=>Rl.mcnt t+Rl.mcnts r
def Rl.mrks (k:Int):List Rl→List Rl
 | []=>[]
 | t :: r=>Rl.mrk k t :: Rl.mrks (k+t.mcnt) r
theorem Rl.mrks_len:∀(l:List Rl) (k:Int),(Rl.mrks k l).length=l.length
 | [],_=>rfl
 | t :: r,k=>by simp [Rl.mrks,Rl.mrks_len r]
theorem Rl.mcnts_app:∀(a b:List Rl),Rl.mcnts (a++b)=Rl.mcnts a+Rl.mcnts b
 | [],b=>by simp [Rl.mcnts]
 | t :: a,b=>by simp only [List.cons_append,Rl.mcnts,Rl.mcnts_app a b];omega
theorem Rl.mrks_app:∀(a b:List Rl) (k:Int),Rl.mrks k (a++b)=Rl.mrks k a++Rl.mrks (k+Rl.mcnts a) b
 | [],b,k=>by simp [Rl.mrks,Rl.mcnts]
 | t :: a,b,k=>by
  simp only [List.cons_append,Rl.mrks,Rl.mcnts,Rl.mrks_app a b]
  rw [show k+(t.mcnt:Int)+(Rl.mcnts a:Int)=k+((t.mcnt+Rl.mcnts a:Nat):Int) by omega]
theorem Rl.len_mcnts:∀l:List Rl,l.length≤Rl.mcnts l
 | []=>by simp
 | t :: r=>by have:=Rl.len_mcnts r;simp only [Rl.mcnts,Rl.mcnt,List.length_cons];omega
theorem Rl.mcnts_wt:∀l:List Rl,Rl.mcnts l≤5 * wtR (l.map Rl.enc)
 | []=>by simp [Rl.mcnts]
 | t :: r=>by
  have h1:=Rl.mcnts_wt r
  have h2:=Tm.mcnts_wt t.body.terms
  have h3:=Gl.mcnts_wt t.body.goals
  simp only [Rl.mcnts,Rl.mcnt,List.map_cons,wtR,Rl.enc_eq,wtL,D.wt];omega
def Rl.edges (r:Rl):List (List UInt8×Int):=((r.body.callsI false false).map fun n=>(n,(0:Int)))++((r.body.callsI true false).map fun n=>(n,(1:Int)))
def Pg.sat (p:Pg) (s:List Int) (i:Nat) (e:List UInt8×Int):Prop:=s.getD (p.find e.1).toNat 0+e.2≤s.getD i 0
def Pg.Sol (p:Pg) (s:List Int):Prop:=s.length=p.rels.length∧(∀i,i<s.length→0≤s.getD i 0)∧∀i r,p.rels[i]? = some r→∀e,e∈r.edges→p.sat s i e
def Pg.Low (p:Pg) (n:List Int):Prop:=∀s,p.Sol s→∀i:Nat,n.getD i 0≤s.getD i 0
theorem getD_set {l:List Int} {i:Nat} {x:Int} (j:Nat) (hi:i<l.length):(l.set i x).getD j 0=if j=i then x else l.getD j 0:=by
 simp only [a_]
 by_cases h:j=i
 ·subst h;rw [List.getElem?_set_self hi,if_pos rfl];rfl
 ·rw [List.getElem?_set_ne (fun e=>h e.symm),if_neg h]
theorem Pg.Low.raise {p:Pg} {n:List Int} (h:p.Low n) {i:Nat} {r:Rl} (hr:p.rels[i]? = some r) {e:List UInt8×Int} (he:e∈r.edges) (hi:i<n.length):p.Low (n.set i (n.getD (p.find e.1).toNat 0+e.2)):=by
 intro s hs j
 rw [getD_set j hi]
 split
 ·rename_i hj
  subst hj
  have h1:=hs.2.2 j r hr e he
  have h2:=h s hs (p.find e.1).toNat
  unfold Pg.sat at h1
  omega
 ·exact h s hs j
theorem sum_set:∀(l:List Int) (i:Nat) (x:Int),i<l.length→(l.set i x).sum=l.sum - l.getD i 0+x
 | [],i,x,h=>by simp at h
 | y :: r,0,x,h=>by simp;omega
 | y :: r,i+1,x,h=>by
  have:=sum_set r i x (by simpa using h)
  simp only [List.set_cons_succ,List.sum_cons,this]
  simp only [a_,List.getElem?_cons_succ];omega
def Pg.relax (p:Pg) (n:List Int) (i:Nat) (e:List UInt8×Int):List Int:=if n.getD i 0<n.getD (p.find e.1).toNat 0+e.2 then n.set i (n.getD (p.find e.1).toNat 0+e.2) else n
structure Pg.Mid (p:Pg) (T:Int) (n0:List Int) (i:Nat) (C:Nat) (all rem:List (List UInt8×Int)) (n:List Int) (ch:Bool):Prop where
 len:n.length=p.rels.length
 low:p.Low n
 oth:∀j,j<n.length→0≤n.getD j 0∧(j≠i→n.getD j 0≤T)
 own:n.getD i 0+rem.length≤T+C+1
 same:ch=false→n=n0∧∀e,e∈all→e∈rem∨p.sat n0 i e
 grew:ch=true→n0.sum<n.sum
theorem Pg.Mid.step {p:Pg} {T:Int} {n0:List Int} {i C:Nat} {r:Rl} {rem:List (List UInt8×Int)} {n:List Int} {ch:Bool} {e:List UInt8×Int} (hT:0≤T) (h:p.Mid T n0 i C r.edges (e :: rem) n ch) (hr:p.rels[i]? = some r) (he:e∈r.edges) (hj:(p.find e.1).toNat<p.rels.length) (hw:e.2=0∨e.2=1) (hC:rem.length+1≤C)
  (hge:ch=true→n0.sum<n.sum):p.Mid T n0 i C r.edges rem (p.relax n i e) (ch || decide (n.getD i 0<n.getD (p.find e.1).toNat 0+e.2)):=by
 have hi:i<n.length:=by rw [h.len];exact (List.getElem?_eq_some_iff.1 hr).1
 rw [←h.len] at hj
 have ho:=h.own
 simp only [List.length_cons] at ho
 have hoj:=h.oth _ hj
 have hoi:=h.oth _ hi
 unfold Pg.relax
 by_cases hb:n.getD i 0<n.getD (p.find e.1).toNat 0+e.2
 ·rw [if_pos hb,decide_eq_true hb,Bool.or_true]
  have hx:n.getD (p.find e.1).toNat 0+e.2+rem.length≤T+C+1:=by
   by_cases hij:(p.find e.1).toNat=i
   ·rw [hij] at hb ⊢;omega
   ·have:=hoj.2 hij;omega
  generalize hX:n.getD (p.find e.1).toNat 0+e.2=X at *
  refine ⟨by rw [List.length_set];exact h.len,by rw [←hX];exact h.low.raise hr he hi,fun j hjl=>?_,?_,fun hc=>by simp at hc,fun _=>?_⟩
  ·rw [List.length_set] at hjl
   rw [getD_set j hi]
   have:=h.oth j hjl
   split
   ·rename_i hji;exact ⟨by omega,fun hne=>absurd hji hne⟩
   ·exact this
  ·rw [getD_set i hi,if_pos rfl];exact hx
  ·have:=sum_set n i X hi
   cases ch with
   | false=>have:=(h.same rfl).1;subst this;omega
   | true=>have:=hge rfl;omega
 ·rw [if_neg hb,decide_eq_false hb,Bool.or_false]
  refine ⟨h.len,h.low,h.oth,by omega,fun hc=>?_,h.grew⟩
  obtain ⟨k1,k2⟩:=h.same hc
  refine ⟨k1,fun e' he'=>?_⟩
  rcases k2 e' he' with hm | hm
  ·rcases List.mem_cons.1 hm with rfl | hm
   ·right
    unfold Pg.sat
    rw [←k1];omega
   ·exact .inl hm
  ·exact .inr hm
end Go.Abs
