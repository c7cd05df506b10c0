import Derived.Test.YtmfkcdelddmfpaaGreatJ7
open List renaming getElem?_eq_some_iff->a_,getElem?_append_right->b_,all_eq_true->c_,getElem?_append_left->d_,getElem?_set_self->f_
open Nat renaming add_sub_cancel_left->e_
set_option linter.unusedSimpArgs false
set_option linter.unusedVariables false
namespace Go.Abs
section
variable {P:Program} {f:FuncId} {n n0:Nat} {R:C->List O->Prop}
theorem AW.readG {k:List Item} {s:St} (t r:Nat) {q z e:Nat} {xs:List (List D)} (ht:get s.σ t=.own r q) (hr:s.H[r]? = some (.grow q z e xs))
  (h:AW P f n n0 R k ⟨(t,.d (.sl xs)) :: s.σ,s.H⟩):AW P f n n0 R k s:=by
 refine AW.recast (s':=⟨(t,.d (.sl xs)) :: s.σ,s.H⟩) (fun h0 E a hst=>?_);have hv:=hst.slot t;rw [ht] at hv;have ho:=hst.heap.obj r _ hr;have hval:a.tmps.getD t undef=(E.τ r).2:=by
  generalize a.tmps.getD t undef=v at hv;cases hv with
  | own _ _ _ _ _ _ hv=>exact hv ho.1.symm
 refine ⟨E,rfl,Le.refl E,⟨hst.size,hst.defers,hst.heap,fun t'=>?_⟩,h⟩;simp only [get];split
 ·rename_i e;subst e
  rw [hval];exact .d _ _ (aF6 ho)
 ·exact hst.slot t'
theorem AW.nilG {k:List Item} {s:St} (t:Nat) (ht:get s.σ t=.nil0)
  (h:AW P f n n0 R k ⟨(t,.d (.sl [])) :: s.σ,s.H⟩):AW P f n n0 R k s:=by
 refine AW.recast (s':=⟨(t,.d (.sl [])) :: s.σ,s.H⟩) (fun h0 E a hst=>?_);have hv:=hst.slot t;rw [ht] at hv;refine ⟨E,rfl,Le.refl E,⟨hst.size,hst.defers,hst.heap,fun t'=>?_⟩,h⟩;simp only [get];split
 ·rename_i e;subst e
  generalize a.tmps.getD t undef=v at hv;cases hv with
  | nil0 a=>exact .d _ _ (.nil a 0)
 ·exact hst.slot t'
end
theorem l8.nilArg {P:Program} {f:FuncId} {pre post:List C} {H:List O} {K:C->List O->Prop} (h:l8 P f (pre++.d (.sl []) :: post) H K):l8 P f (pre++.nil0 :: post) H K:=by
 intro E vs hH hs ha;refine h E vs hH (by simpa using hs) (fun i c v hc hv=>?_);by_cases hi:i=pre.length
 ·subst hi
  have h1:(pre++C.nil0 :: post)[pre.length]? = some .nil0:=by simp
  have h2:=ha _ _ v h1 hv;simp at hc;subst hc;cases h2 with
  | nil0 a=>exact .d _ _ (.nil a 0)
 ·refine ha i c v ?_ hv
  by_cases hl:i<pre.length
  ·rw [d_ hl] at hc |-;exact hc
  ·rw [b_ (by omega)] at hc |-
   obtain ⟨m,hm⟩:∃m,i - pre.length=m+1:=⟨i - pre.length - 1,by omega⟩;rw [hm] at hc |-;simpa using hc
def bd1 (P:Program) (s:St) (o:Oper) (K:C->List O->Prop):Prop:=
 match o.op with
 | .buildSlice t n ps=>aU9 ps.toList 0=true /\
   (match D8 P t with
   | some (e,z,_)=>ps.toList.length=n/\0<n/\n * z<=16777216/\ai7 s z (ps.toList.map (·.2)) /\
    (match E5 s.H (F3 s (ps.toList.map (·.2))) with
    | some (ds,H1)=>∀B,K (.own s.H.length 0) (H1++[.tree 0 z e (rowsOf z ds n) B none])
    | none=>False)
   | none=>False)
 | _=>Q3 P s o K
theorem aR5 {P:Program} {s:St} {o:Oper} {K:C->List O->Prop} (h:bd1 P s o K):G9 P s o K:=by
 unfold bd1 at h;split at h
 ·rename_i t n ps ho
  obtain ⟨h0,h⟩:=h;split at h
  ·rename_i e z by_ ht
   obtain ⟨h1,h2,h3,h4,h5⟩:=h;split at h5
   ·rename_i ds H1 hm
    exact ao3 ho (aH1 _ _ h0) ht (by simpa using h1) h2 h3 h4 hm h5
   ·exact h5.elim
  ·exact h.elim
 ·exact G7 h
def cb2 (P:Program) (n:Nat) (K:St->Prop):List Oper->St->Prop
 | [],⟨σ,H⟩=>K ⟨σ,H⟩
 | o :: rest,⟨σ,H⟩=>I4 n o=true/\o.guard=none/\bd1 P ⟨σ,H⟩ o (kR (cb2 P n K rest) ⟨σ,H⟩ o.dst)
attribute [go_sem] bd1.eq_def cb2.eq_1 cb2.eq_2
theorem RepH.recell {E:Env} {H:List O} (h:RepH E H) {rb j:Nat} {cs:List C} {c0 c1:C} (hb:H[rb]? = some (.box cs)) (hj:cs[j]? = some c0)
  (hc:∀(arr:Array Value) (ty:TypeId) (v:Value),E.w.heap[E.β rb]? = some (.cells arr ty (0,0))->arr[j]? = some v->Rd E c0 v->Rd E c1 v) :
  RepH E (H.set rb (.box (cs.set j c1))):=by
 have hlen:rb<H.length:=(a_.1 hb).1;have at0:∀(r':Nat) (o:O),(H.set rb (.box (cs.set j c1)))[r']? = some o->(r'=rb/\o=.box (cs.set j c1))\/H[r']? = some o:=by
  intro r' o ho;by_cases e:r'=rb
  ·subst e
   rw [f_ hlen] at ho;exact .inl ⟨rfl,(Option.some.inj ho).symm⟩
  ·rw [List.getElem?_set_ne (fun e'=>e e'.symm)] at ho
   exact .inr ho
 have old:∀(r':Nat) (o:O),(H.set rb (.box (cs.set j c1)))[r']? = some o->∃o',H[r']? = some o'/\o'.block E r'=o.block E r':=by
  intro r' o ho;rcases at0 r' o ho with ⟨rfl,rfl⟩ | ho
  ·exact ⟨_,hb,rfl⟩
  ·exact ⟨o,ho,rfl⟩
 refine ⟨by rw [List.length_set];exact h.N,fun r' o ho=>?_,fun r' o b ho hk=>?_,fun r' o b ho hk=>?_,fun r1 r2 o1 o2 b h1 h2 k1 k2=>?_,h.Slt⟩
 ·rcases at0 r' o ho with ⟨rfl,rfl⟩ | ho
  ·obtain ⟨arr,ty,a1,a2,a3,a4⟩:=h.obj _ _ hb
   refine ⟨arr,ty,a1,by simpa using a2,fun i c v hci hv=>?_,a4⟩;by_cases hij:i=j
   ·subst hij
    have hjl:=(a_.1 hj).1;rw [f_ hjl] at hci;obtain ⟨k1,k2⟩:=a3 i _ v hj hv;refine ⟨?_,k2⟩;rw [<-Option.some.inj hci];exact hc arr ty v a1 hv k1
   ·rw [List.getElem?_set_ne (fun e'=>hij e'.symm)] at hci
    exact a3 i c v hci hv
  ·exact h.obj r' o ho
 ·obtain ⟨o',h1,h2⟩:=old r' o ho
  exact h.pv r' o' b h1 (by rw [h2];exact hk)
 ·obtain ⟨o',h1,h2⟩:=old r' o ho
  exact h.lt r' o' b h1 (by rw [h2];exact hk)
 ·obtain ⟨o1',g1,e1⟩:=old r1 o1 h1
  obtain ⟨o2',g2,e2⟩:=old r2 o2 h2;exact h.apart r1 r2 o1' o2' b g1 g2 (by rw [e1];exact k1) (by rw [e2];exact k2)
section
variable {P:Program} {f:FuncId} {n n0:Nat} {R:C->List O->Prop}
theorem AW.adoptGB {k:List Item} {s:St} (rb j z e:Nat) {cs:List C} (hz:0<z) (hb:s.H[rb]? = some (.box cs)) (hj:cs[j]? = some .nil0)
  (h:AW P f n n0 R k ⟨s.σ,(s.H.set rb (.box (cs.set j (.own s.H.length 0))))++[.grow 0 z e []]⟩):AW P f n n0 R k s:=by
 refine AW.recast (s':=⟨s.σ,(s.H.set rb (.box (cs.set j (.own s.H.length 0))))++[.grow 0 z e []]⟩) (fun h0 E a hst=>?_);obtain ⟨arr,ty,h1,h2,h3,h4⟩:=hst.heap.obj rb _ hb;have hjl:=(a_.1 hj).1;have haj:arr[j]? = some (arr[j]'(by omega)):=Array.getElem?_eq_getElem _;obtain ⟨k1,k2⟩:=h3 j _ _ hj haj;obtain ⟨ad,had⟩:∃ad,arr[j]'(by omega)=.slice ad 0 0:=by
  generalize arr[j]'(by omega)=v at k1;cases k1 with
  | nil0 a=>exact ⟨a,rfl⟩
 rw [had] at haj;obtain ⟨hl,hH⟩:=ai1 hst.heap ad e hz;have hrl:rb<s.H.length:=(a_.1 hb).1;have hb':(s.H++[O.grow 0 z e []])[rb]? = some (.box cs):=by rw [d_ hrl];exact hb
 have hH2:=hH.recell (c1:=.own s.H.length 0) hb' hj (fun arr' ty' v hh hv hr=>by
  have e1:E.w.heap[E.β rb]? = some (.cells arr' ty' (0,0)):=hh;rw [h1] at e1;cases e1;rw [haj] at hv;cases hv;have hτ:(E.ghost ad).τ s.H.length=(0,.slice ad 0 0):=by simp [Env.ghost,hst.heap.N]
  exact .own _ _ _ (by simp [Env.ghost,hst.heap.N]) rfl (by rw [hτ];exact Nat.le_refl _) (fun _=>by rw [hτ]))
 rw [List.set_append_left _ _ hrl] at hH2;exact ⟨E.ghost ad,rfl,hl,⟨hst.size,hst.defers,hH2,fun t=>(hst.slot t).le hl⟩,h⟩
end
set_option maxHeartbeats 2000000
def bO7 (P:Program) (g:FuncId) (ds:List D) (H:List O) (K:C->List O->Prop):Prop:=
 ∃(m:Nat) (R:C->List O->Prop) (rs:List Nat),l8 P g (ds.map .d) (List.replicate m .hole) R/\rs.length=m/\rs.Nodup/\(∀r,r∈rs->H[r]? = some .hole) /\
  ∀c H',R c H'->H'.length=m->bw4 c=true/\H'.all O.fine=true/\K (c.renT rs) (I1 H rs H')
def bq4 (s:St) (o o2:Oper):Option (Tmp×Tmp×List D×FuncId):=
 match o.op,o.dst,o2.op with
 | .load _ (.tmp x),some d,.call c =>
  (match get s.σ x,c.callee,c.args.toList with
  | .tptr r q z i off,.value (.func g),[.tmp y] =>
   (match s.H[r]? with
   | some (.tree q' z' _ xs _ none)=>if q=q'/\z=z'/\i<xs.length/\y=d then some (x,d,(xs.getD i []).drop off,g) else none
   | _=>none)
  | _,_,_=>none)
 | _,_,_=>none
def bQ9 (P:Program) (n:Nat) (K:St->Prop):List Oper->St->Prop
 | [],⟨σ,H⟩=>K ⟨σ,H⟩
 | [o],⟨σ,H⟩=>I4 n o=true/\o.guard=none/\Q3 P ⟨σ,H⟩ o (kR K ⟨σ,H⟩ o.dst)
 | o :: o2 :: rest,⟨σ,H⟩=>I4 n o=true/\o.guard=none /\
  (match bq4 ⟨σ,H⟩ o o2 with
  | some (x,d,cs,g)=>I4 n o2=true/\o2.guard=none/\isGo P g=true /\
   o7 P ⟨[(x,.cptr cs)],[]⟩ o.op (fun c=>match norm ⟨[],[]⟩ c with
    | .d dd=>bO7 P g [dd] H (kR (bQ9 P n K rest) ⟨(d,.top) :: σ,H⟩ o2.dst)
    | _=>False)
  | none=>Q3 P ⟨σ,H⟩ o (kR (bQ9 P n K (o2 :: rest)) ⟨σ,H⟩ o.dst))
attribute [go_sem] bq4.eq_def bQ9.eq_1 bQ9.eq_2 bQ9.eq_3
structure CloR {α:Type} (P:Program) (g:FuncId) (caps:List C) (m:Nat) (enc:α->D) (H:List O) (Q:α->Prop) (res:α->C):Prop where
 go:isGo P g=true
 hcaps:caps.all (C.refsLt1 m)=true
 len:H.length=m
 refs:H.all (O.refsLt m)=true
 call:∀x,Q x->l8 P g (.d (enc x) :: caps) H (fun c H'=>c=res x/\H'=H)
namespace CloR
variable {α:Type} {P:Program} {g:FuncId} {cs:List C} {m:Nat} {enc:α->D} {H:List O} {Q:α->Prop} {res:α->C}
theorem at0 (h:CloR P g cs m enc H Q res) (X:List O):(H++X)[m]? = X[0]?:=by
 rw [b_ (by rw [h.len];omega),h.len,Nat.sub_self]
theorem atj (h:CloR P g cs m enc H Q res) (X:List O) (j:Nat):(H++X)[m+j]? = X[j]?:=by
 rw [b_ (by rw [h.len];omega),h.len,e_]
theorem set0 (h:CloR P g cs m enc H Q res) (X:List O) (o:O):(H++X).set m o=H++X.set 0 o:=by
 rw [List.set_append,if_neg (by rw [h.len];omega),h.len,Nat.sub_self]
theorem setj (h:CloR P g cs m enc H Q res) (X:List O) (j:Nat) (o:O):(H++X).set (m+j) o=H++X.set j o:=by
 rw [List.set_append,if_neg (by rw [h.len];omega),h.len,e_]
theorem tk (h:CloR P g cs m enc H Q res):H.take m=H:=List.take_of_length_le (by rw [h.len];omega)
theorem tk0 (h:CloR P g cs m enc H Q res) (X:List O):(H++X).take m=H:=by
 rw [List.take_append_of_le_length (by rw [h.len];omega),h.tk]
theorem tkj (h:CloR P g cs m enc H Q res) (X:List O) (j:Nat):(H++X).take (m+j)=H++X.take j:=by
 rw [<-h.len,List.take_length_add_append]
theorem refsj (h:CloR P g cs m enc H Q res) (j:Nat):H.all (O.refsLt (m+j))=true:=by
 have:=h.refs;simp only [c_] at this |-;exact fun o ho=>O.refsLt_mono (this o ho)
theorem capsj (h:CloR P g cs m enc H Q res) (j:Nat):cs.all (C.refsLt1 (m+j))=true:=by
 have:=h.hcaps;simp only [c_] at this |-;exact fun o ho=>C.refsLt1_mono (this o ho)
theorem capsT (h:CloR P g cs m enc H Q res):cs.all (C.refsLtT m)=true:=by
 have:=h.hcaps;simp only [c_] at this |-;exact fun c hc=>C.refsLtT_of1 (this c hc)
theorem on (h:CloR P g cs m enc H Q res) {x:α} {X:List O} {K:C->List O->Prop} (hq:Q x) (hk:K (res x) (H++X)):l8 P g (.d (enc x) :: cs) (H++X) K:=by
 refine (h.call x hq).frame ?_ (by rw [h.len];exact h.refs) (fun c H' hc hl=>?_)
 ·have:=h.capsT
  simp only [List.all_cons,C.refsLtT,C.refsLt,C.refsLt1,Bool.true_and,h.len];exact this
 ·obtain ⟨rfl,rfl⟩:=hc;exact hk
theorem sub (h:CloR P g cs m enc H Q res) {f:FuncId} {d:D} {r:C} {X:List O} {K:C->List O->Prop} (hc:l8 P f [.d d,.fn g cs] H (fun c H'=>c=r/\H'=H))
  (hk:K r (H++X)):l8 P f [.d d,.fn g cs] (H++X) K:=by
 refine hc.frame ?_ (by rw [h.len];exact h.refs) (fun c H' hc hl=>?_)
 ·have e1:C.refsLtT m (.fn g cs)=cs.all (C.refsLt1 m):=rfl
  have e2:C.refsLtT m (.d d)=true:=rfl;simp only [List.all_cons,List.all_nil,h.len,e1,e2,h.hcaps,Bool.and_self]
 ·obtain ⟨rfl,rfl⟩:=hc;exact hk
end CloR
section
variable {P:Program} {f:FuncId} {n n0:Nat} {R:C->List O->Prop}
end
end Go.Abs
