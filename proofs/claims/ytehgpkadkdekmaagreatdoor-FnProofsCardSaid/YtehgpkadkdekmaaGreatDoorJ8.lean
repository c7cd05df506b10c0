import Derived.Test.YtehgpkadkdekmaaGreatDoorJ7
open List renaming getElem?_eq_some_iff->a_,getElem?_set_self->b_,getElem?_set_ne->c_,getElem?_append_right->d_,all_eq_true->e_,getElem?_append_left->f_,getElem?_eq_none->h_
open Nat renaming add_sub_cancel_left->g_
set_option linter.unusedSimpArgs false
set_option linter.unusedVariables false
namespace Go.Abs
section
variable {P:Program} {f:FuncId} {n n0:Nat} {R:C->List O->Prop}
theorem AW.readG {k:List Item} {s:St} (t r:Nat) {q z e:Nat} {xs:List (List D)} (ht:get s.σ t=.own r q) (hr:s.H[r]? = some (.grow q z e xs))
  (h:AW P f n n0 R k ⟨(t,.d (.sl xs)) :: s.σ,s.H⟩):AW P f n n0 R k s:=by
 refine AW.recast (s':=⟨(t,.d (.sl xs)) :: s.σ,s.H⟩) (fun h0 E a hst=>?_);have hv:=hst.slot t;rw[ht] at hv;have ho:=hst.heap.obj r _ hr;have hval:a.tmps.getD t undef=(E.τ r).2:=by
  generalize a.tmps.getD t undef=v at hv;cases hv with
  | own _ _ _ _ _ _ hv=>exact hv ho.1.symm
 refine⟨E,rfl,Le.refl E,⟨hst.size,hst.defers,hst.heap,fun t'=>?_⟩,h⟩;simp only[get];split
 ·rename_i e;subst e
  rw[hval];exact .d _ _ (aq3 ho)
 ·exact hst.slot t'
theorem AW.nilG {k:List Item} {s:St} (t:Nat) (ht:get s.σ t=.nil0)
  (h:AW P f n n0 R k ⟨(t,.d (.sl [])) :: s.σ,s.H⟩):AW P f n n0 R k s:=by
 refine AW.recast (s':=⟨(t,.d (.sl [])) :: s.σ,s.H⟩) (fun h0 E a hst=>?_);have hv:=hst.slot t;rw[ht] at hv;refine⟨E,rfl,Le.refl E,⟨hst.size,hst.defers,hst.heap,fun t'=>?_⟩,h⟩;simp only[get];split
 ·rename_i e;subst e
  generalize a.tmps.getD t undef=v at hv;cases hv with
  | nil0 a=>exact .d _ _ (.nil a 0)
 ·exact hst.slot t'
end
theorem RepH.readB {E:Env} {H:List O} (h:RepH E H) {rb j r q z e:Nat} {cs:List C} {xs:List (List D)} (hb:H[rb]? = some (.box cs)) (hj:cs[j]? = some (.own r q)) (hr:H[r]? = some (.grow q z e xs)) :
  RepH E (H.set rb (.box (cs.set j (.d (.sl xs))))):=by
 have hlen:rb<H.length:=(a_.1 hb).1;have at0:∀(r':Nat) (o:O),(H.set rb (.box (cs.set j (.d (.sl xs)))))[r']? = some o->(r'=rb/\o=.box (cs.set j (.d (.sl xs))))\/H[r']? = some o:=by
  intro r' o ho;by_cases e:r'=rb
  ·subst e
   rw[b_ hlen] at ho;exact .inl ⟨rfl,(Option.some.inj ho).symm⟩
  ·rw[c_ (fun e'=>e e'.symm)] at ho
   exact .inr ho
 have old:∀(r':Nat) (o:O),(H.set rb (.box (cs.set j (.d (.sl xs)))))[r']? = some o->∃o',H[r']? = some o'/\o'.block E r'=o.block E r':=by
  intro r' o ho;rcases at0 r' o ho with ⟨rfl,rfl⟩ | ho
  ·exact⟨_,hb,rfl⟩
  ·exact⟨o,ho,rfl⟩
 have hg:=h.obj r _ hr;refine⟨by rw[List.length_set];exact h.N,fun r' o ho=>?_,fun r' o b ho hk=>?_,fun r' o b ho hk=>?_,fun r1 r2 o1 o2 b h1 h2 k1 k2=>?_,h.Slt⟩
 ·rcases at0 r' o ho with ⟨rfl,rfl⟩ | ho
  ·obtain⟨arr,ty,a1,a2,a3,a4⟩:=h.obj _ _ hb
   refine⟨arr,ty,a1,by simpa using a2,fun i c v hc hv=>?_,a4⟩;by_cases hij:i=j
   ·subst hij
    have hjl:=(a_.1 hj).1;rw[b_ hjl] at hc;obtain⟨k1,k2⟩:=a3 i _ v hj hv;refine⟨?_,k2⟩;rw[<-Option.some.inj hc];cases k1 with
    | own _ _ _ _ _ _ hvv=>rw[hvv hg.1.symm];exact .d _ _ (aq3 hg)
   ·rw[c_ (fun e'=>hij e'.symm)] at hc
    exact a3 i c v hc hv
  ·exact h.obj r' o ho
 ·obtain⟨o',h1,h2⟩:=old r' o ho
  exact h.pv r' o' b h1 (by rw[h2];exact hk)
 ·obtain⟨o',h1,h2⟩:=old r' o ho
  exact h.lt r' o' b h1 (by rw[h2];exact hk)
 ·obtain⟨o1',g1,e1⟩:=old r1 o1 h1
  obtain⟨o2',g2,e2⟩:=old r2 o2 h2;exact h.apart r1 r2 o1' o2' b g1 g2 (by rw[e1];exact k1) (by rw[e2];exact k2)
theorem ACalls.nilArg {P:Program} {f:FuncId} {pre post:List C} {H:List O} {K:C->List O->Prop} (h:ACalls P f (pre++.d (.sl []) :: post) H K):ACalls P f (pre++.nil0 :: post) H K:=by
 intro E vs hH hs ha;refine h E vs hH (by simpa using hs) (fun i c v hc hv=>?_);by_cases hi:i=pre.length
 ·subst hi
  have h1:(pre++C.nil0 :: post)[pre.length]? = some .nil0:=by simp
  have h2:=ha _ _ v h1 hv;simp at hc;subst hc;cases h2 with
  | nil0 a=>exact .d _ _ (.nil a 0)
 ·refine ha i c v ?_ hv
  by_cases hl:i<pre.length
  ·rw[f_ hl] at hc |-;exact hc
  ·rw[d_ (by omega)] at hc |-
   obtain⟨m,hm⟩:∃m,i - pre.length=m+1:=⟨i - pre.length - 1,by omega⟩;rw[hm] at hc |-;simpa using hc
def be2 (P:Program) (s:St) (o:Oper) (K:C->List O->Prop):Prop:=
 match o.op with
 | .buildSlice t n ps=>aU6 ps.toList 0=true /\
   (match D6 P t with
   | some (e,z,_)=>ps.toList.length=n/\0<n/\n * z<=16777216/\aj7 s z (ps.toList.map (·.2)) /\
    (match F3 s.H (F4 s (ps.toList.map (·.2))) with
    | some (ds,H1)=>∀B,K (.own s.H.length 0) (H1++[.tree 0 z e (rowsOf z ds n) B none])
    | none=>False)
   | none=>False)
 | _=>Q7 P s o K
theorem ar5 {P:Program} {s:St} {o:Oper} {K:C->List O->Prop} (h:be2 P s o K):G6 P s o K:=by
 unfold be2 at h;split at h
 ·rename_i t n ps ho
  obtain⟨h0,h⟩:=h;split at h
  ·rename_i e z by_ ht
   obtain⟨h1,h2,h3,h4,h5⟩:=h;split at h5
   ·rename_i ds H1 hm
    exact ap1 ho (aG6 _ _ h0) ht (by simpa using h1) h2 h3 h4 hm h5
   ·exact h5.elim
  ·exact h.elim
 ·exact G7 h
def bT9 (P:Program) (n:Nat) (K:St->Prop):List Oper->St->Prop
 | [],⟨σ,H⟩=>K ⟨σ,H⟩
 | o :: rest,⟨σ,H⟩=>H9 n o=true/\o.guard=none/\be2 P ⟨σ,H⟩ o (kR (bT9 P n K rest) ⟨σ,H⟩ o.dst)
theorem aA0 {P:Program} {n:Nat} {K:St->Prop} {ops:Array Oper} {E0:Env}:∀(os:List Oper) (l:List Nat) (s:St) (E:Env) (a:Act),l.map (ops[·]?)=os.map some->RepSt E n s a->Le E0 E->bT9 P n K os s ->
  wpOps P ops (Behind n E0 K) l a E.w
 | [],l,s,E,a,hl,hst,hle,h=>by
  have:l=[]:=by simpa using hl
  subst this;exact⟨rfl,E,s,rfl,hst,hle,h⟩
 | o :: os,l,s,E,a,hl,hst,hle,h=>by
  cases l with
  | nil=>simp at hl
  | cons i l =>
   simp only[List.map_cons,List.cons.injEq] at hl;obtain⟨ho,hl⟩:=hl;unfold bT9 at h;obtain⟨hd,hg,h⟩:=h;have hdst:∀d,o.dst=some d->d<n:=fun d hd'=>by
    unfold H9 at hd;rw[hd'] at hd;simpa using hd
   rw[wpOps_cons];refine af1 (n:=n) ho hg ((ar5 h).run hst (fun v E' c H' h1 h2 h3 h4=>?_));exact aA0 os l _ E' _ hl (hst.put h3 h2 hdst h1) (hle.trans h3) h4
theorem AW.regL {P:Program} {n:Nat} {f:FuncId} {n0:Nat} {R:C->List O->Prop} {id:Nat} {ops:Array Oper} {k:List Item} {s:St} (h:bT9 P n (AW P f n n0 R k) ops.toList s):AW P f n n0 R (.code (.region id ops false) :: k) s:=by
 refine AW.of_behind (k':=k) fun _ E a b cs hst=>?_;have hw:=aA0 (ops:=ops) ops.toList (List.range ops.size) s E a (by
  apply List.ext_getElem?;intro j;simp only[List.getElem?_map];by_cases hj:j<ops.size
  ·rw[List.getElem?_range hj]
   simp[hj]
  ·rw[h_ (by simpa using hj),h_ (by simpa using hj)]
   rfl) hst (Le.refl E) h
 obtain⟨e,a',w',⟨rfl,E',s',rfl,h1,h2,h3⟩,harr⟩:=wp_region (id:=id) hw b k cs;exact⟨a',E',s',harr,h1,h2,h3⟩
attribute [go_sem] be2.eq_def bT9.eq_1 bT9.eq_2
theorem RepH.recell {E:Env} {H:List O} (h:RepH E H) {rb j:Nat} {cs:List C} {c0 c1:C} (hb:H[rb]? = some (.box cs)) (hj:cs[j]? = some c0)
  (hc:∀(arr:Array Value) (ty:TypeId) (v:Value),E.w.heap[E.β rb]? = some (.cells arr ty (0,0))->arr[j]? = some v->Rd E c0 v->Rd E c1 v) :
  RepH E (H.set rb (.box (cs.set j c1))):=by
 have hlen:rb<H.length:=(a_.1 hb).1;have at0:∀(r':Nat) (o:O),(H.set rb (.box (cs.set j c1)))[r']? = some o->(r'=rb/\o=.box (cs.set j c1))\/H[r']? = some o:=by
  intro r' o ho;by_cases e:r'=rb
  ·subst e
   rw[b_ hlen] at ho;exact .inl ⟨rfl,(Option.some.inj ho).symm⟩
  ·rw[c_ (fun e'=>e e'.symm)] at ho
   exact .inr ho
 have old:∀(r':Nat) (o:O),(H.set rb (.box (cs.set j c1)))[r']? = some o->∃o',H[r']? = some o'/\o'.block E r'=o.block E r':=by
  intro r' o ho;rcases at0 r' o ho with ⟨rfl,rfl⟩ | ho
  ·exact⟨_,hb,rfl⟩
  ·exact⟨o,ho,rfl⟩
 refine⟨by rw[List.length_set];exact h.N,fun r' o ho=>?_,fun r' o b ho hk=>?_,fun r' o b ho hk=>?_,fun r1 r2 o1 o2 b h1 h2 k1 k2=>?_,h.Slt⟩
 ·rcases at0 r' o ho with ⟨rfl,rfl⟩ | ho
  ·obtain⟨arr,ty,a1,a2,a3,a4⟩:=h.obj _ _ hb
   refine⟨arr,ty,a1,by simpa using a2,fun i c v hci hv=>?_,a4⟩;by_cases hij:i=j
   ·subst hij
    have hjl:=(a_.1 hj).1;rw[b_ hjl] at hci;obtain⟨k1,k2⟩:=a3 i _ v hj hv;refine⟨?_,k2⟩;rw[<-Option.some.inj hci];exact hc arr ty v a1 hv k1
   ·rw[c_ (fun e'=>hij e'.symm)] at hci
    exact a3 i c v hci hv
  ·exact h.obj r' o ho
 ·obtain⟨o',h1,h2⟩:=old r' o ho
  exact h.pv r' o' b h1 (by rw[h2];exact hk)
 ·obtain⟨o',h1,h2⟩:=old r' o ho
  exact h.lt r' o' b h1 (by rw[h2];exact hk)
 ·obtain⟨o1',g1,e1⟩:=old r1 o1 h1
  obtain⟨o2',g2,e2⟩:=old r2 o2 h2;exact h.apart r1 r2 o1' o2' b g1 g2 (by rw[e1];exact k1) (by rw[e2];exact k2)
section
variable {P:Program} {f:FuncId} {n n0:Nat} {R:C->List O->Prop}
theorem AW.adoptGB {k:List Item} {s:St} (rb j z e:Nat) {cs:List C} (hz:0<z) (hb:s.H[rb]? = some (.box cs)) (hj:cs[j]? = some .nil0)
  (h:AW P f n n0 R k ⟨s.σ,(s.H.set rb (.box (cs.set j (.own s.H.length 0))))++[.grow 0 z e []]⟩):AW P f n n0 R k s:=by
 refine AW.recast (s':=⟨s.σ,(s.H.set rb (.box (cs.set j (.own s.H.length 0))))++[.grow 0 z e []]⟩) (fun h0 E a hst=>?_);obtain⟨arr,ty,h1,h2,h3,h4⟩:=hst.heap.obj rb _ hb;have hjl:=(a_.1 hj).1;have haj:arr[j]? = some (arr[j]'(by omega)):=Array.getElem?_eq_getElem _;obtain⟨k1,k2⟩:=h3 j _ _ hj haj;obtain⟨ad,had⟩:∃ad,arr[j]'(by omega)=.slice ad 0 0:=by
  generalize arr[j]'(by omega)=v at k1;cases k1 with
  | nil0 a=>exact⟨a,rfl⟩
 rw[had] at haj;obtain⟨hl,hH⟩:=aj2 hst.heap ad e hz;have hrl:rb<s.H.length:=(a_.1 hb).1;have hb':(s.H++[O.grow 0 z e []])[rb]? = some (.box cs):=by rw[f_ hrl];exact hb
 have hH2:=hH.recell (c1:=.own s.H.length 0) hb' hj (fun arr' ty' v hh hv hr=>by
  have e1:E.w.heap[E.β rb]? = some (.cells arr' ty' (0,0)):=hh;rw[h1] at e1;cases e1;rw[haj] at hv;cases hv;have hτ:(E.ghost ad).τ s.H.length=(0,.slice ad 0 0):=by simp[Env.ghost,hst.heap.N]
  exact .own _ _ _ (by simp[Env.ghost,hst.heap.N]) rfl (by rw[hτ];exact Nat.le_refl _) (fun _=>by rw[hτ]))
 rw[List.set_append_left _ _ hrl] at hH2;exact⟨E.ghost ad,rfl,hl,⟨hst.size,hst.defers,hH2,fun t=>(hst.slot t).le hl⟩,h⟩
end
set_option maxHeartbeats 2000000
def bT2 (P:Program) (g:FuncId) (ds:List D) (H:List O) (K:C->List O->Prop):Prop:=
 ∃(m:Nat) (R:C->List O->Prop) (rs:List Nat),ACalls P g (ds.map .d) (List.replicate m .hole) R/\rs.length=m/\rs.Nodup/\(∀r,r∈rs->H[r]? = some .hole) /\
  ∀c H',R c H'->H'.length=m->bz8 c=true/\H'.all O.fine=true/\K (c.renT rs) (I4 H rs H')
def bt4 (s:St) (o o2:Oper):Option (Tmp×Tmp×List D×FuncId):=
 match o.op,o.dst,o2.op with
 | .load _ (.tmp x),some d,.call c =>
  (match get s.σ x,c.callee,c.args.toList with
  | .tptr r q z i off,.value (.func g),[.tmp y] =>
   (match s.H[r]? with
   | some (.tree q' z' _ xs _ none)=>if q=q'/\z=z'/\i<xs.length/\y=d then some (x,d,(xs.getD i []).drop off,g) else none
   | _=>none)
  | _,_,_=>none)
 | _,_,_=>none
def bV3 (P:Program) (n:Nat) (K:St->Prop):List Oper->St->Prop
 | [],⟨σ,H⟩=>K ⟨σ,H⟩
 | [o],⟨σ,H⟩=>H9 n o=true/\o.guard=none/\Q7 P ⟨σ,H⟩ o (kR K ⟨σ,H⟩ o.dst)
 | o :: o2 :: rest,⟨σ,H⟩=>H9 n o=true/\o.guard=none /\
  (match bt4 ⟨σ,H⟩ o o2 with
  | some (x,d,cs,g)=>H9 n o2=true/\o2.guard=none/\isGo P g=true /\
   o6 P ⟨[(x,.cptr cs)],[]⟩ o.op (fun c=>match norm ⟨[],[]⟩ c with
    | .d dd=>bT2 P g [dd] H (kR (bV3 P n K rest) ⟨(d,.top) :: σ,H⟩ o2.dst)
    | _=>False)
  | none=>Q7 P ⟨σ,H⟩ o (kR (bV3 P n K (o2 :: rest)) ⟨σ,H⟩ o.dst))
attribute [go_sem] bt4.eq_def bV3.eq_1 bV3.eq_2 bV3.eq_3
structure CloR {α:Type} (P:Program) (g:FuncId) (caps:List C) (m:Nat) (enc:α->D) (H:List O) (Q:α->Prop) (res:α->C):Prop where
 go:isGo P g=true
 hcaps:caps.all (C.refsLt1 m)=true
 len:H.length=m
 refs:H.all (O.refsLt m)=true
 call:∀x,Q x->ACalls P g (.d (enc x) :: caps) H (fun c H'=>c=res x/\H'=H)
namespace CloR
variable {α:Type} {P:Program} {g:FuncId} {cs:List C} {m:Nat} {enc:α->D} {H:List O} {Q:α->Prop} {res:α->C}
theorem at0 (h:CloR P g cs m enc H Q res) (X:List O):(H++X)[m]? = X[0]?:=by
 rw[d_ (by rw[h.len];omega),h.len,Nat.sub_self]
theorem atj (h:CloR P g cs m enc H Q res) (X:List O) (j:Nat):(H++X)[m+j]? = X[j]?:=by
 rw[d_ (by rw[h.len];omega),h.len,g_]
theorem set0 (h:CloR P g cs m enc H Q res) (X:List O) (o:O):(H++X).set m o=H++X.set 0 o:=by
 rw[List.set_append,if_neg (by rw[h.len];omega),h.len,Nat.sub_self]
theorem setj (h:CloR P g cs m enc H Q res) (X:List O) (j:Nat) (o:O):(H++X).set (m+j) o=H++X.set j o:=by
 rw[List.set_append,if_neg (by rw[h.len];omega),h.len,g_]
theorem tk (h:CloR P g cs m enc H Q res):H.take m=H:=List.take_of_length_le (by rw[h.len];omega)
theorem tk0 (h:CloR P g cs m enc H Q res) (X:List O):(H++X).take m=H:=by
 rw[List.take_append_of_le_length (by rw[h.len];omega),h.tk]
theorem tkj (h:CloR P g cs m enc H Q res) (X:List O) (j:Nat):(H++X).take (m+j)=H++X.take j:=by
 rw[<-h.len,List.take_length_add_append]
theorem refsj (h:CloR P g cs m enc H Q res) (j:Nat):H.all (O.refsLt (m+j))=true:=by
 have:=h.refs;simp only[e_] at this |-;exact fun o ho=>O.refsLt_mono (this o ho)
theorem capsj (h:CloR P g cs m enc H Q res) (j:Nat):cs.all (C.refsLt1 (m+j))=true:=by
 have:=h.hcaps;simp only[e_] at this |-;exact fun o ho=>C.refsLt1_mono (this o ho)
theorem capsT (h:CloR P g cs m enc H Q res):cs.all (C.refsLtT m)=true:=by
 have:=h.hcaps;simp only[e_] at this |-;exact fun c hc=>C.refsLtT_of1 (this c hc)
theorem on (h:CloR P g cs m enc H Q res) {x:α} {X:List O} {K:C->List O->Prop} (hq:Q x) (hk:K (res x) (H++X)):ACalls P g (.d (enc x) :: cs) (H++X) K:=by
 refine(h.call x hq).frame ?_ (by rw[h.len];exact h.refs) (fun c H' hc hl=>?_)
 ·have:=h.capsT
  simp only[List.all_cons,C.refsLtT,C.refsLt,C.refsLt1,Bool.true_and,h.len];exact this
 ·obtain⟨rfl,rfl⟩:=hc;exact hk
theorem sub (h:CloR P g cs m enc H Q res) {f:FuncId} {d:D} {r:C} {X:List O} {K:C->List O->Prop} (hc:ACalls P f [.d d,.fn g cs] H (fun c H'=>c=r/\H'=H))
  (hk:K r (H++X)):ACalls P f [.d d,.fn g cs] (H++X) K:=by
 refine hc.frame ?_ (by rw[h.len];exact h.refs) (fun c H' hc hl=>?_)
 ·have e1:C.refsLtT m (.fn g cs)=cs.all (C.refsLt1 m):=rfl
  have e2:C.refsLtT m (.d d)=true:=rfl;simp only[List.all_cons,List.all_nil,h.len,e1,e2,h.hcaps,Bool.and_self]
 ·obtain⟨rfl,rfl⟩:=hc;exact hk
end CloR
section
variable {P:Program} {f:FuncId} {n n0:Nat} {R:C->List O->Prop}
end
end Go.Abs
