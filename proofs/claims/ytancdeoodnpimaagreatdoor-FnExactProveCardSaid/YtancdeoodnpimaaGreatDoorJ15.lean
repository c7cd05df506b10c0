import Derived.Test.YtancdeoodnpimaaGreatDoorJ14
import Derived.Shelf.Strings.Builder1
import Derived.Shelf.Small.Bits
import Derived.Shelf.Small.Wraps
import Derived.Shelf.Strconv.Itoa0
import Derived.Shelf.Strconv.Itoa1
import Derived.Shelf.LaysM
import Derived.Shelf.Strconv.Itoa2
import Derived.Shelf.Strconv.Itoa3
import Derived.Shelf.Sort.Plain
import Derived.Ground.GgsProg
import Derived.Shelf.GgSortFunc.Insertion
import Derived.Shelf.GgSortFunc.Tiny
import Derived.Shelf.GgSortFunc.Compose
import Derived.Ground.GgtProg
import Derived.Shelf.GgSortMore.Stable
import Derived.Shelf.Slices.In.SortNone
import Derived.Shelf.Slices.In.SortNone2
import Derived.Test.YtancdeoodnpimaaGreatDoorProg
open List renaming append_assoc->a_,mem_of_getElem?->c_,length_append->e_,all_cons->f_,all_nil->g_,length_cons->h_,getElem?_eq_some_iff->i_,append_nil->j_,getElem?_eq_getElem->k_,length_nil->l_,foldl_append->m_,map_cons->p_,foldl_nil->r_,cons_append->t_,drop_eq_getElem_cons->u_,nil_append->w_,flatMap_cons->x_,drop_eq_nil_of_le->y_,length_map->z_,map_nil->A_,flatMap_nil->C_,append_inj'->D_,all_eq_true->E_,foldl_cons->F_,map_congr_left->G_,length_drop->H_,eq_nil_of_length_eq_zero->I_,mem_append->J_
open Nat renaming le_refl->b_,zero_le->s_,min_eq_left->K_,lt_succ_iff_lt_or_eq->M_
open Bool renaming and_eq_true->d_,true_and->n_,not_eq_true->o_,and_true->B_,and_false->L_
open Option renaming getD_some->q_,isSome_some->v_
set_option linter.unusedVariables false
set_option linter.unusedSimpArgs false
namespace Go.Abs
def cu9 (T:List (List UInt8)):Nat->Nat->List V->Option (List V×Nat)
 | 0,_,_=>none
 | n+1,i,acc=>if T[i]? = some [41] then some (acc,i+1) else match rdO false T i with
  | some (v,j)=>cu9 T n j (acc++[v])
  | none=>none
mutual
def rdP (T:List (List UInt8)):Nat->Nat->Option (Pf×Nat)
 | 0,_=>none
 | n+1,i=>if T[i]? = some [40] then (match T[i+1]? with
  | none=>none
  | some rel=>(match bh4 (T[i+2]?.getD []) with
   | none=>none
   | some c=>if T[i+3]? = some [40] then (match cu9 T (T.length+1) (i+4) [] with
    | none=>none
    | some (vs,j)=>rdK T n j rel c vs []) else none)) else none
def rdK (T:List (List UInt8)):Nat->Nat->List UInt8->Int->List V->List Pf->Option (Pf×Nat)
 | 0,_,_,_,_,_=>none
 | n+1,i,rel,c,vs,acc=>if T[i]? = some [41] then some (.mk rel c (vs.map V.tm) acc,i+1) else match rdP T n i with
  | some (k,j)=>rdK T n j rel c vs (acc++[k])
  | none=>none
end
def clo:Nat->List (List UInt8)->Option Nat
 | _,[]=>none
 | d,t :: r=>if t=[40] then (clo (d+1) r).map (·+1) else if t=[41] then (match d with | 0=>some 0 | d+1=>(clo d r).map (·+1)) else (clo d r).map (·+1)
def pfI (T:List (List UInt8)):Option Pf:=match rdP T (2 * T.length+2) 0 with
 | some (pr,j)=>if j=T.length then some pr else none
 | none=>none
def ppI (p:Pg) (s:List UInt8):Option Pf:=match cx9 s with
 | some T=>(match pfI T with | some pr=>if p.prfOk pr=true then some pr else none | none=>none)
 | none=>none
theorem aW6 {p:Pg}:∀(l:List Rl),p.okL l=true->l.length<=p.rels.length->∀(i:Nat) (r:Rl),l[i]? = some r->p.relOk (p.rels.length - l.length+i) r=true
 | [],_,_,i,r,hr=>by simp at hr
 | x :: q,ho,hl,i,r,hr=>by
  simp only [Pg.okL,d_] at ho;simp only [h_] at hl |-;match i with
  | 0=>simp at hr;subst hr;exact ho.1
  | i+1 =>
   have:=aW6 q ho.2 (by omega) i r (by simpa using hr);rw [show p.rels.length - (q.length+1)+(i+1)=p.rels.length - q.length+i by omega];exact this
open Go
def stp (c:UInt8):Prop:=c=32\/c=41
def bnx (R:List UInt8):Prop:=R=[]\/∃c r,R=c :: r/\stp c
theorem ad1:∀(w w':List UInt8) {R S:List UInt8},(∀c,c∈w->¬stp c)->(∀c,c∈w'->¬stp c)->bnx R->bnx S->w++R=w'++S->w=w'/\R=S
 | [],[],_,_,_,_,_,_,h=>⟨rfl,h⟩
 | [],d :: w',R,S,_,h2,hR,_,h=>by
  rcases hR with e | ⟨c,r,e,hc⟩
  ·rw [e] at h;cases h
  ·rw [e] at h
   obtain rfl:=(List.cons.inj h).1;exact absurd hc (h2 _ (by simp))
 | c :: w,[],R,S,h1,_,_,hS,h=>by
  rcases hS with e | ⟨d,r,e,hd⟩
  ·rw [e] at h;cases h
  ·rw [e] at h
   obtain rfl:=(List.cons.inj h).1;exact absurd hd (h1 _ (by simp))
 | c :: w,d :: w',R,S,h1,h2,hR,hS,h=>by
  obtain ⟨e1,e2⟩:=List.cons.inj h;obtain ⟨e3,e4⟩:=ad1 w w' (fun x hx=>h1 x (by simp [hx])) (fun x hx=>h2 x (by simp [hx])) hR hS e2;exact ⟨by rw [e1,e3],e4⟩
theorem aw2:∀n u,u<=n->∀c,c∈Lib.decDigits u->48<=c.toNat/\c.toNat<=57:=fun n=>by
 induction n with
 | zero =>
  intro u hu c hc;rw [Lib.decDigits,dif_pos (by omega)] at hc;simp at hc;subst hc;simp;omega
 | succ n ih =>
  intro u hu c hc;rw [Lib.decDigits] at hc;split at hc
  ·simp at hc;subst hc
   simp;omega
  ·rcases J_.1 hc with hc | hc
   ·exact ih _ (by omega) c hc
   ·simp at hc;subst hc
    simp;omega
theorem aF8 (u:Nat):Lib.decDigits u≠[]:=by
 rw [Lib.decDigits];split<;>simp
theorem aS6 {a b:Nat} (ha:a<10) (hb:b<10) (h:UInt8.ofNat (48+a)=UInt8.ofNat (48+b)):a=b:=by
 have:=congrArg UInt8.toNat h;simp at this;omega
theorem aX9:∀n u v,u<=n->Lib.decDigits u=Lib.decDigits v->u=v:=fun n=>by
 induction n with
 | zero =>
  intro u v hu h;rw [Lib.decDigits,dif_pos (by omega),Lib.decDigits] at h;split at h
  ·rename_i hv
   exact aS6 (by omega) hv (List.cons.inj h).1
  ·obtain ⟨h1,_⟩:=D_ (s₁:=[]) h rfl
   exact absurd h1.symm (aF8 _)
 | succ n ih =>
  intro u v hu h;rw [Lib.decDigits.eq_1 u,Lib.decDigits.eq_1 v] at h;split at h
  ·rename_i hu'
   split at h
   ·rename_i hv
    exact aS6 (by omega) hv (List.cons.inj h).1
   ·obtain ⟨h1,_⟩:=D_ (s₁:=[]) h rfl
    exact absurd h1.symm (aF8 _)
  ·split at h
   ·obtain ⟨h1,_⟩:=D_ (s₂:=[]) h rfl
    exact absurd h1 (aF8 _)
   ·obtain ⟨h1,h2⟩:=D_ h rfl
    have:=ih _ _ (by omega) h1;have:=aS6 (by omega) (by omega) (List.cons.inj h2).1;omega
theorem ai6 (n:Int):∀c,c∈dec n->c.toNat=45\/(48<=c.toNat/\c.toNat<=57):=by
 intro c hc;by_cases hn:n<0
 ·rw [aa1 hn] at hc
  rcases List.mem_cons.1 hc with rfl | hc
  ·exact .inl rfl
  ·exact .inr (aw2 _ _ (b_ _) c hc)
 ·rw [aa0 (by omega)] at hc
  exact .inr (aw2 _ _ (b_ _) c hc)
theorem aY1 {n m:Int} (h:dec n=dec m):n=m:=by
 have hne:∀u v,45 :: Lib.decDigits u≠Lib.decDigits v:=fun u v e=>by
  have:=aw2 _ v (b_ _) 45 (by rw [<-e];simp);revert this;decide
 by_cases hn:n<0
 ·rw [aa1 hn] at h
  by_cases hm:m<0
  ·rw [aa1 hm] at h
   have:=aX9 _ _ _ (b_ _) (List.cons.inj h).2;omega
  ·rw [aa0 (by omega)] at h
   exact absurd h (hne _ _)
 ·rw [aa0 (by omega)] at h
  by_cases hm:m<0
  ·rw [aa1 hm] at h
   exact absurd h.symm (hne _ _)
  ·rw [aa0 (by omega)] at h
   have:=aX9 _ _ _ (b_ _) h;omega
theorem ap1 {s:List UInt8} (h:E8 s=true):(∀c,c∈s->¬stp c)/\∃c r,s=c :: r/\97<=c.toNat:=by
 have hl:=J4 h;unfold E8 at h;simp only [d_,E_,List.mem_range] at h;refine ⟨fun c hc hs=>?_,?_⟩
 ·obtain ⟨j,hj⟩:=List.getElem?_of_mem hc
  have h1:=h.1.1 j (i_.1 hj).1;unfold aA2 ac6 at h1;rw [hj] at h1;simp only [q_,Bool.or_eq_true,d_,decide_eq_true_eq,bne_iff_ne,ne_eq,beq_iff_eq] at h1;rcases hs with rfl | rfl
  ·have:(32:UInt8).toNat=32:=rfl
   omega
  ·have:(41:UInt8).toNat=41:=rfl
   omega
 ·cases s with
  | nil=>simp at hl
  | cons c r =>
   refine ⟨c,r,rfl,?_⟩;have h1:=h.1.1 0 (by simp);unfold aA2 ac6 at h1;simp at h1;omega
namespace V
def leaf (v:V):Prop:=v.kind≠4/\v.kind≠0
theorem ap3 {v:V} (h:v.leaf) (hf:v.fine=true):(∀c,c∈v.txt->¬stp c)/\∃c r,v.txt=c :: r/\c≠40/\c≠41/\c≠46:=by
 have hd:∀n,∃c r,dec n=c :: r:=fun n=>by
  cases e:dec n with
  | nil =>
   by_cases hn:n<0
   ·rw [aa1 hn] at e;cases e
   ·rw [aa0 (by omega)] at e;exact absurd e (aF8 _)
  | cons c r=>exact ⟨c,r,rfl⟩
 have hs:∀(n:Int) c,c∈dec n->¬stp c:=fun n c hc hs=>by
  have:=ai6 n c hc;rcases hs with rfl | rfl
  ·have:(32:UInt8).toNat=32:=rfl
   omega
  ·have:(41:UInt8).toNat=41:=rfl
   omega
 cases v with
 | nil=>exact absurd rfl h.2
 | pair a b=>exact absurd rfl h.1
 | var n =>
  refine ⟨fun c hc=>?_,63,dec n,rfl,by decide,by decide,by decide⟩;rcases List.mem_cons.1 hc with rfl | hc
  ·unfold stp;decide
  ·exact hs n c hc
 | sym s =>
  obtain ⟨h1,c,r,h2,h3⟩:=ap1 hf;refine ⟨h1,c,r,h2,?_,?_,?_⟩<;>(rintro rfl;revert h3;decide)
 | num n =>
  obtain ⟨c,r,e⟩:=hd n;refine ⟨hs n,c,r,e,?_,?_,?_⟩<;>(rintro rfl;have:=ai6 n _ (by rw [e];exact List.mem_cons_self);revert this;decide)
theorem aW7 {a b:V} (ha:a.leaf) (hb:b.leaf) (fa:a.fine=true) (fb:b.fine=true) (h:a.txt=b.txt):a=b:=by
 have k1:∀n m,63 :: dec n≠dec m:=fun n m e=>by have:=ai6 m 63 (by rw [<-e];simp);revert this;decide
 have k2:∀(n:Int) s,E8 s=true->63 :: dec n≠s:=fun n s hs e=>by
  obtain ⟨_,c,r,h2,h3⟩:=ap1 hs;rw [h2] at e;rw [<-(List.cons.inj e).1] at h3;revert h3;decide
 have k3:∀(n:Int) s,E8 s=true->dec n≠s:=fun n s hs e=>by
  obtain ⟨_,c,r,h2,h3⟩:=ap1 hs;have:=ai6 n c (by rw [e,h2];simp);omega
 cases a with
 | nil=>exact absurd rfl ha.2
 | pair a b=>exact absurd rfl ha.1
 | var n =>
  cases b with
  | nil=>exact absurd rfl hb.2
  | pair a b=>exact absurd rfl hb.1
  | var m=>rw [aY1 (List.cons.inj h).2]
  | sym s=>exact absurd h (k2 n s fb)
  | num m=>exact absurd h (k1 n m)
 | sym s =>
  cases b with
  | nil=>exact absurd rfl hb.2
  | pair a b=>exact absurd rfl hb.1
  | var m=>exact absurd h.symm (k2 m s fa)
  | sym s'=>exact congrArg V.sym h
  | num m=>exact absurd h.symm (k3 m s fa)
 | num n =>
  cases b with
  | nil=>exact absurd rfl hb.2
  | pair a b=>exact absurd rfl hb.1
  | var m=>exact absurd h.symm (k1 m n)
  | sym s=>exact absurd h (k3 n s fb)
  | num m=>rw [aY1 h]
theorem shp (v:V):v=nil\/v.leaf\/∃a b,v=pair a b:=by
 cases v with
 | nil=>exact .inl rfl
 | pair a b=>exact .inr (.inr ⟨a,b,rfl⟩)
 | _=>exact .inr (.inl ⟨by simp [kind],by simp [kind]⟩)
theorem bC1 {v:V} (hf:v.fine=true):∃c r,v.txt=c :: r/\c≠41/\c≠46:=by
 rcases shp v with rfl | h | ⟨a,b,rfl⟩
 ·exact ⟨40,[41],rfl,by decide,by decide⟩
 ·obtain ⟨_,c,r,h1,_,h3,h4⟩:=ap3 h hf
  exact ⟨c,r,h1,h3,h4⟩
 ·exact ⟨40,_,rfl,by decide,by decide⟩
theorem bC3 (v:V) (R:List UInt8):bnx (v.tl++R):=by
 cases v with
 | nil=>exact .inr ⟨_,_,rfl,.inr rfl⟩
 | _=>exact .inr ⟨_,_,rfl,.inl rfl⟩
theorem txt_inj:∀a:V,a.fine=true->∀b:V,b.fine=true->∀R S:List UInt8,(bnx R->bnx S->a.txt++R=b.txt++S->a=b/\R=S)/\(a.tl++R=b.tl++S->a=b/\R=S):=by
 have n1:∀(a b c:V) (R S:List UInt8),b.fine=true->(40 :: 41 :: R:List UInt8)≠(pair b c).txt++S:=fun a b c R S hf e=>by
  obtain ⟨x,r,h1,h2,_⟩:=bC1 hf;rw [txt_pair,h1] at e;exact h2 (List.cons.inj (List.cons.inj e).2).1.symm
 have n2:∀(l:V) (R S:List UInt8) ,l.leaf->l.fine=true->(40 :: R:List UInt8)≠l.txt++S:=fun l R S h hf e=>by
  obtain ⟨_,c,r,h1,h2,_⟩:=ap3 h hf;rw [h1] at e;exact h2 (List.cons.inj e).1.symm
 have n3:∀(l b c:V) (R S:List UInt8),l.leaf->b.fine=true->l.tl++R≠(pair b c).tl++S:=fun l b c R S h hf e=>by
  obtain ⟨x,r,h1,_,h3⟩:=bC1 hf;rw [tl_atom h.1 h.2,tl_pair,h1] at e;exact h3 (List.cons.inj (List.cons.inj e).2).1.symm
 have n4:∀(l:V) (R S:List UInt8),l.leaf->(41 :: R:List UInt8)≠l.tl++S:=fun l R S h e=>by
  rw [tl_atom h.1 h.2] at e;exact absurd (List.cons.inj e).1 (by decide)
 have hlf:∀a:V,a.leaf->a.fine=true->∀b:V,b.fine=true->∀R S:List UInt8,(bnx R->bnx S->a.txt++R=b.txt++S->a=b/\R=S)/\(a.tl++R=b.tl++S->a=b/\R=S):=by
  intro a la fa b fb R S;rcases shp b with rfl | h | ⟨c,d,rfl⟩
  ·exact ⟨fun _ _ e=>absurd e.symm (n2 _ _ R la fa),fun e=>absurd e.symm (n4 _ S R la)⟩
  ·obtain ⟨w1,_⟩:=ap3 la fa
   obtain ⟨w2,_⟩:=ap3 h fb;refine ⟨fun hR hS e=>?_,fun e=>?_⟩
   ·obtain ⟨e1,e2⟩:=ad1 _ _ w1 w2 hR hS e
    exact ⟨aW7 la h fa fb e1,e2⟩
   ·rw [tl_atom la.1 la.2,tl_atom h.1 h.2] at e
    simp only [t_,w_,a_,List.cons.injEq,true_and] at e;obtain ⟨e1,e2⟩:=ad1 _ _ w1 w2 (.inr ⟨_,_,rfl,.inr rfl⟩) (.inr ⟨_,_,rfl,.inr rfl⟩) e;exact ⟨aW7 la h fa fb e1,(List.cons.inj e2).2⟩
  ·simp only [fine,d_] at fb
   refine ⟨fun _ _ e=>absurd ?_ (n2 a (c.txt++d.tl++S) R la fa),fun e=>absurd e (n3 _ c d R S la fb.1)⟩;rw [e,txt_pair];rfl
 intro a;induction a with
 | nil =>
  intro fa b fb R S;rcases shp b with rfl | h | ⟨c,d,rfl⟩
  ·exact ⟨fun _ _ h=>⟨rfl,(List.cons.inj (List.cons.inj h).2).2⟩,fun h=>⟨rfl,(List.cons.inj h).2⟩⟩
  ·exact ⟨fun _ _ e=>absurd e (n2 b _ S h fb),fun e=>absurd e (n4 b R S h)⟩
  ·simp only [fine,d_] at fb
   exact ⟨fun _ _ e=>absurd e (n1 nil c d R S fb.1),fun e=>absurd (List.cons.inj e).1 (by decide)⟩
 | pair a1 a2 ih1 ih2 =>
  intro fa b fb R S;simp only [fine,d_] at fa;rcases shp b with rfl | h | ⟨c,d,rfl⟩
  ·exact ⟨fun _ _ e=>absurd e.symm (n1 nil a1 a2 S R fa.1),fun e=>absurd (List.cons.inj e).1 (by decide)⟩
  ·exact ⟨fun _ _ e=>absurd (by rw [<-e,txt_pair];rfl) (n2 b (a1.txt++a2.tl++R) S h fb),fun e=>absurd e.symm (n3 b a1 a2 S R h fa.1)⟩
  ·simp only [fine,d_] at fb
   have key:a1.txt++(a2.tl++R)=c.txt++(d.tl++S)->pair a1 a2=pair c d/\R=S:=fun e=>by
    obtain ⟨rfl,e2⟩:=(ih1 fa.1 c fb.1 _ _).1 (bC3 a2 R) (bC3 d S) e;obtain ⟨rfl,e3⟩:=(ih2 fa.2 d fb.2 _ _).2 e2;exact ⟨rfl,e3⟩
   refine ⟨fun _ _ e=>key ?_,fun e=>key ?_⟩
   ·simp only [txt_pair,t_,a_,List.cons.injEq,true_and] at e
    exact e
   ·simp only [tl_pair,t_,a_,List.cons.injEq,true_and] at e
    exact e
 | var n=>exact hlf _ ⟨by simp [kind],by simp [kind]⟩
 | sym n=>exact hlf _ ⟨by simp [kind],by simp [kind]⟩
 | num n=>exact hlf _ ⟨by simp [kind],by simp [kind]⟩
end V
structure FcV.good (f:FcV):Prop where
 rel:U0 f.1=true
 len:f.2.length<=4
 ok:∀v,v∈f.2->v.ok=true
 gr:∀v,v∈f.2->v.vars=[]
theorem cj7 {v:V} (h:v.ok=true):v.tm.V=v/\v.fine=true:=by
 have hf:v.fine=true:=by simp [V.ok] at h;exact h.1
 exact ⟨by simp [Tm.V,V.v?_tm v hf],hf⟩
theorem args_inj:∀l m:List V,(∀v,v∈l->v.fine=true)->(∀v,v∈m->v.fine=true)->(l.flatMap fun v=>32 :: v.txt)++[41]=(m.flatMap fun v=>32 :: v.txt)++[41]->l=m
 | [],[],_,_,_=>rfl
 | [],x :: m,_,_,h=>by simp only [x_,C_,t_,w_] at h;exact absurd (List.cons.inj h).1 (by decide)
 | x :: l,[],_,_,h=>by simp only [x_,C_,t_,w_] at h;exact absurd (List.cons.inj h).1 (by decide)
 | x :: l,y :: m,h1,h2,h=>by
  simp only [x_,t_,a_] at h;have hb:∀z:List V,bnx ((z.flatMap fun v=>32 :: v.txt)++[41]):=fun z=>by
   cases z with
   | nil=>exact .inr ⟨_,_,rfl,.inr rfl⟩
   | cons=>exact .inr ⟨_,_,rfl,.inl rfl⟩
  obtain ⟨rfl,e⟩:=(V.txt_inj x (h1 x (by simp)) y (h2 y (by simp)) _ _).1 (hb l) (hb m) (List.cons.inj h).2;rw [args_inj l m (fun v hv=>h1 v (by simp [hv])) (fun v hv=>h2 v (by simp [hv])) e]
theorem FcV.good_gl {f:FcV} (h:f.good):aa4 f.fc.gl=true/\f.fc.gl.vars=[]:=by
 obtain ⟨h1,h2,h3,h4⟩:=h;refine ⟨?_,?_⟩
 ·have hc:f.fc.gl.cnt=1:=by rw [Gl.cnt_eq];simp [Fc.gl,Gl.goals,Gl.cnts]
  have ht:f.fc.gl.terms.all L9=true:=by
   simp only [Fc.gl,FcV.fc,Gl.terms,List.all_map,E_];exact fun v hv=>bF8 (h3 v hv)
  unfold aa4;rw [hc,Gl.shape_eq,ht];simp [Gl.form,Fc.gl,FcV.fc,Gl.kind,Gl.name,Gl.goals,Gl.terms,h1,h2];omega
 ·rw [Gl.vars_eq]
  simp only [Fc.gl,FcV.fc,Gl.terms,Gl.goals,Gl.varss,j_];have:∀l:List V,(∀v,v∈l->v.ok=true/\v.vars=[])->Tm.varss (l.map V.tm)=[]:=fun l=>by
   induction l with
   | nil=>intro _;rfl
   | cons x l ih =>
    intro hl;simp only [p_,Tm.varss,V.vars_tm,(hl x (by simp)).2,w_];exact ih (fun v hv=>hl v (by simp [hv]))
  exact this f.2 (fun v hv=>⟨h3 v hv,h4 v hv⟩)
theorem FcV.txt_eq {f:FcV} (h:f.good):Fc.txt f.fc=40 :: (f.1++((f.2.flatMap fun v=>32 :: v.txt)++[41])):=by
 unfold Fc.txt;rw [if_pos (FcV.good_gl h),Gl.txt_eq,if_neg (by simp [Fc.gl,Gl.kind])];have e:(f.fc.gl.terms.map fun t=>t.V.txt)=f.2.map V.txt:=by
  simp only [Fc.gl,FcV.fc,Gl.terms,List.map_map];exact G_ (fun v hv=>by simp [(cj7 (h.ok v hv)).1])
 unfold Gl.words;rw [e];simp [ac0,Fc.gl,Gl.kind,Gl.name,Gl.goals,ax9,FcV.fc,List.flatMap_map]
theorem FcV.txt_inj {f g:FcV} (hf:f.good) (hg:g.good) (h:Fc.txt f.fc=Fc.txt g.fc):f=g:=by
 rw [FcV.txt_eq hf,FcV.txt_eq hg] at h;have hn:∀s,U0 s=true->∀c,c∈s->¬stp c:=fun s hs=>(ap1 (by unfold U0 at hs;simp at hs;exact hs.2)).1;have hb:∀z:List V,bnx ((z.flatMap fun v=>32 :: v.txt)++[41]):=fun z=>by
  cases z with
  | nil=>exact .inr ⟨_,_,rfl,.inr rfl⟩
  | cons=>exact .inr ⟨_,_,rfl,.inl rfl⟩
 obtain ⟨e1,e2⟩:=ad1 _ _ (hn _ hf.rel) (hn _ hg.rel) (hb _) (hb _) (List.cons.inj h).2;have e3:=args_inj f.2 g.2 (fun v hv=>(cj7 (hf.ok v hv)).2) (fun v hv=>(cj7 (hg.ok v hv)).2) e2;exact Prod.ext e1 e3
def hN (rs:List RV) (f:FcV):Nat:=(hgt rs f).toNat
def rlF (rs:List RV) (f:FcV):Option RV:=rs.find? fun r=>decide (r.head=f) && r.pos.all fun k=>decide (k∈stg rs (hN rs f - 1))
def prT (rs:List RV):Nat->FcV->Pf
 | 0,f=>.mk f.1 0 [] []
 | n+1,f=>match rlF rs f with
  | some r=>.mk f.1 r.clause (r.values.map V.tm) (r.pos.map (prT rs n))
  | none=>.mk f.1 0 [] []
def szT (rs:List RV):Nat->FcV->Nat
 | 0,_=>1
 | n+1,f=>match rlF rs f with
  | some r=>r.pos.foldl (fun a k=>min (a+szT rs n k) 201) 1
  | none=>1
theorem aU7 (rs:List RV) (n:Nat) (ih:∀f,szT rs n f=min (prT rs n f).cnt 201):∀(l:List FcV) (a:Nat),a<=201->l.foldl (fun a k=>min (a+szT rs n k) 201) a=min (a+Pf.cnts (l.map (prT rs n))) 201
 | [],a,h=>by simp only [r_,A_,Pf.cnts];omega
 | k :: l,a,h=>by
  rw [F_,aU7 rs n ih l _ (by omega),ih k];simp only [p_,Pf.cnts];omega
theorem bC4 (rs:List RV):∀(n:Nat) (f:FcV),szT rs n f=min (prT rs n f).cnt 201
 | 0,f=>by simp [szT,prT,Pf.cnt,Pf.cnts]
 | n+1,f=>by
  rw [szT,prT];cases rlF rs f with
  | none=>simp [Pf.cnt,Pf.cnts]
  | some r =>
   dsimp only;rw [aU7 rs n (bC4 rs n) r.pos 1 (by omega)];simp only [Pf.cnt]
def aE8 (b:FcV->Int->Option Pf):List FcV->Int->List Pf->Option (List Pf)
 | [],_,acc=>some acc
 | k :: r,left,acc=>match b k left with
  | some t=>aE8 b r (left - t.countF 200) (acc++[t])
  | none=>none
def aY5 (rs:List RV):Nat->FcV->Int->Option Pf
 | 0,_,_=>none
 | n+1,f,most=>if hgt rs f<1\/most<1 then none else match rlF rs f with
  | some r=>(match aE8 (aY5 rs n) r.pos (most - 1) [] with
   | some ks=>some (.mk f.1 r.clause (r.values.map V.tm) ks)
   | none=>none)
  | none=>none
theorem aW8 {b:FcV->Int->Option Pf} {T:FcV->Pf}:∀(l:List FcV) (left:Int) (acc:List Pf),left<=200->(∀k,k∈l->∀m:Int,m<=200->b k m=if ((T k).cnt:Int)<=m then some (T k) else none) ->
  aE8 b l left acc=if 0<=left/\(Pf.cnts (l.map T):Int)<=left\/l=[] then some (acc++l.map T) else none
 | [],left,acc,_,_=>by simp [aE8]
 | k :: l,left,acc,h,hb=>by
  rw [aE8,hb k (by simp) left h];have hp:=Pf.cnt_pos (T k);simp only [p_,Pf.cnts];by_cases hc:((T k).cnt:Int)<=left
  ·rw [if_pos hc]
   dsimp only;have h4:=(Pf.count_spec (T k) 200).2.2.1 (by omega);rw [h4,aW8 l _ _ (by omega) (fun x hx=>hb x (by simp [hx]))];by_cases hl:l=[]
   ·subst hl
    rw [if_pos (.inr rfl),if_pos (.inl ⟨by omega,by simp [Pf.cnts];omega⟩)];simp
   ·by_cases h2:(Pf.cnts (l.map T):Int)<=left - (T k).cnt
    ·rw [if_pos (.inl ⟨by omega,h2⟩),if_pos (.inl ⟨by omega,by omega⟩)]
     simp
    ·rw [if_neg (fun h=>h.elim (fun h=>h2 h.2) hl),if_neg (fun h=>h.elim (fun h=>by omega) (fun h=>by cases h))]
  ·rw [if_neg hc,if_neg (fun h=>h.elim (fun h=>by omega) (fun h=>by cases h))]
theorem bQ0 {rs:List RV} {n:Nat} {f:FcV} (hf:f∈stg rs n):f∈stg rs (top rs):=by
 rw [<-bG4] at hf;exact bC5 rs (Nat.min_le_right _ _) f hf
theorem I9 {rs:List RV} {f:FcV} (hf:f∈stg rs (top rs)):∃j,hgt rs f=(j+1:Nat)/\hN rs f=j+1/\j+1<=top rs/\f∈stg rs (j+1)/\∀k,f∈stg rs k->j+1<=k:=by
 obtain ⟨k1,k2,k3⟩:=ag9 (p:=fun k=>decide (f∈stg rs k)) (n:=top rs+1);have e:hgt rs f=(ax2 (fun k=>decide (f∈stg rs k)) (top rs+1):Int):=by unfold hgt;rw [if_pos hf]
 unfold hN;rw [e];generalize ax2 (fun k=>decide (f∈stg rs k)) (top rs+1)=j at k1 k2 k3;have hmin:∀k,f∈stg rs k->j<=k:=fun k hk=>by
  rcases Nat.lt_or_ge k j with e | e
  ·have:=k2 k e
   simp only [decide_eq_false_iff_not] at this;exact absurd hk this
  ·exact e
 have hjt:=hmin _ hf;have hin:f∈stg rs j:=of_decide_eq_true (k3 (by omega));cases j with
 | zero=>simp [stg] at hin
 | succ j=>exact ⟨j,rfl,rfl,hjt,hin,hmin⟩
theorem au6 {rs:List RV} {f:FcV} (hf:f∉stg rs (top rs)):hgt rs f=-1:=by unfold hgt;rw [if_neg hf]
theorem Z6 {rs:List RV} {f:FcV} (hf:f∈stg rs (top rs)):∃r,rlF rs f=some r/\r∈rs/\r.head=f/\∀k,k∈r.pos->k∈stg rs (top rs)/\hN rs k+1<=hN rs f/\k∈stg rs (hN rs f - 1):=by
 obtain ⟨j,_,h2,_,h4,_⟩:=I9 hf;have h5:f∈ab5 rs (stg rs j) []:=h4;obtain ⟨r0,r1,r2,r3⟩:=ah7.1 h5;unfold RV.fires at r2;simp only [d_] at r2;have hex:(rlF rs f).isSome=true:=by
  unfold rlF;rw [List.find?_isSome];refine ⟨r0,r1,?_⟩;rw [h2,d_,decide_eq_true_eq];exact ⟨r3,r2.1⟩
 obtain ⟨r,hr⟩:=Option.isSome_iff_exists.1 hex;have hp:=List.find?_some hr;have hm:=List.mem_of_find?_eq_some hr;simp only [d_,decide_eq_true_eq,E_] at hp;refine ⟨r,hr,hm,hp.1,fun k hk=>?_⟩;have h6:=hp.2 k hk;have h7:=bQ0 h6;obtain ⟨i,_,i2,_,_,i5⟩:=I9 h7;have:=i5 _ h6;exact ⟨h7,by omega,h6⟩
theorem aT3 (rs:List RV):∀(n:Nat) (f:FcV) (m:Int),f∈stg rs (top rs)->hN rs f<=n->m<=200->aY5 rs n f m=if ((prT rs n f).cnt:Int)<=m then some (prT rs n f) else none
 | 0,f,m,hf,h,_=>by obtain ⟨j,_,h2,_⟩:=I9 hf;omega
 | n + 1,f,m,hf,h,hm=>by
  obtain ⟨j,h1,_⟩:=I9 hf;obtain ⟨r,r1,_,_,r4⟩:=Z6 hf;have hp:=Pf.cnt_pos (prT rs (n+1) f);rw [aY5,r1];by_cases hc:hgt rs f<1\/m<1
  ·rw [if_pos hc,if_neg (by omega)]
  ·rw [if_neg hc]
   dsimp only;rw [aW8 (T:=prT rs n) r.pos (m - 1) [] (by omega) (fun k hk x hx=>by
    have:=r4 k hk;exact aT3 rs n k x this.1 (by omega) hx)]
   have e:prT rs (n+1) f=.mk f.1 r.clause (r.values.map V.tm) (r.pos.map (prT rs n)):=by rw [prT,r1]
   have hcn:(prT rs (n+1) f).cnt=1+Pf.cnts (r.pos.map (prT rs n)):=by rw [e];simp only [Pf.cnt]
   by_cases h2:0<=m - 1/\(Pf.cnts (r.pos.map (prT rs n)):Int)<=m - 1\/r.pos=[]
   ·rw [if_pos h2,if_pos (by
     rcases h2 with h2 | h2
     ·omega
     ·rw [hcn,h2];simp only [A_,Pf.cnts];omega),e]
    rfl
   ·rw [if_neg h2,if_neg (fun h3=>h2 (.inl ⟨by omega,by omega⟩))]
theorem bA9 (rs:List RV) (n:Nat) (f:FcV) (m:Int) (hf:f∉stg rs (top rs)):aY5 rs n f m=none:=by
 cases n with
 | zero=>rfl
 | succ n=>rw [aY5,if_pos (.inl (by rw [au6 hf];omega))]
theorem aW5 (rs:List RV):∀(n m:Nat) (f:FcV),f∈stg rs (top rs)->hN rs f<=n->n<=m->prT rs m f=prT rs n f
 | 0,m,f,hf,h,_=>by obtain ⟨j,_,h2,_⟩:=I9 hf;omega
 | n+1,0,f,_,_,h=>by omega
 | n+1,m+1,f,hf,h,hm=>by
  obtain ⟨r,r1,_,_,r4⟩:=Z6 hf;rw [prT,prT,r1];dsimp only;rw [G_ (l:=r.pos) (f:=prT rs m) (g:=prT rs n) (fun k hk=>by have:=r4 k hk;exact aW5 rs n m k this.1 (by omega) (by omega))]
def prF (rs:List RV) (f:FcV):Pf:=prT rs (top rs) f
def szF (rs:List RV) (f:FcV):Nat:=szT rs (top rs) f
theorem aU8 (rs:List RV) (f:FcV):szF rs f=min (prF rs f).cnt 201:=bC4 _ _ _
theorem bl9 {rs:List RV} {f:FcV} (hf:f∈stg rs (top rs)) {r:RV} (hr:rlF rs f=some r):prF rs f=.mk f.1 r.clause (r.values.map V.tm) (r.pos.map (prF rs)):=by
 obtain ⟨j,_,h2,h3,_⟩:=I9 hf;obtain ⟨r',r1,_,_,r4⟩:=Z6 hf;obtain rfl:r=r':=Option.some.inj (hr.symm.trans r1);unfold prF;obtain ⟨t,ht⟩:∃t,top rs=t+1:=⟨top rs - 1,by omega⟩;rw [ht,prT,hr];dsimp only;rw [G_ (l:=r.pos) (f:=prT rs t) (g:=prT rs (t+1)) (fun k hk=>by have:=r4 k hk;exact (aW5 rs t (t+1) k this.1 (by omega) (by omega)).symm)]
theorem bG1 {rs:List RV} {f:FcV} (hf:f∈stg rs (top rs)) {r:RV} (hr:rlF rs f=some r):szF rs f=r.pos.foldl (fun a k=>min (a+szF rs k) 201) 1:=by
 rw [aU8,bl9 hf hr];have key:∀(l:List FcV) (a:Nat),a<=201->l.foldl (fun a k=>min (a+szF rs k) 201) a=min (a+Pf.cnts (l.map (prF rs))) 201:=fun l=>by
  induction l with
  | nil=>intro a h;simp only [r_,A_,Pf.cnts];omega
  | cons k l ih =>
   intro a h;rw [F_,ih _ (by omega),aU8];simp only [p_,Pf.cnts];omega
 rw [key _ _ (by omega)];simp only [Pf.cnt]
def bw9 (rs:List RV) (f:FcV):Option Pf:=if f∈stg rs (top rs)/\(prF rs f).cnt<=200 then some (prF rs f) else none
theorem bA8 (rs:List RV) (f:FcV):aY5 rs (top rs) f 200=bw9 rs f:=by
 unfold bw9;by_cases hf:f∈stg rs (top rs)
 ·obtain ⟨j,_,h2,h3,_⟩:=I9 hf
  rw [aT3 rs _ f 200 hf (by omega) (by omega)];unfold prF;by_cases h:(prT rs (top rs) f).cnt<=200
  ·rw [if_pos (by omega),if_pos ⟨hf,h⟩]
  ·rw [if_neg (by omega),if_neg (fun x=>h x.2)]
 ·rw [bA9 rs _ f _ hf,if_neg (fun x=>hf x.1)]
theorem bl8 {rs:List RV} (hv:∀r,r∈rs->wtR (r.values.map V.enc)<=2000000/\r.head.1.length<=12):∀(n:Nat) (f:FcV),f∈stg rs (top rs)->hN rs f<=n->1+wtL (prT rs n f).enc<=(prT rs n f).cnt * 2000020
 | 0,f,hf,h=>by obtain ⟨j,_,h2,_⟩:=I9 hf;omega
 | n+1,f,hf,h=>by
  obtain ⟨r,r1,r2,r3,r4⟩:=Z6 hf;have h1:=hv r r2;rw [r3] at h1;rw [prT,r1];dsimp only;have key:∀l:List FcV,(∀k,k∈l->k∈r.pos)->wtR ((l.map (prT rs n)).map Pf.enc)<=Pf.cnts (l.map (prT rs n)) * 2000020:=fun l=>by
   induction l with
   | nil=>intro _;simp [wtR,Pf.cnts]
   | cons k l ih =>
    intro hl;have a1:=ih (fun x hx=>hl x (by simp [hx]));have a2:=r4 k (hl k (by simp));have a3:=bl8 hv n k a2.1 (by omega);simp only [p_,wtR,Pf.cnts];omega
  have h2:=key r.pos (fun k hk=>hk);have e:wtR ((r.values.map V.tm).map Tm.enc)=wtR (r.values.map V.enc):=by rw [List.map_map];rfl
  rw [Pf.enc_eq];simp only [Pf.rel,Pf.clause,Pf.values,Pf.kids,wtL,D.wt,Pf.cnt,e];omega
theorem bG9 {rs:List RV} (hv:∀r,r∈rs->wtR (r.values.map V.enc)<=2000000/\r.head.1.length<=12) {f:FcV} {t:Pf} (h:bw9 rs f=some t):wtL t.enc<=1000000000:=by
 unfold bw9 at h;split at h
 ·rename_i h2
  obtain rfl:=Option.some.inj h;obtain ⟨j,_,h3,h4,_⟩:=I9 h2.1;have:=bl8 hv (top rs) f h2.1 (by omega);have h5:(prT rs (top rs) f).cnt<=200:=h2.2;unfold prF;omega
 ·cases h
def bM8 (rs:List RV):Prop:=∀r,r∈rs->wtR (r.values.map V.enc)<=2000000/\r.head.1.length<=12/\r.pos.length<=60/\r.values.length<=12
theorem bM8.w {rs:List RV} (h:bM8 rs):∀r,r∈rs->wtR (r.values.map V.enc)<=2000000/\r.head.1.length<=12:=fun r hr=>⟨(h r hr).1,(h r hr).2.1⟩
def rlP (rs:List RV) (f:FcV) (r:RV):Bool:=decide (r.head=f) && r.pos.all fun k=>decide (k∈stg rs (hN rs f - 1))
theorem bl1 (rs:List RV) (f:FcV):rlF rs f=rs.find? (rlP rs f):=rfl
theorem bq3 (r:RV) (F:List FcV):r.fires F []=r.pos.all fun k=>decide (k∈F):=by
 unfold RV.fires;have:(r.neg.all fun f=>!decide (f∈([]:List FcV)))=true:=by simp
 rw [this,B_]
def MI (rs:List RV) (es:List (D×D)):Prop:=∀f,f∈stg rs (top rs)->∀v,ag2 es (.str (Fc.txt f.fc))=some v->v=.int .i64 (szF rs f)
theorem bU6 (rs:List RV):MI rs []:=fun f _ v h=>by cases h
theorem aK5 (a b:List UInt8) (v:D):∀es:List (D×D),ag2 (ak5 es (.str a) v) (.str b)=if a=b then some v else ag2 es (.str b)
 | []=>by
  by_cases h:a=b
  ·subst h;simp [ak5,ag2,kEq]
  ·have:¬b=a:=fun e=>h e.symm
   simp [ak5,ag2,kEq,h,this]
 | p :: r=>by
  have ih:=aK5 a b v r;obtain ⟨k,x⟩:=p;cases k with
  | str s =>
   by_cases h1:a=s
   ·subst h1
    by_cases h:a=b
    ·subst h;simp [ak5,ag2,kEq]
    ·have:¬b=a:=fun e=>h e.symm
     simp [ak5,ag2,kEq,h,this]
   ·by_cases h2:b=s
    ·subst h2
     simp [ak5,ag2,kEq,h1]
    ·simp [ak5,ag2,kEq,h1,h2,ih]
  | _=>simp [ak5,ag2,kEq,ih]
theorem bU5 {rs:List RV} {es:List (D×D)} (h:MI rs es) (hg:∀f,f∈stg rs (top rs)->f.good) {f:FcV} (hf:f∈stg rs (top rs)):MI rs (ak5 es (.str (Fc.txt f.fc)) (.int .i64 (szF rs f))):=fun g hgm v hv=>by
 rw [aK5] at hv;split at hv
 ·rename_i e
  obtain rfl:=FcV.txt_inj (hg f hf) (hg g hgm) e;exact (Option.some.inj hv).symm
 ·exact h g hgm v hv
end Go.Abs
namespace Go.Proofs
open Go.Shelf
def Tryz.laysM171_ren:Go.Shelf.Ren:=⟨fun | 171=>190 | 243=>204 | 246=>211 | 283=>213 | 284=>214 | 285=>215 | 286=>216 | 129=>202 | 317=>217 | 318=>218 | 319=>219 | 320=>220 | 337=>221 | 338=>222 | n=>n,fun | 3=>3 | 9=>9 | 2=>2 | 4=>4 | 171=>241 | 0=>0 | 53=>229 | 37=>114 | 5=>5 | 173=>243 | 212=>246 | 51=>227 | 20=>20 | 213=>247 | 46=>168 | 232=>248 | 233=>249 | n=>n,fun | 17=>0 | 18=>1 | 19=>2 | n=>n⟩
theorem Tryz.laysM171:Go.Proofs.LaysM.n171 Tryz.prog Tryz.laysM171_ren:={
  mixed:=by kernel_rfl
  f129:=Tryz.func202.trans (congrArg some (by kernel_rfl))
  f171:=Tryz.func190.trans (congrArg some (by kernel_rfl))
  f243:=Tryz.func204.trans (congrArg some (by kernel_rfl))
  f246:=Tryz.func211.trans (congrArg some (by kernel_rfl))
  f283:=Tryz.func213.trans (congrArg some (by kernel_rfl))
  f284:=Tryz.func214.trans (congrArg some (by kernel_rfl))
  f285:=Tryz.func215.trans (congrArg some (by kernel_rfl))
  f286:=Tryz.func216.trans (congrArg some (by kernel_rfl))
  f317:=Tryz.func217.trans (congrArg some (by kernel_rfl))
  f318:=Tryz.func218.trans (congrArg some (by kernel_rfl))
  f319:=Tryz.func219.trans (congrArg some (by kernel_rfl))
  f320:=Tryz.func220.trans (congrArg some (by kernel_rfl))
  f337:=Tryz.func221.trans (congrArg some (by kernel_rfl))
  f338:=Tryz.func222.trans (congrArg some (by kernel_rfl))
  t0:=Tryz.underlying0
  a0:=Tryz.isAgg0
  z0:=Tryz.sizeOf0
  v0:=Tryz.zeroValue0
  t2:=Tryz.underlying2
  a2:=Tryz.isAgg2
  z2:=Tryz.sizeOf2
  v2:=Tryz.zeroValue2
  t3:=Tryz.underlying3
  a3:=Tryz.isAgg3
  z3:=Tryz.sizeOf3
  v3:=Tryz.zeroValue3
  t4:=Tryz.underlying4
  a4:=Tryz.isAgg4
  z4:=Tryz.sizeOf4
  v4:=Tryz.zeroValue4
  t5:=Tryz.underlying5
  a5:=Tryz.isAgg5
  z5:=Tryz.sizeOf5
  v5:=Tryz.zeroValue5
  t9:=Tryz.underlying9
  a9:=Tryz.isAgg9
  z9:=Tryz.sizeOf9
  v9:=Tryz.zeroValue9
  t20:=Tryz.underlying20
  a20:=Tryz.isAgg20
  z20:=Tryz.sizeOf20
  v20:=Tryz.zeroValue20
  t37:=Tryz.underlying114
  a37:=Tryz.isAgg114
  z37:=Tryz.sizeOf114
  v37:=Tryz.zeroValue114
  t46:=Tryz.underlying168
  a46:=Tryz.isAgg168
  z46:=Tryz.sizeOf168
  v46:=Tryz.zeroValue168
  t51:=Tryz.underlying227
  a51:=Tryz.isAgg227
  z51:=Tryz.sizeOf227
  v51:=Tryz.zeroValue227
  t53:=Tryz.underlying229
  a53:=Tryz.isAgg229
  z53:=Tryz.sizeOf229
  v53:=Tryz.zeroValue229
  t171:=Tryz.underlying241
  a171:=Tryz.isAgg241
  z171:=Tryz.sizeOf241
  v171:=Tryz.zeroValue241
  t173:=Tryz.underlying243
  a173:=Tryz.isAgg243
  z173:=Tryz.sizeOf243
  v173:=Tryz.zeroValue243
  t212:=Tryz.underlying246
  a212:=Tryz.isAgg246
  z212:=Tryz.sizeOf246
  v212:=Tryz.zeroValue246
  t213:=Tryz.underlying247
  a213:=Tryz.isAgg247
  z213:=Tryz.sizeOf247
  t232:=Tryz.underlying248
  a232:=Tryz.isAgg248
  z232:=Tryz.sizeOf248
  v232:=Tryz.zeroValue248
  t233:=Tryz.underlying249
  a233:=Tryz.isAgg249
  z233:=Tryz.sizeOf249
  v233:=Tryz.zeroValue249
  g17:=by kernel_rfl
  g18:=by kernel_rfl
  g19:=by kernel_rfl
  i0:=by kernel_rfl
  i2:=by kernel_rfl
  i3:=by kernel_rfl
  i4:=by kernel_rfl
  i5:=by kernel_rfl
  i9:=by kernel_rfl
  i20:=by kernel_rfl
  i37:=by kernel_rfl
  i46:=by kernel_rfl
  i51:=by kernel_rfl
  i53:=by kernel_rfl
  i171:=by kernel_rfl
  i173:=by kernel_rfl
  i212:=by kernel_rfl
  i232:=by kernel_rfl
  i233:=by kernel_rfl
  m17:=by kernel_rfl
  m18:=by kernel_rfl
  m19:=by kernel_rfl }
open Go.RowKit Go.Sort Go.Lib in
/-- strconv.Itoa: "Itoa is equivalent to FormatInt(int64(i), 10).": i's DECIMAL NUMERAL ('Lib.itoa': a '-' where i is negative, then the digits), FOR EVERY int. The world behind the call: the world before it, new blocks behind the heap (the library's 'var a [24]byte'), draws. (LAID: no walk: one application.) -/
theorem Tryz.strconv_Itoa (n:Int) (h0:-9223372036854775808<=n) (h1:n<=9223372036854775807) (w:World) (htab:Lib.TabIs Tryz.prog w "internal/strconv.uint64pow10" .u64 Lib.pow10Tab) :
    Calls Tryz.prog 190 #[.int .i64 n] w fun e w'=>e=.returned (.string ⟨(Lib.itoa n).toArray⟩)/\∃k os,w'=grow (w.drewN k) os:=Any.strconv_Itoa Tryz.laysM171 n h0 h1 w htab
def Tryz.lays191_ren:Go.Shelf.Ren:=⟨fun | 191=>164 | 189=>183 | 125=>188 | 257=>187 | 128=>201 | 129=>202 | 294=>192 | 295=>193 | 296=>194 | 297=>195 | 298=>196 | 299=>197 | 216=>198 | 300=>199 | 301=>200 | 328=>205 | 329=>206 | 330=>207 | 331=>208 | 332=>209 | 215=>210 | 343=>212 | n=>n,fun | 28=>117 | 0=>0 | 3=>3 | 46=>168 | 51=>227 | 53=>229 | 4=>4 | 183=>221 | 182=>220 | 131=>110 | 5=>5 | 9=>9 | 218=>231 | 222=>235 | 228=>238 | 229=>239 | n=>n,fun | n=>n⟩
theorem Tryz.lays191:Go.Proofs.Lays.n191 Tryz.prog Tryz.lays191_ren:={
  mixed:=by kernel_rfl
  f125:=Tryz.func188.trans (congrArg some (by kernel_rfl))
  f128:=Tryz.func201.trans (congrArg some (by kernel_rfl))
  f129:=Tryz.func202.trans (congrArg some (by kernel_rfl))
  f189:=Tryz.func183.trans (congrArg some (by kernel_rfl))
  f191:=Tryz.func164.trans (congrArg some (by kernel_rfl))
  f215:=Tryz.func210.trans (congrArg some (by kernel_rfl))
  f216:=Tryz.func198.trans (congrArg some (by kernel_rfl))
  f257:=Tryz.func187.trans (congrArg some (by kernel_rfl))
  f294:=Tryz.func192.trans (congrArg some (by kernel_rfl))
  f295:=Tryz.func193.trans (congrArg some (by kernel_rfl))
  f296:=Tryz.func194.trans (congrArg some (by kernel_rfl))
  f297:=Tryz.func195.trans (congrArg some (by kernel_rfl))
  f298:=Tryz.func196.trans (congrArg some (by kernel_rfl))
  f299:=Tryz.func197.trans (congrArg some (by kernel_rfl))
  f300:=Tryz.func199.trans (congrArg some (by kernel_rfl))
  f301:=Tryz.func200.trans (congrArg some (by kernel_rfl))
  f328:=Tryz.func205.trans (congrArg some (by kernel_rfl))
  f329:=Tryz.func206.trans (congrArg some (by kernel_rfl))
  f330:=Tryz.func207.trans (congrArg some (by kernel_rfl))
  f331:=Tryz.func208.trans (congrArg some (by kernel_rfl))
  f332:=Tryz.func209.trans (congrArg some (by kernel_rfl))
  f343:=Tryz.func212.trans (congrArg some (by kernel_rfl))
  t0:=Tryz.underlying0
  a0:=Tryz.isAgg0
  z0:=Tryz.sizeOf0
  v0:=Tryz.zeroValue0
  t3:=Tryz.underlying3
  a3:=Tryz.isAgg3
  z3:=Tryz.sizeOf3
  v3:=Tryz.zeroValue3
  t4:=Tryz.underlying4
  a4:=Tryz.isAgg4
  z4:=Tryz.sizeOf4
  v4:=Tryz.zeroValue4
  t5:=Tryz.underlying5
  a5:=Tryz.isAgg5
  z5:=Tryz.sizeOf5
  v5:=Tryz.zeroValue5
  t9:=Tryz.underlying9
  a9:=Tryz.isAgg9
  z9:=Tryz.sizeOf9
  v9:=Tryz.zeroValue9
  t28:=Tryz.underlying117
  a28:=Tryz.isAgg117
  z28:=Tryz.sizeOf117
  v28:=Tryz.zeroValue117
  t46:=Tryz.underlying168
  a46:=Tryz.isAgg168
  z46:=Tryz.sizeOf168
  v46:=Tryz.zeroValue168
  t51:=Tryz.underlying227
  a51:=Tryz.isAgg227
  z51:=Tryz.sizeOf227
  v51:=Tryz.zeroValue227
  t53:=Tryz.underlying229
  a53:=Tryz.isAgg229
  z53:=Tryz.sizeOf229
  v53:=Tryz.zeroValue229
  t131:=Tryz.underlying110
  a131:=Tryz.isAgg110
  z131:=Tryz.sizeOf110
  v131:=Tryz.zeroValue110
  t182:=Tryz.underlying220
  a182:=Tryz.isAgg220
  z182:=Tryz.sizeOf220
  v182:=Tryz.zeroValue220
  t183:=Tryz.underlying221
  a183:=Tryz.isAgg221
  z183:=Tryz.sizeOf221
  v183:=Tryz.zeroValue221
  t218:=Tryz.underlying231
  a218:=Tryz.isAgg231
  z218:=Tryz.sizeOf231
  v218:=Tryz.zeroValue231
  t222:=Tryz.underlying235
  a222:=Tryz.isAgg235
  z222:=Tryz.sizeOf235
  v222:=Tryz.zeroValue235
  t228:=Tryz.underlying238
  a228:=Tryz.isAgg238
  z228:=Tryz.sizeOf238
  v228:=Tryz.zeroValue238
  t229:=Tryz.underlying239
  a229:=Tryz.isAgg239
  z229:=Tryz.sizeOf239
  v229:=Tryz.zeroValue239 }
open Go.Sort Go.RowKit in
theorem Tryz.sort_Ints (blk off cap:Nat) (zs:List Int) (w:World) (hH:Holds (Value.int .i64) w blk off zs.toArray) (hblk:blk<w.heap.size) (hsz:zs.length<4611686018427387904) :
    Calls Tryz.prog 164 #[.slice (some ⟨blk,off,none⟩) zs.length cap] w fun e w' =>
      e=.returned (.tuple #[])/\∃n os,w'=grow (putRow (Value.int .i64) (Sort.ahead w n) blk off (zs.mergeSort fun x y=>decide (x<=y)).toArray) os:=Any.sort_Ints Tryz.lays191 blk off cap zs w hH hblk hsz
def Tryz.laysGt8_ren:Go.Shelf.Ren:=⟨fun | 8=>134 | 13=>160 | 14=>161 | 16=>163 | 15=>162 | 29=>181 | 30=>182 | 42=>186 | 49=>191 | n=>n,fun | 20=>20 | 26=>167 | 36=>190 | 0=>0 | 38=>192 | 42=>196 | 3=>3 | 4=>4 | 47=>168 | 17=>17 | 33=>187 | 34=>188 | 89=>261 | 12=>12 | 56=>227 | 82=>255 | 5=>5 | 83=>256 | 84=>257 | 85=>216 | 86=>258 | 87=>259 | n=>n,fun | n=>n⟩
theorem Tryz.laysGt8:Go.Proofs.LaysGt.n8 Tryz.prog Tryz.laysGt8_ren:={
  mixed:=by kernel_rfl
  f8:=Tryz.func134.trans (congrArg some (by kernel_rfl))
  f13:=Tryz.func160.trans (congrArg some (by kernel_rfl))
  f14:=Tryz.func161.trans (congrArg some (by kernel_rfl))
  f15:=Tryz.func162.trans (congrArg some (by kernel_rfl))
  f16:=Tryz.func163.trans (congrArg some (by kernel_rfl))
  f29:=Tryz.func181.trans (congrArg some (by kernel_rfl))
  f30:=Tryz.func182.trans (congrArg some (by kernel_rfl))
  f42:=Tryz.func186.trans (congrArg some (by kernel_rfl))
  f49:=Tryz.func191.trans (congrArg some (by kernel_rfl))
  t0:=Tryz.underlying0
  a0:=Tryz.isAgg0
  z0:=Tryz.sizeOf0
  v0:=Tryz.zeroValue0
  i0:=by kernel_rfl
  t3:=Tryz.underlying3
  a3:=Tryz.isAgg3
  z3:=Tryz.sizeOf3
  v3:=Tryz.zeroValue3
  i3:=by kernel_rfl
  t4:=Tryz.underlying4
  a4:=Tryz.isAgg4
  z4:=Tryz.sizeOf4
  v4:=Tryz.zeroValue4
  i4:=by kernel_rfl
  t5:=Tryz.underlying5
  a5:=Tryz.isAgg5
  z5:=Tryz.sizeOf5
  v5:=Tryz.zeroValue5
  i5:=by kernel_rfl
  t12:=Tryz.underlying12
  a12:=Tryz.isAgg12
  z12:=Tryz.sizeOf12
  v12:=Tryz.zeroValue12
  i12:=by kernel_rfl
  t17:=Tryz.underlying17
  a17:=Tryz.isAgg17
  z17:=Tryz.sizeOf17
  v17:=Tryz.zeroValue17
  i17:=by kernel_rfl
  t20:=Tryz.underlying20
  a20:=Tryz.isAgg20
  z20:=Tryz.sizeOf20
  v20:=Tryz.zeroValue20
  i20:=by kernel_rfl
  t26:=Tryz.underlying167
  a26:=Tryz.isAgg167
  z26:=Tryz.sizeOf167
  v26:=Tryz.zeroValue167
  i26:=by kernel_rfl
  t33:=Tryz.underlying187
  a33:=Tryz.isAgg187
  z33:=Tryz.sizeOf187
  v33:=Tryz.zeroValue187
  i33:=by kernel_rfl
  t34:=Tryz.underlying188
  a34:=Tryz.isAgg188
  z34:=Tryz.sizeOf188
  v34:=Tryz.zeroValue188
  i34:=by kernel_rfl
  t36:=Tryz.underlying190
  a36:=Tryz.isAgg190
  z36:=Tryz.sizeOf190
  v36:=Tryz.zeroValue190
  i36:=by kernel_rfl
  t38:=Tryz.underlying192
  a38:=Tryz.isAgg192
  z38:=Tryz.sizeOf192
  v38:=Tryz.zeroValue192
  i38:=by kernel_rfl
  t42:=Tryz.underlying196
  a42:=Tryz.isAgg196
  z42:=Tryz.sizeOf196
  v42:=Tryz.zeroValue196
  i42:=by kernel_rfl
  t47:=Tryz.underlying168
  a47:=Tryz.isAgg168
  z47:=Tryz.sizeOf168
  v47:=Tryz.zeroValue168
  i47:=by kernel_rfl
  t56:=Tryz.underlying227
  a56:=Tryz.isAgg227
  z56:=Tryz.sizeOf227
  v56:=Tryz.zeroValue227
  i56:=by kernel_rfl
  t82:=Tryz.underlying255
  a82:=Tryz.isAgg255
  z82:=Tryz.sizeOf255
  v82:=Tryz.zeroValue255
  i82:=by kernel_rfl
  t83:=Tryz.underlying256
  a83:=Tryz.isAgg256
  z83:=Tryz.sizeOf256
  v83:=Tryz.zeroValue256
  i83:=by kernel_rfl
  t84:=Tryz.underlying257
  a84:=Tryz.isAgg257
  z84:=Tryz.sizeOf257
  v84:=Tryz.zeroValue257
  i84:=by kernel_rfl
  t85:=Tryz.underlying216
  a85:=Tryz.isAgg216
  z85:=Tryz.sizeOf216
  v85:=Tryz.zeroValue216
  i85:=by kernel_rfl
  t86:=Tryz.underlying258
  a86:=Tryz.isAgg258
  z86:=Tryz.sizeOf258
  v86:=Tryz.zeroValue258
  i86:=by kernel_rfl
  t87:=Tryz.underlying259
  a87:=Tryz.isAgg259
  z87:=Tryz.sizeOf259
  v87:=Tryz.zeroValue259
  i87:=by kernel_rfl
  t89:=Tryz.underlying261
  a89:=Tryz.isAgg261
  z89:=Tryz.sizeOf261
  v89:=Tryz.zeroValue261
  i89:=by kernel_rfl }
open Go.RowKit Go.Sort in
/-- .. and plain. (LAID: no walk: one application.) -/
theorem Tryz.sort_Ints_none (p:Option Addr) (cap:Nat) (w:World) :
    Calls Tryz.prog 164 #[.slice p 0 cap] w fun e w'=>e=.returned (.tuple #[])/\w'=w:=Any.sort_Ints_none Tryz.lays191 p cap w
end Go.Proofs
namespace Go.Proofs.YtancdeoodnpimaaGreatDoor
open Go.Abs
set_option maxRecDepth 100000
set_option maxHeartbeats 4000000
theorem wrapN {x:Int} (n:Nat) (e:x=n) (h:n<=9223372036854775807):IntKind.i64.wrap x=(n:Int):=by
 rw [e];exact j6 (by omega) (by omega)
section
variable {α:Type} {g sf:FuncId} {cs ds:List C} {n m:Nat} {Hs:(Nat->α)->List O} {lt:α->α->Bool}
theorem ae8 (h:Srtr Tryz.prog g cs sf ds n m Hs lt) (hn:n<4611686018427387904) (a b k:Nat) (f:Nat->α) (h1:a+k<=b) (h2:b+k<=n) :
  ACalls Tryz.prog 191 [.agg [.fn g cs,.xfn sf ds],.d (.int .i64 a),.d (.int .i64 b),.d (.int .i64 k)] (Hs f) (fun c H'=>c=.tup []/\H'=Hs (srx a b k f)):=by
 refine aE_ Tryz.func191 ?_;refine rS_ Tryz.func191 ?_;simp only [go_sem,seval,h.len,h.gog,h.at0,h.atj,h.set0,h.setj,h.tk,h.tk0,h.tkj,h.refs,h.refsj,h.hcaps,h.capsj,h.hcaps2,h.capsj2,a_];refine AW.lp [1,2,3,4] (fun i:Nat=>[(8,.d (.int .i64 (i:Int)))]) (fun _ i=>Hs (srx a b i f)++[.box [.fn g cs,.xfn sf ds]]) (fun i=>i<=k) (fun i=>k - i) 0 (s_ _) (by rw [bQ2];exact by refine ⟨by simp [mkS,h.len],by simp only [mkS,e_,h_,l_,h.len,h.tkj,h.tk0,h.tk];first | done | rfl | (simp;done),by simp [mkS,O.refsLt,C.refsLt,C.refsLt1,h.len,h.refs,h.refsj,h.hcaps,h.capsj,h.hcaps2,h.capsj2,l8,O4,-List.all_eq_true],?_⟩;simp [mkS,Abs.get,C.refsLtT,C.refsLt,C.refsLt1,h.len,h.hcaps,h.capsj,h.hcaps2,h.capsj2,-List.all_eq_true]) ?_;intro i hi hnext;by_cases hc:i<k
 ·have n1:(i:Int)<(k:Int):=by omega
  have w1:IntKind.i64.wrap ((a:Int)+(i:Int))=((a+i:Nat):Int):=wrapN _ (by omega) (by omega);have w2:IntKind.i64.wrap ((b:Int)+(i:Int))=((b+i:Nat):Int):=wrapN _ (by omega) (by omega);have w3:IntKind.i64.wrap ((i:Int)+1)=((i+1:Nat):Int):=wrapN _ (by omega) (by omega);have hs:=h.swap (srx a b i f) [.box [.fn g cs,.xfn sf ds]] (a+i) (b+i) (by omega) (by omega);rw [bQ1 a b i f (by omega)] at hs;refine rS_ Tryz.func191 ?_;simp only [go_sem,seval,n1,w1,w2,w3,h.len,h.gog,h.at0,h.atj,h.set0,h.setj,h.tk,h.tk0,h.tkj,h.refs,h.refsj,h.hcaps,h.capsj,h.hcaps2,h.capsj2,a_]
  repeat' (first
   | ((refine hs.mono ?_<;>(rintro c H' ⟨rfl,rfl⟩))<;>(try simp only [go_sem,seval,n1,w1,w2,w3,h.len,h.gog,h.at0,h.atj,h.set0,h.setj,h.tk,h.tk0,h.tkj,h.refs,h.refsj,h.hcaps,h.capsj,h.hcaps2,h.capsj2,a_]))
   | fail)
  all_goals refine hnext (i+1) _ (by omega) (by omega) ag3
 ·have n1:¬(i:Int)<(k:Int):=by omega
  obtain rfl:i=k:=by omega
  refine rS_ Tryz.func191 ?_;simp only [go_sem,seval,n1,h.len,h.gog,h.at0,h.atj,h.set0,h.setj,h.tk,h.tk0,h.tkj,h.refs,h.refsj,h.hcaps,h.capsj,h.hcaps2,h.capsj2,a_]
theorem ac1 (h:Srtr Tryz.prog g cs sf ds n m Hs lt) (hw:Wk lt) (hn:n<4611686018427387904) (a b:Nat) (f:Nat->α) (hab:a<=b) (hb:b<=n) :
  ACalls Tryz.prog 181 [.agg [.fn g cs,.xfn sf ds],.d (.int .i64 a),.d (.int .i64 b)] (Hs f) (fun c H'=>c=.tup []/\∃f',Mv n a b f f'/\srt lt f' a b/\H'=Hs f'):=by
 have w0:IntKind.i64.wrap ((a:Int)+1)=((a+1:Nat):Int):=wrapN _ (by omega) (by omega);refine aE_ Tryz.func181 ?_;refine rS_ Tryz.func181 ?_;simp only [go_sem,seval,h.len,h.gog,h.at0,h.atj,h.set0,h.setj,h.tk,h.tk0,h.tkj,h.refs,h.refsj,h.hcaps,h.capsj,h.hcaps2,h.capsj2,a_,w0];refine AW.lp [1,2,3] (fun u:Nat×(Nat->α)=>[(6,.d (.int .i64 (u.1:Int)))]) (fun _ u=>Hs u.2++[.box [.fn g cs,.xfn sf ds]]) (fun u=>a<u.1/\(u.1<=b\/u.1=a+1)/\Mv n a b f u.2/\srt lt u.2 a u.1) (fun u=>b - u.1) (a+1,f) ⟨by dsimp only;omega,.inr rfl,Mv.refl _ _ _ _,aO7 _ _ _ (b_ _)⟩ ag3 ?_;rintro ⟨i,f1⟩ ⟨h1,h2,h3,h4⟩ hnext;dsimp only at h1 h2 h3 h4 hnext |-;have hnx:=fun i' f' s'=>hnext (i',f') s';clear hnext;by_cases hc:i<b
 ·have n1:(i:Int)<(b:Int):=by omega
  have w3:IntKind.i64.wrap ((i:Int)+1)=((i+1:Nat):Int):=wrapN _ (by omega) (by omega);refine rS_ Tryz.func181 ?_;simp only [go_sem,seval,n1,h.len,h.gog,h.at0,h.atj,h.set0,h.setj,h.tk,h.tk0,h.tkj,h.refs,h.refsj,h.hcaps,h.capsj,h.hcaps2,h.capsj2,a_];refine AW.lp [1,2,3,6] (fun u:Nat×(Nat->α)=>[(7,.d (.int .i64 (u.1:Int)))]) (fun _ u=>Hs u.2++[.box [.fn g cs,.xfn sf ds]]) (fun u=>a<=u.1/\u.1<=i/\Mv n a b f u.2/\bS5 lt u.2 a u.1 i) (fun u=>u.1) (i,f1) ⟨by dsimp only;omega,b_ _,h3,bS4 h4⟩ ag3 ?_;rintro ⟨j,f2⟩ ⟨j1,j2,j3,j4⟩ hnext;dsimp only at j1 j2 j3 j4 hnext |-;have hny:=fun i' f' s'=>hnext (i',f') s';clear hnext;by_cases hj:a<j
  ·have n2:(a:Int)<(j:Int):=by omega
   have w1:IntKind.i64.wrap ((j:Int) - 1)=((j - 1:Nat):Int):=wrapN _ (by omega) (by omega);have hl:=h.less f2 [.box [.fn g cs,.xfn sf ds]] j (j - 1) (by omega) (by omega);have hs:=h.swap f2 [.box [.fn g cs,.xfn sf ds]] j (j - 1) (by omega) (by omega);cases hlt:lt (f2 j) (f2 (j - 1)) with
   | true =>
    rw [hlt] at hl;refine rS_ Tryz.func181 ?_;simp only [go_sem,seval,n2,w1,h.len,h.gog,h.at0,h.atj,h.set0,h.setj,h.tk,h.tk0,h.tkj,h.refs,h.refsj,h.hcaps,h.capsj,h.hcaps2,h.capsj2,a_]
    repeat' (first
     | ((first
      | (refine hl.mono ?_<;>(rintro c H' ⟨rfl,rfl⟩))
      | (refine hs.mono ?_<;>(rintro c H' ⟨rfl,rfl⟩)))<;>(try simp only [go_sem,seval,n2,w1,h.len,h.gog,h.at0,h.atj,h.set0,h.setj,h.tk,h.tk0,h.tkj,h.refs,h.refsj,h.hcaps,h.capsj,h.hcaps2,h.capsj2,a_]))
     | fail)
    all_goals refine hny (j - 1) _ _ ⟨by omega,by omega,j3.trans (.swp _ hb (by omega) (by omega) (by omega) (by omega)),bS3 hw j4 hj j2 hlt⟩ (by omega) ag3
   | false =>
    rw [hlt] at hl;have he:=aW9 hw j4 j1 j2 (.inr hlt);refine rS_ Tryz.func181 ?_;simp only [go_sem,seval,n2,w1,h.len,h.gog,h.at0,h.atj,h.set0,h.setj,h.tk,h.tk0,h.tkj,h.refs,h.refsj,h.hcaps,h.capsj,h.hcaps2,h.capsj2,a_]
    repeat' (first
     | ((refine hl.mono ?_<;>(rintro c H' ⟨rfl,rfl⟩))<;>(try simp only [go_sem,seval,n2,w1,w3,h.len,h.gog,h.at0,h.atj,h.set0,h.setj,h.tk,h.tk0,h.tkj,h.refs,h.refsj,h.hcaps,h.capsj,h.hcaps2,h.capsj2,a_]))
     | fail)
    all_goals refine hnx (i+1) f2 _ ⟨by omega,.inl (by omega),j3,he⟩ (by omega) ag3
  ·have n2:¬(a:Int)<(j:Int):=by omega
   have he:=aW9 hw j4 j1 j2 (.inl (by omega));refine rS_ Tryz.func181 ?_;simp only [go_sem,seval,n2,h.len,h.gog,h.at0,h.atj,h.set0,h.setj,h.tk,h.tk0,h.tkj,h.refs,h.refsj,h.hcaps,h.capsj,h.hcaps2,h.capsj2,a_]
   repeat' (first
    | (simp (disch:=omega) only [j6])
    | fail)
   all_goals refine hnx (i+1) f2 _ ⟨by omega,.inl (by omega),j3,he⟩ (by omega) ag3
 ·have n1:¬(i:Int)<(b:Int):=by omega
  refine rS_ Tryz.func181 ?_;simp only [go_sem,seval,n1,h.len,h.gog,h.at0,h.atj,h.set0,h.setj,h.tk,h.tk0,h.tkj,h.refs,h.refsj,h.hcaps,h.capsj,h.hcaps2,h.capsj2,a_]
  repeat' (first
   | ((first
    | (refine ⟨sd,?_⟩)
    | (refine ⟨by assumption,?_⟩))<;>(try simp only [go_sem,seval,n1,h.len,h.gog,h.at0,h.atj,h.set0,h.setj,h.tk,h.tk0,h.tkj,h.refs,h.refsj,h.hcaps,h.capsj,h.hcaps2,h.capsj2,a_]))
   | fail)
  all_goals exact p8 h4 (b_ _) (by omega)
theorem aV9 (h:Srtr Tryz.prog g cs sf ds n m Hs lt) (hn:n<4611686018427387904) (a c b:Nat) (f:Nat->α) (h1:a<c) (h2:c<b) (hb:b<=n) :
  ACalls Tryz.prog 186 [.agg [.fn g cs,.xfn sf ds],.d (.int .i64 a),.d (.int .i64 c),.d (.int .i64 b)] (Hs f) (fun r H'=>r=.tup []/\Mv n a b f (rot a c b f)/\H'=Hs (rot a c b f)):=by
 have hX:=h.ext [.box [.fn g cs,.xfn sf ds]] (by simp [O.refsLt,C.refsLt,h.capsj,h.capsj2,-List.all_eq_true]);have w1:IntKind.i64.wrap ((c:Int) - (a:Int))=((c - a:Nat):Int):=wrapN _ (by omega) (by omega);have w2:IntKind.i64.wrap ((b:Int) - (c:Int))=((b - c:Nat):Int):=wrapN _ (by omega) (by omega);refine aE_ Tryz.func186 ?_;refine rS_ Tryz.func186 ?_;simp only [go_sem,seval,h.len,h.gog,h.at0,h.atj,h.set0,h.setj,h.tk,h.tk0,h.tkj,h.refs,h.refsj,h.hcaps,h.capsj,h.hcaps2,h.capsj2,a_,w1,w2];refine AW.lp [2,4] (fun u:Nat×Nat×(Nat->α)=>[(8,.d (.int .i64 (u.1:Int))),(9,.d (.int .i64 (u.2.1:Int)))]) (fun _ u=>Hs u.2.2++[.box [.fn g cs,.xfn sf ds]]) (fun u=>0<u.1/\0<u.2.1/\u.1<=c - a/\u.2.1<=b - c/\Mv n a b f u.2.2/\rot (c - u.1) c (c+u.2.1) u.2.2=rot a c b f) (fun u=>u.1+u.2.1) (c - a,b - c,f) ⟨by dsimp only;omega,by dsimp only;omega,b_ _,b_ _,Mv.refl _ _ _ _,by dsimp only;rw [show c - (c - a)=a by omega,show c+(b - c)=b by omega]⟩ ag3 ?_;rintro ⟨i,j,f1⟩ ⟨i1,i2,i3,i4,i5,i6⟩ hnext;dsimp only at i1 i2 i3 i4 i5 i6 hnext |-;have hnx:=fun i' j' f' s'=>hnext (i',j',f') s';clear hnext;have v1:IntKind.i64.wrap ((c:Int) - (i:Int))=((c - i:Nat):Int):=wrapN _ (by omega) (by omega);have v2:IntKind.i64.wrap ((c:Int)+(j:Int))=((c+j:Nat):Int):=wrapN _ (by omega) (by omega);rcases Nat.lt_trichotomy i j with hij | hij | hij
 ·have n1:¬(i:Int)=(j:Int):=by omega
  have n2:¬(j:Int)<(i:Int):=by omega
  have v3:IntKind.i64.wrap ((c:Int)+(j:Int) - (i:Int))=((c+j - i:Nat):Int):=wrapN _ (by omega) (by omega);have v4:IntKind.i64.wrap ((j:Int) - (i:Int))=((j - i:Nat):Int):=wrapN _ (by omega) (by omega);have hs:=ae8 hX hn (c - i) (c+j - i) i f1 (by omega) (by omega);have hm:=aV3 n (c - i) (c+j - i) f1 i (by omega) (by omega);have nb:((i:Int) != (j:Int))=true:=by simp;omega
  refine rS_ Tryz.func186 ?_;simp only [go_sem,seval,nb,n2,v1,v2,v3,v4,h.len,h.gog,h.at0,h.atj,h.set0,h.setj,h.tk,h.tk0,h.tkj,h.refs,h.refsj,h.hcaps,h.capsj,h.hcaps2,h.capsj2,a_]
  repeat' (first
   | ((refine hs.mono ?_<;>(rintro c H' ⟨rfl,rfl⟩))<;>(try simp only [go_sem,seval,nb,n2,v1,v2,v3,v4,h.len,h.gog,h.at0,h.atj,h.set0,h.setj,h.tk,h.tk0,h.tkj,h.refs,h.refsj,h.hcaps,h.capsj,h.hcaps2,h.capsj2,a_]))
   | fail)
  all_goals refine hnx i (j - i) (srx (c - i) (c+j - i) i f1) _ ⟨i1,by dsimp only;omega,i3,by dsimp only;omega,i5.trans (hm.mono (by omega) (by omega)),?_⟩ (by dsimp only;omega) ag3
  all_goals (rw [bQ5 c i j f1 hij (by omega) i1];exact i6)
 ·subst hij
  have hs:=ae8 hX hn (c - i) c i f1 (by omega) (by omega);have hm:=aV3 n (c - i) c f1 i (by omega) (by omega);rw [bQ7 c i f1 (by omega),i6] at hs hm;refine rS_ Tryz.func186 ?_;simp only [go_sem,seval,v1,h.len,h.gog,h.at0,h.atj,h.set0,h.setj,h.tk,h.tk0,h.tkj,h.refs,h.refsj,h.hcaps,h.capsj,h.hcaps2,h.capsj2,a_]
  repeat' (first
   | ((refine hs.mono ?_<;>(rintro c H' ⟨rfl,rfl⟩))<;>(try simp only [go_sem,seval,v1,h.len,h.gog,h.at0,h.atj,h.set0,h.setj,h.tk,h.tk0,h.tkj,h.refs,h.refsj,h.hcaps,h.capsj,h.hcaps2,h.capsj2,a_]))
   | fail)
  all_goals exact i5.trans (hm.mono (by omega) (by omega))
 ·have n1:¬(i:Int)=(j:Int):=by omega
  have n2:(j:Int)<(i:Int):=by omega
  have v4:IntKind.i64.wrap ((i:Int) - (j:Int))=((i - j:Nat):Int):=wrapN _ (by omega) (by omega);have hs:=ae8 hX hn (c - i) c j f1 (by omega) (by omega);have hm:=aV3 n (c - i) c f1 j (by omega) (by omega);have nb:((i:Int) != (j:Int))=true:=by simp;omega
  refine rS_ Tryz.func186 ?_;simp only [go_sem,seval,nb,n2,v1,v4,h.len,h.gog,h.at0,h.atj,h.set0,h.setj,h.tk,h.tk0,h.tkj,h.refs,h.refsj,h.hcaps,h.capsj,h.hcaps2,h.capsj2,a_]
  repeat' (first
   | ((refine hs.mono ?_<;>(rintro c H' ⟨rfl,rfl⟩))<;>(try simp only [go_sem,seval,nb,n2,v1,v4,h.len,h.gog,h.at0,h.atj,h.set0,h.setj,h.tk,h.tk0,h.tkj,h.refs,h.refsj,h.hcaps,h.capsj,h.hcaps2,h.capsj2,a_]))
   | fail)
  all_goals refine hnx (i - j) j (srx (c - i) c j f1) _ ⟨by dsimp only;omega,i2,by dsimp only;omega,i4,i5.trans (hm.mono (by omega) (by omega)),?_⟩ (by dsimp only;omega) ag3
  all_goals (rw [bQ6 c i j f1 hij (by omega) i2];exact i6)
end
set_option maxHeartbeats 8000000
theorem be5 (x y:Nat) (h:x+y<9223372036854775808):IntKind.i64.wrap (bM7 .u64 (IntKind.u64.wrap ((x:Int)+(y:Int))) 1)=(((x+y) / 2:Nat):Int):=by
 have h1:IntKind.u64.wrap ((x:Int)+(y:Int))=(x:Int)+(y:Int):=by
  unfold IntKind.wrap;simp [IntKind.bits,IntKind.signed];omega
 rw [h1];unfold bM7;have h2:((x:Int)+(y:Int)).fdiv (2 ^ (min (1:Int).toNat IntKind.u64.bits))=(((x+y) / 2:Nat):Int):=by
  show ((x:Int)+(y:Int)).fdiv 2=_;rw [Int.fdiv_eq_ediv_of_nonneg _ (by omega)];omega
 rw [h2];exact wrapN _ rfl (by omega)
section
variable {α:Type} {g sf:FuncId} {cs ds:List C} {n:Nat} {lt:α->α->Bool}
theorem ay8 (hw:Wk lt) (hn:n<4611686018427387904):∀(k m:Nat) (Hs:(Nat->α)->List O) (h:Srtr Tryz.prog g cs sf ds n m Hs lt) (a c b:Nat) (f:Nat->α),b - a<=k->a<c->c<b->b<=n->srt lt f a c->srt lt f c b ->
  ACalls Tryz.prog 182 [.agg [.fn g cs,.xfn sf ds],.d (.int .i64 a),.d (.int .i64 c),.d (.int .i64 b)] (Hs f) (fun r H'=>r=.tup []/\∃f',Mv n a b f f'/\srt lt f' a b/\H'=Hs f'):=by
 intro k;induction k with
 | zero=>intro m Hs h a c b f hk h1 h2;omega
 | succ k ih =>
 intro m Hs h a c b f hk h1 h2 hb hs1 hs2;have hX:=h.ext [.box [.fn g cs,.xfn sf ds]] (by simp [O.refsLt,C.refsLt,h.capsj,h.capsj2,-List.all_eq_true]);by_cases c1:c=a+1
 ·
  have w1:IntKind.i64.wrap ((c:Int) - (a:Int))=1:=by rw [show (c:Int) - a=1 by omega];decide
  refine aE_ Tryz.func182 ?_;refine rS_ Tryz.func182 ?_;simp only [go_sem,seval,h.len,h.gog,h.at0,h.atj,h.set0,h.setj,h.tk,h.tk0,h.tkj,h.refs,h.refsj,h.hcaps,h.capsj,h.hcaps2,h.capsj2,a_,w1];refine AW.lp [1,4] (fun u:Nat×Nat=>[(8,.d (.int .i64 (u.1:Int))),(9,.d (.int .i64 (u.2:Int)))]) (fun H _=>H) (fun u=>c<=u.1/\u.1<=u.2/\u.2<=b/\(∀x,c<=x->x<u.1->lt (f x) (f a)=true)/\(∀x,u.2<=x->x<b->lt (f x) (f a)=false)) (fun u=>u.2 - u.1) (c,b) ⟨b_ _,by dsimp only;omega,b_ _,fun x hx hx'=>by dsimp only at hx';omega,fun x hx hx'=>by dsimp only at hx;omega⟩ ag3 ?_;rintro ⟨i,j⟩ ⟨i1,i2,i3,i4,i5⟩ hnext;dsimp only at i1 i2 i3 i4 i5 hnext |-;have hnx:=fun i' j' s'=>hnext (i',j') s';clear hnext;by_cases hij:i<j
  ·have n1:(i:Int)<(j:Int):=by omega
   have hh:=be5 i j (by omega);have w2:IntKind.i64.wrap ((i:Int)+(j:Int))=(i:Int)+(j:Int):=j6 (by omega) (by omega);have hl:=h.less f [.box [.fn g cs,.xfn sf ds]] ((i+j) / 2) a (by omega) (by omega);have w3:IntKind.i64.wrap ((((i+j) / 2:Nat):Int)+1)=(((i+j) / 2+1:Nat):Int):=wrapN _ (by omega) (by omega);cases hlt:lt (f ((i+j) / 2)) (f a) with
   | true =>
    rw [hlt] at hl;refine rS_ Tryz.func182 ?_;simp only [go_sem,seval,n1,w2,hh,h.len,h.gog,h.at0,h.atj,h.set0,h.setj,h.tk,h.tk0,h.tkj,h.refs,h.refsj,h.hcaps,h.capsj,h.hcaps2,h.capsj2,a_]
    repeat' (first
     | ((refine hl.mono ?_<;>(rintro c H' ⟨rfl,rfl⟩))<;>(try simp only [go_sem,seval,n1,w2,hh,w3,h.len,h.gog,h.at0,h.atj,h.set0,h.setj,h.tk,h.tk0,h.tkj,h.refs,h.refsj,h.hcaps,h.capsj,h.hcaps2,h.capsj2,a_]))
     | fail)
    refine hnx ((i+j) / 2+1) j _ ⟨by dsimp only;omega,by dsimp only;omega,i3,fun x hx hx'=>?_,i5⟩ (by dsimp only;omega) ag3;exact bD0 hw (am5 hw hs2 hx (by dsimp only at hx';omega) (by omega)) hlt
   | false =>
    rw [hlt] at hl;refine rS_ Tryz.func182 ?_;simp only [go_sem,seval,n1,w2,hh,h.len,h.gog,h.at0,h.atj,h.set0,h.setj,h.tk,h.tk0,h.tkj,h.refs,h.refsj,h.hcaps,h.capsj,h.hcaps2,h.capsj2,a_]
    repeat' (first
     | ((refine hl.mono ?_<;>(rintro c H' ⟨rfl,rfl⟩))<;>(try simp only [go_sem,seval,n1,w2,hh,w3,h.len,h.gog,h.at0,h.atj,h.set0,h.setj,h.tk,h.tk0,h.tkj,h.refs,h.refsj,h.hcaps,h.capsj,h.hcaps2,h.capsj2,a_]))
     | fail)
    refine hnx i ((i+j) / 2) _ ⟨i1,by dsimp only;omega,by dsimp only;omega,i4,fun x hx hx'=>?_⟩ (by dsimp only;omega) ag3;exact hw.tr _ _ _ hlt (am5 hw hs2 (by omega) hx hx')
  ·have n1:¬(i:Int)<(j:Int):=by omega
   obtain rfl:i=j:=by omega
   have w2:IntKind.i64.wrap ((i:Int) - 1)=((i - 1:Nat):Int):=wrapN _ (by omega) (by omega);refine l7 Tryz.func182 mixed 16 _ _ (by kernel_rfl) ?_;simp only [go_sem,seval,run.eq_1,n1,h.len,h.gog,h.at0,h.atj,h.set0,h.setj,h.tk,h.tk0,h.tkj,h.refs,h.refsj,h.hcaps,h.capsj,h.hcaps2,h.capsj2,a_];refine AW.lp [4,8] (fun k:Nat=>[(11,.d (.int .i64 (k:Int)))]) (fun _ k=>Hs (mvU a k f)++[.box [.fn g cs,.xfn sf ds]]) (fun k=>a<=k/\k<=i - 1) (fun k=>i - 1 - k) a ⟨b_ _,by omega⟩ (by rw [bH7];exact by refine ⟨by simp [mkS,h.len],by simp only [mkS,e_,h_,l_,h.len,h.tkj,h.tk0,h.tk];first | done | rfl | (simp;done),by simp [mkS,O.refsLt,C.refsLt,C.refsLt1,h.len,h.refs,h.refsj,h.hcaps,h.capsj,h.hcaps2,h.capsj2,l8,O4,-List.all_eq_true],?_⟩;simp [mkS,Abs.get,C.refsLtT,C.refsLt,C.refsLt1,h.len,h.hcaps,h.capsj,h.hcaps2,h.capsj2,-List.all_eq_true]) ?_;intro k' hk' hny;by_cases hc:k'<i - 1
   ·have n2:(k':Int)<((i - 1:Nat):Int):=by omega
    have w4:IntKind.i64.wrap ((k':Int)+1)=((k'+1:Nat):Int):=wrapN _ (by omega) (by omega);have hs:=h.swap (mvU a k' f) [.box [.fn g cs,.xfn sf ds]] k' (k'+1) (by omega) (by omega);rw [bR6 a k' f hk'.1] at hs;refine rS_ Tryz.func182 ?_;simp only [go_sem,seval,n2,w2,w4,h.len,h.gog,h.at0,h.atj,h.set0,h.setj,h.tk,h.tk0,h.tkj,h.refs,h.refsj,h.hcaps,h.capsj,h.hcaps2,h.capsj2,a_]
    repeat' (first
     | ((refine hs.mono ?_<;>(rintro c H' ⟨rfl,rfl⟩))<;>(try simp only [go_sem,seval,n2,w2,w4,h.len,h.gog,h.at0,h.atj,h.set0,h.setj,h.tk,h.tk0,h.tkj,h.refs,h.refsj,h.hcaps,h.capsj,h.hcaps2,h.capsj2,a_]))
     | fail)
    all_goals refine hny (k'+1) _ ⟨by omega,by omega⟩ (by omega) ag3
   ·have n2:¬(k':Int)<((i - 1:Nat):Int):=by omega
    obtain rfl:k'=i - 1:=by omega
    have hM:=bR7 n a b f (i - 1) hk'.1 (by omega) hb;have hS:=bH6 hw (by rw [<-c1];exact hs2) (show a<i by omega) i3 (fun x hx hx'=>i4 x (by omega) hx') i5;refine rS_ Tryz.func182 ?_;simp only [go_sem,seval,n2,w2,h.len,h.gog,h.at0,h.atj,h.set0,h.setj,h.tk,h.tk0,h.tkj,h.refs,h.refsj,h.hcaps,h.capsj,h.hcaps2,h.capsj2,a_]
    repeat' (first
     | (exact ⟨_,hM,hS,rfl⟩)
     | fail)
 ·by_cases c2:b=c+1
  ·
   have w1:IntKind.i64.wrap ((c:Int) - (a:Int))=((c - a:Nat):Int):=wrapN _ (by omega) (by omega);have n0:¬((c - a:Nat):Int)=1:=by omega
   have w5:IntKind.i64.wrap ((b:Int) - (c:Int))=1:=by rw [show (b:Int) - c=1 by omega];decide
   refine aE_ Tryz.func182 ?_;refine rS_ Tryz.func182 ?_;simp only [go_sem,seval,h.len,h.gog,h.at0,h.atj,h.set0,h.setj,h.tk,h.tk0,h.tkj,h.refs,h.refsj,h.hcaps,h.capsj,h.hcaps2,h.capsj2,a_,w1,w5,n0];refine AW.lp [2,4] (fun u:Nat×Nat=>[(12,.d (.int .i64 (u.1:Int))),(13,.d (.int .i64 (u.2:Int)))]) (fun H _=>H) (fun u=>a<=u.1/\u.1<=u.2/\u.2<=c/\(∀x,a<=x->x<u.1->lt (f c) (f x)=false)/\(∀x,u.2<=x->x<c->lt (f c) (f x)=true)) (fun u=>u.2 - u.1) (a,c) ⟨b_ _,by dsimp only;omega,b_ _,fun x hx hx'=>by dsimp only at hx';omega,fun x hx hx'=>by dsimp only at hx;omega⟩ ag3 ?_;rintro ⟨i,j⟩ ⟨i1,i2,i3,i4,i5⟩ hnext;dsimp only at i1 i2 i3 i4 i5 hnext |-;have hnx:=fun i' j' s'=>hnext (i',j') s';clear hnext;by_cases hij:i<j
   ·have n1:(i:Int)<(j:Int):=by omega
    have hh:=be5 i j (by omega);have w2:IntKind.i64.wrap ((i:Int)+(j:Int))=(i:Int)+(j:Int):=j6 (by omega) (by omega);have hl:=h.less f [.box [.fn g cs,.xfn sf ds]] c ((i+j) / 2) (by omega) (by omega);have w3:IntKind.i64.wrap ((((i+j) / 2:Nat):Int)+1)=(((i+j) / 2+1:Nat):Int):=wrapN _ (by omega) (by omega);cases hlt:lt (f c) (f ((i+j) / 2)) with
    | false =>
     rw [hlt] at hl;refine rS_ Tryz.func182 ?_;simp only [go_sem,seval,n1,w2,hh,h.len,h.gog,h.at0,h.atj,h.set0,h.setj,h.tk,h.tk0,h.tkj,h.refs,h.refsj,h.hcaps,h.capsj,h.hcaps2,h.capsj2,a_]
     repeat' (first
      | ((refine hl.mono ?_<;>(rintro c H' ⟨rfl,rfl⟩))<;>(try simp only [go_sem,seval,n1,w2,hh,w3,h.len,h.gog,h.at0,h.atj,h.set0,h.setj,h.tk,h.tk0,h.tkj,h.refs,h.refsj,h.hcaps,h.capsj,h.hcaps2,h.capsj2,a_]))
      | fail)
     refine hnx ((i+j) / 2+1) j _ ⟨by dsimp only;omega,by dsimp only;omega,i3,fun x hx hx'=>?_,i5⟩ (by dsimp only;omega) ag3;exact hw.tr _ _ _ (am5 hw hs1 hx (by dsimp only at hx';omega) (by omega)) hlt
    | true =>
     rw [hlt] at hl;refine rS_ Tryz.func182 ?_;simp only [go_sem,seval,n1,w2,hh,h.len,h.gog,h.at0,h.atj,h.set0,h.setj,h.tk,h.tk0,h.tkj,h.refs,h.refsj,h.hcaps,h.capsj,h.hcaps2,h.capsj2,a_]
     repeat' (first
      | ((refine hl.mono ?_<;>(rintro c H' ⟨rfl,rfl⟩))<;>(try simp only [go_sem,seval,n1,w2,hh,w3,h.len,h.gog,h.at0,h.atj,h.set0,h.setj,h.tk,h.tk0,h.tkj,h.refs,h.refsj,h.hcaps,h.capsj,h.hcaps2,h.capsj2,a_]))
      | fail)
     refine hnx i ((i+j) / 2) _ ⟨i1,by dsimp only;omega,by dsimp only;omega,i4,fun x hx hx'=>?_⟩ (by dsimp only;omega) ag3;exact bC9 hw hlt (am5 hw hs1 (by omega) hx hx')
   ·have n1:¬(i:Int)<(j:Int):=by omega
    obtain rfl:i=j:=by omega
    refine l7 Tryz.func182 mixed 16 _ _ (by kernel_rfl) ?_;simp only [go_sem,seval,run.eq_1,n1,h.len,h.gog,h.at0,h.atj,h.set0,h.setj,h.tk,h.tk0,h.tkj,h.refs,h.refsj,h.hcaps,h.capsj,h.hcaps2,h.capsj2,a_];refine AW.lp [4,12] (fun d:Nat=>[(15,.d (.int .i64 ((c - d:Nat):Int)))]) (fun _ d=>Hs (mvD c (c - d) f)++[.box [.fn g cs,.xfn sf ds]]) (fun d=>d<=c - i) (fun d=>c - i - d) 0 (s_ _) (by rw [Nat.sub_zero,bR9];exact by refine ⟨by simp [mkS,h.len],by simp only [mkS,e_,h_,l_,h.len,h.tkj,h.tk0,h.tk];first | done | rfl | (simp;done),by simp [mkS,O.refsLt,C.refsLt,C.refsLt1,h.len,h.refs,h.refsj,h.hcaps,h.capsj,h.hcaps2,h.capsj2,l8,O4,-List.all_eq_true],?_⟩;simp [mkS,Abs.get,C.refsLtT,C.refsLt,C.refsLt1,h.len,h.hcaps,h.capsj,h.hcaps2,h.capsj2,-List.all_eq_true]) ?_;intro d hd hny;by_cases hc:d<c - i
    ·have n2:(i:Int)<((c - d:Nat):Int):=by omega
     have w4:IntKind.i64.wrap (((c - d:Nat):Int) - 1)=((c - (d+1):Nat):Int):=wrapN _ (by omega) (by omega);have hs:=h.swap (mvD c (c - d) f) [.box [.fn g cs,.xfn sf ds]] (c - d) (c - d - 1) (by omega) (by omega);rw [bR8 c (c - d) f (by omega) (by omega),show c - d - 1=c - (d+1) by omega] at hs;refine rS_ Tryz.func182 ?_;simp only [go_sem,seval,n2,w4,h.len,h.gog,h.at0,h.atj,h.set0,h.setj,h.tk,h.tk0,h.tkj,h.refs,h.refsj,h.hcaps,h.capsj,h.hcaps2,h.capsj2,a_]
     repeat' (first
      | ((refine hs.mono ?_<;>(rintro c H' ⟨rfl,rfl⟩))<;>(try simp only [go_sem,seval,n2,w4,h.len,h.gog,h.at0,h.atj,h.set0,h.setj,h.tk,h.tk0,h.tkj,h.refs,h.refsj,h.hcaps,h.capsj,h.hcaps2,h.capsj2,a_]))
      | fail)
     all_goals refine hny (d+1) _ (by omega) (by omega) ag3
    ·have n2:¬(i:Int)<((c - d:Nat):Int):=by omega
     obtain rfl:d=c - i:=by omega
     have hM:=bC8 n a c f (by omega) (c - i) (by omega) (by omega);rw [<-c2,show c - (c - i)=i by omega] at hM;have hS:=bH8 hw hs1 i3 i1 i4 i5;rw [<-c2] at hS;rw [show c - (c - i)=i by omega] at n2 |-;refine rS_ Tryz.func182 ?_;simp only [go_sem,seval,n2,h.len,h.gog,h.at0,h.atj,h.set0,h.setj,h.tk,h.tk0,h.tkj,h.refs,h.refsj,h.hcaps,h.capsj,h.hcaps2,h.capsj2,a_]
     repeat' (first
      | (exact ⟨_,hM,hS,rfl⟩)
      | fail)
  ·
   have w1:IntKind.i64.wrap ((c:Int) - (a:Int))=((c - a:Nat):Int):=wrapN _ (by omega) (by omega);have n0:¬((c - a:Nat):Int)=1:=by omega
   have w5:IntKind.i64.wrap ((b:Int) - (c:Int))=((b - c:Nat):Int):=wrapN _ (by omega) (by omega);have n5:¬((b - c:Nat):Int)=1:=by omega
   have hh:=be5 a b (by omega);have w6:IntKind.i64.wrap ((a:Int)+(b:Int))=(a:Int)+(b:Int):=j6 (by omega) (by omega);obtain ⟨mid,hmid⟩:∃mid,(a+b) / 2=mid:=⟨_,rfl⟩;rw [hmid] at hh;have w7:IntKind.i64.wrap ((mid:Int)+(c:Int))=(mid:Int)+(c:Int):=j6 (by omega) (by omega);have w8:IntKind.i64.wrap ((mid:Int)+(c:Int) - 1)=((mid+c - 1:Nat):Int):=wrapN _ (by omega) (by omega);by_cases hc:mid<c
   ·obtain ⟨s0,hs0⟩:∃s0,mid+c - b=s0:=⟨_,rfl⟩
    have n6:(mid:Int)<(c:Int):=by omega
    have w9:IntKind.i64.wrap ((mid:Int)+(c:Int) - (b:Int))=(s0:Int):=wrapN _ (by omega) (by omega);have hrng:∀x,s0<=x->x<mid->a<=x/\x<c/\c<=mid+c - 1 - x/\mid+c - 1 - x<b:=fun x h1 h2=>by omega
    have hA0:s0=a\/mid+c - s0=b:=.inr (by omega);have hB0:mid=c\/mid=mid:=.inr rfl;refine aE_ Tryz.func182 ?_;refine rS_ Tryz.func182 ?_;simp only [go_sem,seval,h.len,h.gog,h.at0,h.atj,h.set0,h.setj,h.tk,h.tk0,h.tkj,h.refs,h.refsj,h.hcaps,h.capsj,h.hcaps2,h.capsj2,a_,w1,w5,n0,n5,w6,hh,w7,w8,w9,n6];refine AW.lp [1,2,3,4,16,17,20] (fun u:Nat×Nat=>[(18,.d (.int .i64 (u.1:Int))),(19,.d (.int .i64 (u.2:Int)))]) (fun H _=>H) (fun u=>Cut lt f (mid+c - 1) s0 mid u.1 u.2) (fun u=>u.2 - u.1) (s0,mid) ⟨b_ _,by dsimp only;omega,b_ _,fun x h1 h2=>absurd h2 (by dsimp only;omega),fun x h1 h2=>absurd h2 (by dsimp only at h1;omega)⟩ ag3 ?_;rintro ⟨s,r⟩ hcut hnext;dsimp only at hcut hnext |-;have hnx:=fun i' j' s'=>hnext (i',j') s';clear hnext;have q1:=hcut.lo;have q2:=hcut.le;have q3:=hcut.hi;by_cases hsr:s<r
    ·have n1:(s:Int)<(r:Int):=by omega
     have hh2:=be5 s r (by omega);have w10:IntKind.i64.wrap ((s:Int)+(r:Int))=(s:Int)+(r:Int):=j6 (by omega) (by omega);obtain ⟨y,hy⟩:∃y,(s+r) / 2=y:=⟨_,rfl⟩;rw [hy] at hh2;have w11:IntKind.i64.wrap (((mid+c - 1:Nat):Int) - (y:Int))=((mid+c - 1 - y:Nat):Int):=wrapN _ (by omega) (by omega);have w12:IntKind.i64.wrap ((y:Int)+1)=((y+1:Nat):Int):=wrapN _ (by omega) (by omega);have hl:=h.less f [.box [.fn g cs,.xfn sf ds]] (mid+c - 1 - y) y (by omega) (by omega);cases hlt:lt (f (mid+c - 1 - y)) (f y) with
     | false =>
      rw [hlt] at hl;refine rS_ Tryz.func182 ?_;simp only [go_sem,seval,n1,w10,hh2,w11,h.len,h.gog,h.at0,h.atj,h.set0,h.setj,h.tk,h.tk0,h.tkj,h.refs,h.refsj,h.hcaps,h.capsj,h.hcaps2,h.capsj2,a_]
      repeat' (first
       | ((refine hl.mono ?_<;>(rintro c H' ⟨rfl,rfl⟩))<;>(try simp only [go_sem,seval,n1,w10,hh2,w11,w12,h.len,h.gog,h.at0,h.atj,h.set0,h.setj,h.tk,h.tk0,h.tkj,h.refs,h.refsj,h.hcaps,h.capsj,h.hcaps2,h.capsj2,a_]))
       | fail)
      refine hnx (y+1) r _ (hcut.up hw hs1 hs2 hrng (by omega) (by omega) hlt) (by dsimp only;omega) ag3
     | true =>
      rw [hlt] at hl;refine rS_ Tryz.func182 ?_;simp only [go_sem,seval,n1,w10,hh2,w11,h.len,h.gog,h.at0,h.atj,h.set0,h.setj,h.tk,h.tk0,h.tkj,h.refs,h.refsj,h.hcaps,h.capsj,h.hcaps2,h.capsj2,a_]
      repeat' (first
       | ((refine hl.mono ?_<;>(rintro c H' ⟨rfl,rfl⟩))<;>(try simp only [go_sem,seval,n1,w10,hh2,w11,w12,h.len,h.gog,h.at0,h.atj,h.set0,h.setj,h.tk,h.tk0,h.tkj,h.refs,h.refsj,h.hcaps,h.capsj,h.hcaps2,h.capsj2,a_]))
       | fail)
      refine hnx s y _ (hcut.dn hw hs1 hs2 hrng (by omega) (by omega) hlt) (by dsimp only;omega) ag3
    ·have n1:¬(s:Int)<(r:Int):=by omega
     obtain rfl:s=r:=by omega
     obtain ⟨e,he⟩:∃e,mid+c - s=e:=⟨_,rfl⟩;have w13:IntKind.i64.wrap ((mid:Int)+(c:Int) - (s:Int))=(e:Int):=wrapN _ (by omega) (by omega);have hA:s=a\/e=b\/leq lt (f (s - 1)) (f e):=by
      by_cases e0:s=s0
      ·rcases hA0 with h0 | h0
       ·exact .inl (by omega)
       ·exact .inr (.inl (by omega))
      ·have:=hcut.bel (s - 1) (by omega) (by omega)
       rw [show mid+c - 1 - (s - 1)=e by omega] at this;exact .inr (.inr this)
     have hB:s=c\/e=c\/lt (f (e - 1)) (f s)=true:=by
      by_cases e0:s=mid
      ·rcases hB0 with h0 | h0
       ·exact .inl (by omega)
       ·exact .inr (.inl (by omega))
      ·have:=hcut.abv s (b_ _) (by omega)
       rw [show mid+c - 1 - s=e - 1 by omega] at this;exact .inr (.inr this)
     have hx:=aI7 hw hs1 hs2 (s:=s) (e:=e) (mid:=mid) (by omega) (by omega) (by omega) (by omega) (by omega) hA hB;obtain ⟨l1,l2,l3,l4⟩:=bC6 hs1 hs2 (s:=s) (e:=e) (mid:=mid) (by omega) (by omega) (by omega) (by omega) (by omega);have hnxt:=hnx;clear hnx hcut hA hB;rcases (show (s=c/\s<mid)\/(s=c/\s=mid)\/(s<c/\s=mid)\/(s<c/\s<mid) by omega) with ⟨p1,p2⟩ | ⟨p1,p2⟩ | ⟨p1,p2⟩ | ⟨p1,p2⟩
     ·have g1:¬(s:Int)<(c:Int):=by omega
      have g2:(a:Int)<(s:Int):=by omega
      have g3:(s:Int)<(mid:Int):=by omega
      have g4:¬(mid:Int)<(e:Int):=by omega
      rw [p1,aD9] at hx l1 l2 l3 l4;rw [<-p1] at l1 l2;have hl:=ih _ _ hX a s mid f (by omega) (by omega) (by omega) (by omega) l1 l2;refine rS_ Tryz.func182 ?_;simp only [go_sem,seval,n1,w13,g1,g2,g3,g4,h.len,h.gog,h.at0,h.atj,h.set0,h.setj,h.tk,h.tk0,h.tkj,h.refs,h.refsj,h.hcaps,h.capsj,h.hcaps2,h.capsj2,a_]
      repeat' (first
       | ((first
        | (refine hl.mono ?_<;>(rintro c H' ⟨rfl,f2,m2,s2,rfl⟩))
        | (refine ⟨sd,?_⟩)
        | (refine ⟨by assumption,?_⟩))<;>(try simp only [go_sem,seval,n1,w13,g1,g2,g3,g4,h.len,h.gog,h.at0,h.atj,h.set0,h.setj,h.tk,h.tk0,h.tkj,h.refs,h.refsj,h.hcaps,h.capsj,h.hcaps2,h.capsj2,a_]))
       | fail)
      have s4:=m2.srt_out l4 (.inr (by omega));first | exact o8 hx m2 s2 (.refl n mid b f2) (p8 s4 (by omega) (b_ _)) | exact ⟨(m2.mono (b_ _) (by omega)),o8 hx m2 s2 (.refl n mid b f2) (p8 s4 (by omega) (b_ _))⟩ | exact ⟨_,(m2.mono (b_ _) (by omega)),o8 hx m2 s2 (.refl n mid b f2) (p8 s4 (by omega) (b_ _)),rfl⟩
     ·have g1:¬(s:Int)<(c:Int):=by omega
      have g2:(a:Int)<(s:Int):=by omega
      have g3:¬(s:Int)<(mid:Int):=by omega
      have g4:¬(mid:Int)<(e:Int):=by omega
      rw [p1,aD9] at hx l1 l2 l3 l4;refine rS_ Tryz.func182 ?_;simp only [go_sem,seval,n1,w13,g1,g2,g3,g4,h.len,h.gog,h.at0,h.atj,h.set0,h.setj,h.tk,h.tk0,h.tkj,h.refs,h.refsj,h.hcaps,h.capsj,h.hcaps2,h.capsj2,a_]
      repeat' (first
       | ((first
        | (refine ⟨sd,?_⟩)
        | (refine ⟨by assumption,?_⟩))<;>(try simp only [go_sem,seval,n1,w13,g1,g2,g3,g4,h.len,h.gog,h.at0,h.atj,h.set0,h.setj,h.tk,h.tk0,h.tkj,h.refs,h.refsj,h.hcaps,h.capsj,h.hcaps2,h.capsj2,a_]))
       | fail)
      all_goals first | exact o8 hx (.refl n a mid f) (p8 l1 (b_ _) (by omega)) (.refl n mid b f) (p8 l4 (by omega) (b_ _)) | exact ⟨(.refl _ _ _ _),o8 hx (.refl n a mid f) (p8 l1 (b_ _) (by omega)) (.refl n mid b f) (p8 l4 (by omega) (b_ _))⟩ | exact ⟨_,(.refl _ _ _ _),o8 hx (.refl n a mid f) (p8 l1 (b_ _) (by omega)) (.refl n mid b f) (p8 l4 (by omega) (b_ _)),rfl⟩
     ·have g1:(s:Int)<(c:Int):=by omega
      have g2:¬(c:Int)<(e:Int):=by omega
      have g3:(a:Int)<(s:Int):=by omega
      have g4:¬(s:Int)<(mid:Int):=by omega
      have g5:(mid:Int)<(e:Int):=by omega
      have g6:(e:Int)<(b:Int):=by omega
      rw [show e=c by omega,bl0] at hx l1 l2 l3 l4;rw [show c=e by omega] at l3 l4;have hr2:=fun (f2:Nat->α) (m:Mv n a mid f f2)=>ih _ _ hX mid e b f2 (by omega) (by omega) (by omega) hb (m.srt_out l3 (.inr (b_ _))) (m.srt_out l4 (.inr (by omega)));refine rS_ Tryz.func182 ?_;simp only [go_sem,seval,n1,w13,g1,g2,g3,g4,g5,g6,h.len,h.gog,h.at0,h.atj,h.set0,h.setj,h.tk,h.tk0,h.tkj,h.refs,h.refsj,h.hcaps,h.capsj,h.hcaps2,h.capsj2,a_]
      repeat' (first
       | ((first
        | (refine (hr2 _ (Mv.refl n a mid f)).mono ?_<;>(rintro c H' ⟨rfl,f3,m3,s3,rfl⟩))
        | (refine ⟨by assumption,?_⟩))<;>(try simp only [go_sem,seval,n1,w13,g1,g2,g3,g4,g5,g6,h.len,h.gog,h.at0,h.atj,h.set0,h.setj,h.tk,h.tk0,h.tkj,h.refs,h.refsj,h.hcaps,h.capsj,h.hcaps2,h.capsj2,a_]))
       | fail)
      first | exact o8 hx (.refl n a mid f) (p8 l1 (b_ _) (by omega)) m3 s3 | exact ⟨(m3.mono (by omega) (b_ _)),o8 hx (.refl n a mid f) (p8 l1 (b_ _) (by omega)) m3 s3⟩ | exact ⟨_,(m3.mono (by omega) (b_ _)),o8 hx (.refl n a mid f) (p8 l1 (b_ _) (by omega)) m3 s3,rfl⟩
     ·have g1:(s:Int)<(c:Int):=by omega
      have g2:(c:Int)<(e:Int):=by omega
      have g4:(s:Int)<(mid:Int):=by omega
      have g5:(mid:Int)<(e:Int):=by omega
      have hrt:=aV9 hX hn s c e f p1 (by omega) (by omega);generalize hF:rot s c e f=F at hx l1 l2 l3 l4 hrt;have hr2:=fun (f2:Nat->α) (m:Mv n a mid F f2) (hh:e<b)=>ih _ _ hX mid e b f2 (by omega) (by omega) (by omega) hb (m.srt_out l3 (.inr (b_ _))) (m.srt_out l4 (.inr (by omega)));by_cases d1:a<s
      ·have g3:(a:Int)<(s:Int):=by omega
       have hl:=ih _ _ hX a s mid F (by omega) d1 (by omega) (by omega) l1 l2;by_cases d2:e<b
       ·have g6:(e:Int)<(b:Int):=by omega
        refine rS_ Tryz.func182 ?_;simp only [go_sem,seval,n1,w13,g1,g2,g3,g4,g5,g6,h.len,h.gog,h.at0,h.atj,h.set0,h.setj,h.tk,h.tk0,h.tkj,h.refs,h.refsj,h.hcaps,h.capsj,h.hcaps2,h.capsj2,a_]
        repeat' (first
         | ((first
          | (refine hrt.mono ?_<;>(rintro c H' ⟨rfl,hm1,rfl⟩))
          | (refine hl.mono ?_<;>(rintro c H' ⟨rfl,f2,m2,s2,rfl⟩))
          | (refine (hr2 _ m2 d2).mono ?_<;>(rintro c H' ⟨rfl,f3,m3,s3,rfl⟩))
          | (refine ⟨by assumption,?_⟩))<;>(try simp only [go_sem,seval,n1,w13,g1,g2,g3,g4,g5,g6,h.len,h.gog,h.at0,h.atj,h.set0,h.setj,h.tk,h.tk0,h.tkj,h.refs,h.refsj,h.hcaps,h.capsj,h.hcaps2,h.capsj2,a_]))
         | fail)
        first | exact o8 hx m2 s2 m3 s3 | exact ⟨(((hm1.mono (by omega) (by omega)).trans (m2.mono (b_ _) (by omega))).trans (m3.mono (by omega) (b_ _))),o8 hx m2 s2 m3 s3⟩ | exact ⟨_,(((hm1.mono (by omega) (by omega)).trans (m2.mono (b_ _) (by omega))).trans (m3.mono (by omega) (b_ _))),o8 hx m2 s2 m3 s3,rfl⟩
       ·have g6:¬(e:Int)<(b:Int):=by omega
        refine rS_ Tryz.func182 ?_;simp only [go_sem,seval,n1,w13,g1,g2,g3,g4,g5,g6,h.len,h.gog,h.at0,h.atj,h.set0,h.setj,h.tk,h.tk0,h.tkj,h.refs,h.refsj,h.hcaps,h.capsj,h.hcaps2,h.capsj2,a_]
        repeat' (first
         | ((first
          | (refine hrt.mono ?_<;>(rintro c H' ⟨rfl,hm1,rfl⟩))
          | (refine hl.mono ?_<;>(rintro c H' ⟨rfl,f2,m2,s2,rfl⟩))
          | (refine ⟨by assumption,?_⟩))<;>(try simp only [go_sem,seval,n1,w13,g1,g2,g3,g4,g5,g6,h.len,h.gog,h.at0,h.atj,h.set0,h.setj,h.tk,h.tk0,h.tkj,h.refs,h.refsj,h.hcaps,h.capsj,h.hcaps2,h.capsj2,a_]))
         | fail)
        first | exact o8 hx m2 s2 (.refl n mid b f2) (p8 (m2.srt_out l3 (.inr (b_ _))) (b_ _) (by omega)) | exact ⟨((hm1.mono (by omega) (by omega)).trans (m2.mono (b_ _) (by omega))),o8 hx m2 s2 (.refl n mid b f2) (p8 (m2.srt_out l3 (.inr (b_ _))) (b_ _) (by omega))⟩ | exact ⟨_,((hm1.mono (by omega) (by omega)).trans (m2.mono (b_ _) (by omega))),o8 hx m2 s2 (.refl n mid b f2) (p8 (m2.srt_out l3 (.inr (b_ _))) (b_ _) (by omega)),rfl⟩
      ·have g3:¬(a:Int)<(s:Int):=by omega
       have l2':srt lt F a mid:=p8 l2 (by omega) (b_ _);by_cases d2:e<b
       ·have g6:(e:Int)<(b:Int):=by omega
        refine rS_ Tryz.func182 ?_;simp only [go_sem,seval,n1,w13,g1,g2,g3,g4,g5,g6,h.len,h.gog,h.at0,h.atj,h.set0,h.setj,h.tk,h.tk0,h.tkj,h.refs,h.refsj,h.hcaps,h.capsj,h.hcaps2,h.capsj2,a_]
        repeat' (first
         | ((first
          | (refine hrt.mono ?_<;>(rintro c H' ⟨rfl,hm1,rfl⟩))
          | (refine (hr2 _ (Mv.refl n a mid F) d2).mono ?_<;>(rintro c H' ⟨rfl,f3,m3,s3,rfl⟩))
          | (refine ⟨sd,?_⟩)
          | (refine ⟨by assumption,?_⟩))<;>(try simp only [go_sem,seval,n1,w13,g1,g2,g3,g4,g5,g6,h.len,h.gog,h.at0,h.atj,h.set0,h.setj,h.tk,h.tk0,h.tkj,h.refs,h.refsj,h.hcaps,h.capsj,h.hcaps2,h.capsj2,a_]))
         | fail)
        first | exact o8 hx (.refl n a mid F) l2' m3 s3 | exact ⟨((hm1.mono (by omega) (by omega)).trans (m3.mono (by omega) (b_ _))),o8 hx (.refl n a mid F) l2' m3 s3⟩ | exact ⟨_,((hm1.mono (by omega) (by omega)).trans (m3.mono (by omega) (b_ _))),o8 hx (.refl n a mid F) l2' m3 s3,rfl⟩
       ·have g6:¬(e:Int)<(b:Int):=by omega
        refine rS_ Tryz.func182 ?_;simp only [go_sem,seval,n1,w13,g1,g2,g3,g4,g5,g6,h.len,h.gog,h.at0,h.atj,h.set0,h.setj,h.tk,h.tk0,h.tkj,h.refs,h.refsj,h.hcaps,h.capsj,h.hcaps2,h.capsj2,a_]
        repeat' (first
         | ((first
          | (refine hrt.mono ?_<;>(rintro c H' ⟨rfl,hm1,rfl⟩))
          | (refine ⟨by assumption,?_⟩))<;>(try simp only [go_sem,seval,n1,w13,g1,g2,g3,g4,g5,g6,h.len,h.gog,h.at0,h.atj,h.set0,h.setj,h.tk,h.tk0,h.tkj,h.refs,h.refsj,h.hcaps,h.capsj,h.hcaps2,h.capsj2,a_]))
         | fail)
        first | exact o8 hx (.refl n a mid F) l2' (.refl n mid b F) (p8 l3 (b_ _) (by omega)) | exact ⟨(hm1.mono (by omega) (by omega)),o8 hx (.refl n a mid F) l2' (.refl n mid b F) (p8 l3 (b_ _) (by omega))⟩ | exact ⟨_,(hm1.mono (by omega) (by omega)),o8 hx (.refl n a mid F) l2' (.refl n mid b F) (p8 l3 (b_ _) (by omega)),rfl⟩
   ·have n6:¬(mid:Int)<(c:Int):=by omega
    have hrng:∀x,a<=x->x<c->a<=x/\x<c/\c<=mid+c - 1 - x/\mid+c - 1 - x<b:=fun x h1 h2=>by omega
    have hA0:a=a\/mid+c - a=b:=.inl rfl;have hB0:c=c\/c=mid:=.inl rfl;refine aE_ Tryz.func182 ?_;refine rS_ Tryz.func182 ?_;simp only [go_sem,seval,h.len,h.gog,h.at0,h.atj,h.set0,h.setj,h.tk,h.tk0,h.tkj,h.refs,h.refsj,h.hcaps,h.capsj,h.hcaps2,h.capsj2,a_,w1,w5,n0,n5,w6,hh,w7,w8,n6];refine AW.lp [1,2,3,4,16,17,20] (fun u:Nat×Nat=>[(18,.d (.int .i64 (u.1:Int))),(19,.d (.int .i64 (u.2:Int)))]) (fun H _=>H) (fun u=>Cut lt f (mid+c - 1) a c u.1 u.2) (fun u=>u.2 - u.1) (a,c) ⟨b_ _,by dsimp only;omega,b_ _,fun x h1 h2=>absurd h2 (by dsimp only;omega),fun x h1 h2=>absurd h2 (by dsimp only at h1;omega)⟩ ag3 ?_;rintro ⟨s,r⟩ hcut hnext;dsimp only at hcut hnext |-;have hnx:=fun i' j' s'=>hnext (i',j') s';clear hnext;have q1:=hcut.lo;have q2:=hcut.le;have q3:=hcut.hi;by_cases hsr:s<r
    ·have n1:(s:Int)<(r:Int):=by omega
     have hh2:=be5 s r (by omega);have w10:IntKind.i64.wrap ((s:Int)+(r:Int))=(s:Int)+(r:Int):=j6 (by omega) (by omega);obtain ⟨y,hy⟩:∃y,(s+r) / 2=y:=⟨_,rfl⟩;rw [hy] at hh2;have w11:IntKind.i64.wrap (((mid+c - 1:Nat):Int) - (y:Int))=((mid+c - 1 - y:Nat):Int):=wrapN _ (by omega) (by omega);have w12:IntKind.i64.wrap ((y:Int)+1)=((y+1:Nat):Int):=wrapN _ (by omega) (by omega);have hl:=h.less f [.box [.fn g cs,.xfn sf ds]] (mid+c - 1 - y) y (by omega) (by omega);cases hlt:lt (f (mid+c - 1 - y)) (f y) with
     | false =>
      rw [hlt] at hl;refine rS_ Tryz.func182 ?_;simp only [go_sem,seval,n1,w10,hh2,w11,h.len,h.gog,h.at0,h.atj,h.set0,h.setj,h.tk,h.tk0,h.tkj,h.refs,h.refsj,h.hcaps,h.capsj,h.hcaps2,h.capsj2,a_]
      repeat' (first
       | ((refine hl.mono ?_<;>(rintro c H' ⟨rfl,rfl⟩))<;>(try simp only [go_sem,seval,n1,w10,hh2,w11,w12,h.len,h.gog,h.at0,h.atj,h.set0,h.setj,h.tk,h.tk0,h.tkj,h.refs,h.refsj,h.hcaps,h.capsj,h.hcaps2,h.capsj2,a_]))
       | fail)
      refine hnx (y+1) r _ (hcut.up hw hs1 hs2 hrng (by omega) (by omega) hlt) (by dsimp only;omega) ag3
     | true =>
      rw [hlt] at hl;refine rS_ Tryz.func182 ?_;simp only [go_sem,seval,n1,w10,hh2,w11,h.len,h.gog,h.at0,h.atj,h.set0,h.setj,h.tk,h.tk0,h.tkj,h.refs,h.refsj,h.hcaps,h.capsj,h.hcaps2,h.capsj2,a_]
      repeat' (first
       | ((refine hl.mono ?_<;>(rintro c H' ⟨rfl,rfl⟩))<;>(try simp only [go_sem,seval,n1,w10,hh2,w11,w12,h.len,h.gog,h.at0,h.atj,h.set0,h.setj,h.tk,h.tk0,h.tkj,h.refs,h.refsj,h.hcaps,h.capsj,h.hcaps2,h.capsj2,a_]))
       | fail)
      refine hnx s y _ (hcut.dn hw hs1 hs2 hrng (by omega) (by omega) hlt) (by dsimp only;omega) ag3
    ·have n1:¬(s:Int)<(r:Int):=by omega
     obtain rfl:s=r:=by omega
     obtain ⟨e,he⟩:∃e,mid+c - s=e:=⟨_,rfl⟩;have w13:IntKind.i64.wrap ((mid:Int)+(c:Int) - (s:Int))=(e:Int):=wrapN _ (by omega) (by omega);have hA:s=a\/e=b\/leq lt (f (s - 1)) (f e):=by
      by_cases e0:s=a
      ·rcases hA0 with h0 | h0
       ·exact .inl (by omega)
       ·exact .inr (.inl (by omega))
      ·have:=hcut.bel (s - 1) (by omega) (by omega)
       rw [show mid+c - 1 - (s - 1)=e by omega] at this;exact .inr (.inr this)
     have hB:s=c\/e=c\/lt (f (e - 1)) (f s)=true:=by
      by_cases e0:s=c
      ·rcases hB0 with h0 | h0
       ·exact .inl (by omega)
       ·exact .inr (.inl (by omega))
      ·have:=hcut.abv s (b_ _) (by omega)
       rw [show mid+c - 1 - s=e - 1 by omega] at this;exact .inr (.inr this)
     have hx:=aI7 hw hs1 hs2 (s:=s) (e:=e) (mid:=mid) (by omega) (by omega) (by omega) (by omega) (by omega) hA hB;obtain ⟨l1,l2,l3,l4⟩:=bC6 hs1 hs2 (s:=s) (e:=e) (mid:=mid) (by omega) (by omega) (by omega) (by omega) (by omega);have hnxt:=hnx;clear hnx hcut hA hB;rcases (show (s=c/\s<mid)\/(s=c/\s=mid)\/(s<c/\s=mid)\/(s<c/\s<mid) by omega) with ⟨p1,p2⟩ | ⟨p1,p2⟩ | ⟨p1,p2⟩ | ⟨p1,p2⟩
     ·have g1:¬(s:Int)<(c:Int):=by omega
      have g2:(a:Int)<(s:Int):=by omega
      have g3:(s:Int)<(mid:Int):=by omega
      have g4:¬(mid:Int)<(e:Int):=by omega
      rw [p1,aD9] at hx l1 l2 l3 l4;rw [<-p1] at l1 l2;have hl:=ih _ _ hX a s mid f (by omega) (by omega) (by omega) (by omega) l1 l2;refine rS_ Tryz.func182 ?_;simp only [go_sem,seval,n1,w13,g1,g2,g3,g4,h.len,h.gog,h.at0,h.atj,h.set0,h.setj,h.tk,h.tk0,h.tkj,h.refs,h.refsj,h.hcaps,h.capsj,h.hcaps2,h.capsj2,a_]
      repeat' (first
       | ((first
        | (refine hl.mono ?_<;>(rintro c H' ⟨rfl,f2,m2,s2,rfl⟩))
        | (refine ⟨by assumption,?_⟩))<;>(try simp only [go_sem,seval,n1,w13,g1,g2,g3,g4,h.len,h.gog,h.at0,h.atj,h.set0,h.setj,h.tk,h.tk0,h.tkj,h.refs,h.refsj,h.hcaps,h.capsj,h.hcaps2,h.capsj2,a_]))
       | fail)
      have s4:=m2.srt_out l4 (.inr (by omega));first | exact o8 hx m2 s2 (.refl n mid b f2) (p8 s4 (by omega) (b_ _)) | exact ⟨(m2.mono (b_ _) (by omega)),o8 hx m2 s2 (.refl n mid b f2) (p8 s4 (by omega) (b_ _))⟩ | exact ⟨_,(m2.mono (b_ _) (by omega)),o8 hx m2 s2 (.refl n mid b f2) (p8 s4 (by omega) (b_ _)),rfl⟩
     ·have g1:¬(s:Int)<(c:Int):=by omega
      have g2:(a:Int)<(s:Int):=by omega
      have g3:¬(s:Int)<(mid:Int):=by omega
      have g4:¬(mid:Int)<(e:Int):=by omega
      rw [p1,aD9] at hx l1 l2 l3 l4;refine rS_ Tryz.func182 ?_;simp only [go_sem,seval,n1,w13,g1,g2,g3,g4,h.len,h.gog,h.at0,h.atj,h.set0,h.setj,h.tk,h.tk0,h.tkj,h.refs,h.refsj,h.hcaps,h.capsj,h.hcaps2,h.capsj2,a_]
      repeat' (first
       | ((refine ⟨by assumption,?_⟩)<;>(try simp only [go_sem,seval,n1,w13,g1,g2,g3,g4,h.len,h.gog,h.at0,h.atj,h.set0,h.setj,h.tk,h.tk0,h.tkj,h.refs,h.refsj,h.hcaps,h.capsj,h.hcaps2,h.capsj2,a_]))
       | fail)
      all_goals first | exact o8 hx (.refl n a mid f) (p8 l1 (b_ _) (by omega)) (.refl n mid b f) (p8 l4 (by omega) (b_ _)) | exact ⟨(.refl _ _ _ _),o8 hx (.refl n a mid f) (p8 l1 (b_ _) (by omega)) (.refl n mid b f) (p8 l4 (by omega) (b_ _))⟩ | exact ⟨_,(.refl _ _ _ _),o8 hx (.refl n a mid f) (p8 l1 (b_ _) (by omega)) (.refl n mid b f) (p8 l4 (by omega) (b_ _)),rfl⟩
     ·have g1:(s:Int)<(c:Int):=by omega
      have g2:¬(c:Int)<(e:Int):=by omega
      have g3:(a:Int)<(s:Int):=by omega
      have g4:¬(s:Int)<(mid:Int):=by omega
      have g5:(mid:Int)<(e:Int):=by omega
      have g6:(e:Int)<(b:Int):=by omega
      rw [show e=c by omega,bl0] at hx l1 l2 l3 l4;rw [show c=e by omega] at l3 l4;have hr2:=fun (f2:Nat->α) (m:Mv n a mid f f2)=>ih _ _ hX mid e b f2 (by omega) (by omega) (by omega) hb (m.srt_out l3 (.inr (b_ _))) (m.srt_out l4 (.inr (by omega)));refine rS_ Tryz.func182 ?_;simp only [go_sem,seval,n1,w13,g1,g2,g3,g4,g5,g6,h.len,h.gog,h.at0,h.atj,h.set0,h.setj,h.tk,h.tk0,h.tkj,h.refs,h.refsj,h.hcaps,h.capsj,h.hcaps2,h.capsj2,a_]
      repeat' (first
       | ((first
        | (refine (hr2 _ (Mv.refl n a mid f)).mono ?_<;>(rintro c H' ⟨rfl,f3,m3,s3,rfl⟩))
        | (refine ⟨sd,?_⟩)
        | (refine ⟨by assumption,?_⟩))<;>(try simp only [go_sem,seval,n1,w13,g1,g2,g3,g4,g5,g6,h.len,h.gog,h.at0,h.atj,h.set0,h.setj,h.tk,h.tk0,h.tkj,h.refs,h.refsj,h.hcaps,h.capsj,h.hcaps2,h.capsj2,a_]))
       | fail)
      first | exact o8 hx (.refl n a mid f) (p8 l1 (b_ _) (by omega)) m3 s3 | exact ⟨(m3.mono (by omega) (b_ _)),o8 hx (.refl n a mid f) (p8 l1 (b_ _) (by omega)) m3 s3⟩ | exact ⟨_,(m3.mono (by omega) (b_ _)),o8 hx (.refl n a mid f) (p8 l1 (b_ _) (by omega)) m3 s3,rfl⟩
     ·have g1:(s:Int)<(c:Int):=by omega
      have g2:(c:Int)<(e:Int):=by omega
      have g4:(s:Int)<(mid:Int):=by omega
      have g5:(mid:Int)<(e:Int):=by omega
      have hrt:=aV9 hX hn s c e f p1 (by omega) (by omega);generalize hF:rot s c e f=F at hx l1 l2 l3 l4 hrt;have hr2:=fun (f2:Nat->α) (m:Mv n a mid F f2) (hh:e<b)=>ih _ _ hX mid e b f2 (by omega) (by omega) (by omega) hb (m.srt_out l3 (.inr (b_ _))) (m.srt_out l4 (.inr (by omega)));by_cases d1:a<s
      ·have g3:(a:Int)<(s:Int):=by omega
       have hl:=ih _ _ hX a s mid F (by omega) d1 (by omega) (by omega) l1 l2;by_cases d2:e<b
       ·have g6:(e:Int)<(b:Int):=by omega
        refine rS_ Tryz.func182 ?_;simp only [go_sem,seval,n1,w13,g1,g2,g3,g4,g5,g6,h.len,h.gog,h.at0,h.atj,h.set0,h.setj,h.tk,h.tk0,h.tkj,h.refs,h.refsj,h.hcaps,h.capsj,h.hcaps2,h.capsj2,a_]
        repeat' (first
         | ((first
          | (refine hrt.mono ?_<;>(rintro c H' ⟨rfl,hm1,rfl⟩))
          | (refine hl.mono ?_<;>(rintro c H' ⟨rfl,f2,m2,s2,rfl⟩))
          | (refine (hr2 _ m2 d2).mono ?_<;>(rintro c H' ⟨rfl,f3,m3,s3,rfl⟩))
          | (refine ⟨by assumption,?_⟩))<;>(try simp only [go_sem,seval,n1,w13,g1,g2,g3,g4,g5,g6,h.len,h.gog,h.at0,h.atj,h.set0,h.setj,h.tk,h.tk0,h.tkj,h.refs,h.refsj,h.hcaps,h.capsj,h.hcaps2,h.capsj2,a_]))
         | fail)
        first | exact o8 hx m2 s2 m3 s3 | exact ⟨(((hm1.mono (by omega) (by omega)).trans (m2.mono (b_ _) (by omega))).trans (m3.mono (by omega) (b_ _))),o8 hx m2 s2 m3 s3⟩ | exact ⟨_,(((hm1.mono (by omega) (by omega)).trans (m2.mono (b_ _) (by omega))).trans (m3.mono (by omega) (b_ _))),o8 hx m2 s2 m3 s3,rfl⟩
       ·have g6:¬(e:Int)<(b:Int):=by omega
        refine rS_ Tryz.func182 ?_;simp only [go_sem,seval,n1,w13,g1,g2,g3,g4,g5,g6,h.len,h.gog,h.at0,h.atj,h.set0,h.setj,h.tk,h.tk0,h.tkj,h.refs,h.refsj,h.hcaps,h.capsj,h.hcaps2,h.capsj2,a_]
        repeat' (first
         | ((first
          | (refine hrt.mono ?_<;>(rintro c H' ⟨rfl,hm1,rfl⟩))
          | (refine hl.mono ?_<;>(rintro c H' ⟨rfl,f2,m2,s2,rfl⟩))
          | (refine ⟨sd,?_⟩)
          | (refine ⟨by assumption,?_⟩))<;>(try simp only [go_sem,seval,n1,w13,g1,g2,g3,g4,g5,g6,h.len,h.gog,h.at0,h.atj,h.set0,h.setj,h.tk,h.tk0,h.tkj,h.refs,h.refsj,h.hcaps,h.capsj,h.hcaps2,h.capsj2,a_]))
         | fail)
        first | exact o8 hx m2 s2 (.refl n mid b f2) (p8 (m2.srt_out l3 (.inr (b_ _))) (b_ _) (by omega)) | exact ⟨((hm1.mono (by omega) (by omega)).trans (m2.mono (b_ _) (by omega))),o8 hx m2 s2 (.refl n mid b f2) (p8 (m2.srt_out l3 (.inr (b_ _))) (b_ _) (by omega))⟩ | exact ⟨_,((hm1.mono (by omega) (by omega)).trans (m2.mono (b_ _) (by omega))),o8 hx m2 s2 (.refl n mid b f2) (p8 (m2.srt_out l3 (.inr (b_ _))) (b_ _) (by omega)),rfl⟩
      ·have g3:¬(a:Int)<(s:Int):=by omega
       have l2':srt lt F a mid:=p8 l2 (by omega) (b_ _);by_cases d2:e<b
       ·have g6:(e:Int)<(b:Int):=by omega
        refine rS_ Tryz.func182 ?_;simp only [go_sem,seval,n1,w13,g1,g2,g3,g4,g5,g6,h.len,h.gog,h.at0,h.atj,h.set0,h.setj,h.tk,h.tk0,h.tkj,h.refs,h.refsj,h.hcaps,h.capsj,h.hcaps2,h.capsj2,a_]
        repeat' (first
         | ((first
          | (refine hrt.mono ?_<;>(rintro c H' ⟨rfl,hm1,rfl⟩))
          | (refine (hr2 _ (Mv.refl n a mid F) d2).mono ?_<;>(rintro c H' ⟨rfl,f3,m3,s3,rfl⟩))
          | (refine ⟨by assumption,?_⟩))<;>(try simp only [go_sem,seval,n1,w13,g1,g2,g3,g4,g5,g6,h.len,h.gog,h.at0,h.atj,h.set0,h.setj,h.tk,h.tk0,h.tkj,h.refs,h.refsj,h.hcaps,h.capsj,h.hcaps2,h.capsj2,a_]))
         | fail)
        first | exact o8 hx (.refl n a mid F) l2' m3 s3 | exact ⟨((hm1.mono (by omega) (by omega)).trans (m3.mono (by omega) (b_ _))),o8 hx (.refl n a mid F) l2' m3 s3⟩ | exact ⟨_,((hm1.mono (by omega) (by omega)).trans (m3.mono (by omega) (b_ _))),o8 hx (.refl n a mid F) l2' m3 s3,rfl⟩
       ·have g6:¬(e:Int)<(b:Int):=by omega
        refine rS_ Tryz.func182 ?_;simp only [go_sem,seval,n1,w13,g1,g2,g3,g4,g5,g6,h.len,h.gog,h.at0,h.atj,h.set0,h.setj,h.tk,h.tk0,h.tkj,h.refs,h.refsj,h.hcaps,h.capsj,h.hcaps2,h.capsj2,a_]
        repeat' (first
         | ((first
          | (refine hrt.mono ?_<;>(rintro c H' ⟨rfl,hm1,rfl⟩))
          | (refine ⟨by assumption,?_⟩))<;>(try simp only [go_sem,seval,n1,w13,g1,g2,g3,g4,g5,g6,h.len,h.gog,h.at0,h.atj,h.set0,h.setj,h.tk,h.tk0,h.tkj,h.refs,h.refsj,h.hcaps,h.capsj,h.hcaps2,h.capsj2,a_]))
         | fail)
        first | exact o8 hx (.refl n a mid F) l2' (.refl n mid b F) (p8 l3 (b_ _) (by omega)) | exact ⟨(hm1.mono (by omega) (by omega)),o8 hx (.refl n a mid F) l2' (.refl n mid b F) (p8 l3 (b_ _) (by omega))⟩ | exact ⟨_,(hm1.mono (by omega) (by omega)),o8 hx (.refl n a mid F) l2' (.refl n mid b F) (p8 l3 (b_ _) (by omega)),rfl⟩
end
section
variable {α:Type} {g sf:FuncId} {cs ds:List C} {n m:Nat} {Hs:(Nat->α)->List O} {lt:α->α->Bool}
theorem bv5 (hw:Wk lt) (hn:n<=1000000000000) (h:Srtr Tryz.prog g cs sf ds n m Hs lt) (f:Nat->α) :
  ACalls Tryz.prog 162 [.agg [.fn g cs,.xfn sf ds],.d (.int .i64 n)] (Hs f) (fun c H'=>c=.tup []/\∃f1,((List.range n).map f1).Perm ((List.range n).map f)/\srt lt f1 0 n/\H'=Hs f1):=by
 have hX:=h.ext [.box [.fn g cs,.xfn sf ds]] (by simp [O.refsLt,C.refsLt,h.capsj,h.capsj2,-List.all_eq_true]);refine aE_ Tryz.func162 ?_;refine rS_ Tryz.func162 ?_;simp only [go_sem,seval,h.len,h.gog,h.at0,h.atj,h.set0,h.setj,h.tk,h.tk0,h.tkj,h.refs,h.refsj,h.hcaps,h.capsj,h.hcaps2,h.capsj2,a_];refine AW.lp [1,2,4] (fun u:Nat×Nat×(Nat->α)=>[(5,.d (.int .i64 (u.1:Int))),(6,.d (.int .i64 ((u.1:Int)+20)))]) (fun _ u=>Hs u.2.2++[.box [.fn g cs,.xfn sf ds]]) (fun u=>u.1=u.2.1 * 20/\u.1<=n/\Mv n 0 n f u.2.2/\bs1 lt u.2.2 20 n (u.2.1 * 20)) (fun u=>n - u.1) (0,0,f) ⟨by simp,s_ _,.refl _ _ _ _,by simp [bD6]⟩ ag3 ?_;rintro ⟨a,t,f1⟩ ⟨h1,h2,h3,h4⟩ hnext;dsimp only at h1 h2 h3 h4 hnext |-;have hnx:=fun a' t' f' s'=>hnext (a',t',f') s';clear hnext;by_cases hc:a+20<=n
 ·have n1:(a:Int)+20<=(n:Int):=by omega
  have w1:IntKind.i64.wrap ((a:Int)+20+20)=(a:Int)+20+20:=j6 (by omega) (by omega);have hi:=ac1 hX hw (by omega) a (a+20) f1 (by omega) hc;rw [Int.natCast_add] at hi;refine rS_ Tryz.func162 ?_;simp only [go_sem,seval,n1,h.len,h.gog,h.at0,h.atj,h.set0,h.setj,h.tk,h.tk0,h.tkj,h.refs,h.refsj,h.hcaps,h.capsj,h.hcaps2,h.capsj2,a_]
  repeat' (first
   | ((refine hi.mono ?_<;>(rintro c H' ⟨rfl,f2,m2,s2,rfl⟩))<;>(try simp only [go_sem,seval,n1,w1,h.len,h.gog,h.at0,h.atj,h.set0,h.setj,h.tk,h.tk0,h.tkj,h.refs,h.refsj,h.hcaps,h.capsj,h.hcaps2,h.capsj2,a_]))
   | fail)
  refine hnx (a+20) (t+1) f2 _ ⟨by dsimp only;omega,hc,h3.trans (m2.mono (s_ _) hc),?_⟩ (by dsimp only;omega) ag3;rw [h1] at m2 s2;exact bD5 (by omega) h4 m2 (by rw [K_ (by omega)];exact s2)
 ·have n1:¬(a:Int)+20<=(n:Int):=by omega
  have hi:=ac1 hX hw (by omega) a n f1 h2 (b_ _);clear hnx;refine l7 Tryz.func162 mixed 12 _ _ (by kernel_rfl) ?_;simp only [go_sem,seval,run.eq_1,n1,h.len,h.gog,h.at0,h.atj,h.set0,h.setj,h.tk,h.tk0,h.tkj,h.refs,h.refsj,h.hcaps,h.capsj,h.hcaps2,h.capsj2,a_]
  repeat' (first
   | ((refine hi.mono ?_<;>(rintro c H' ⟨rfl,f2,m2,s2,rfl⟩))<;>(try simp only [go_sem,seval,n1,run.eq_1,h.len,h.gog,h.at0,h.atj,h.set0,h.setj,h.tk,h.tk0,h.tkj,h.refs,h.refsj,h.hcaps,h.capsj,h.hcaps2,h.capsj2,a_]))
   | fail)
  have hb2:bs1 lt f2 20 n n:=by
   rw [h1] at m2 s2;exact aG4 (by omega) h4 m2 s2 (by omega)
  have hM2:=h3.trans (m2.mono (s_ _) (b_ _));clear m2 s2 h1 h2 h3 h4 hc n1 hi;refine AW.lp [1,2] (fun u:Nat×(Nat->α)=>[(4,.d (.int .i64 (u.1:Int)))]) (fun _ u=>Hs u.2++[.box [.fn g cs,.xfn sf ds]]) (fun u=>20<=u.1/\Mv n 0 n f u.2/\bs1 lt u.2 u.1 n n) (fun u=>n - u.1) (20,f2) ⟨b_ _,hM2,hb2⟩ ag3 ?_;rintro ⟨bs,f3⟩ ⟨b1,b2,b3⟩ hnext;dsimp only at b1 b2 b3 hnext |-;have hny:=fun b' f' s'=>hnext (b',f') s';clear hnext;by_cases hc:bs<n
  ·have n1:(bs:Int)<(n:Int):=by omega
   have w1:IntKind.i64.wrap (2 * (bs:Int))=2 * (bs:Int):=j6 (by omega) (by omega);have w2:IntKind.i64.wrap ((bs:Int) * 2)=((bs * 2:Nat):Int):=wrapN _ (by omega) (by omega);refine rS_ Tryz.func162 ?_;simp only [go_sem,seval,n1,w1,h.len,h.gog,h.at0,h.atj,h.set0,h.setj,h.tk,h.tk0,h.tkj,h.refs,h.refsj,h.hcaps,h.capsj,h.hcaps2,h.capsj2,a_];refine AW.lp [1,2,4] (fun u:Nat×Nat×(Nat->α)=>[(5,.d (.int .i64 (u.1:Int))),(6,.d (.int .i64 ((u.1:Int)+2 * (bs:Int))))]) (fun _ u=>Hs u.2.2++[.box [.fn g cs,.xfn sf ds]]) (fun u=>u.1=u.2.1 * (2 * bs)/\u.1<=n/\Mv n 0 n f u.2.2/\bs1 lt u.2.2 (2 * bs) n (u.2.1 * (2 * bs))/\rest lt u.2.2 bs n (2 * u.2.1)) (fun u=>n - u.1) (0,0,f3) ⟨by simp,s_ _,b2,by simp [bD6],rest_of b3⟩ ag3 ?_;rintro ⟨a,t,f4⟩ ⟨h5,h6,h7,h8,h9⟩ hnext;dsimp only at h5 h6 h7 h8 h9 hnext |-;have hnz:=fun a' t' f' s'=>hnext (a',t',f') s';clear hnext;have w3:IntKind.i64.wrap ((a:Int)+(bs:Int))=((a+bs:Nat):Int):=wrapN _ (by omega) (by omega);by_cases hd:a+2 * bs<=n
   ·have n2:(a:Int)+2 * (bs:Int)<=(n:Int):=by omega
    have w4:IntKind.i64.wrap ((a:Int)+2 * (bs:Int)+2 * (bs:Int))=(a:Int)+2 * (bs:Int)+2 * (bs:Int):=j6 (by omega) (by omega);obtain ⟨r1,r2⟩:=aW0 h9 (by rw [<-h5];omega);rw [<-h5] at r1 r2;rw [K_ hd] at r2;have hs:=ay8 hw (by omega) (a+2 * bs - a) _ _ hX a (a+bs) (a+2 * bs) f4 (b_ _) (by omega) (by omega) hd r1 r2;have hcast:((a+2 * bs:Nat):Int)=(a:Int)+2 * (bs:Int):=by omega
    rw [hcast] at hs;refine rS_ Tryz.func162 ?_;simp only [go_sem,seval,n2,w1,w3,h.len,h.gog,h.at0,h.atj,h.set0,h.setj,h.tk,h.tk0,h.tkj,h.refs,h.refsj,h.hcaps,h.capsj,h.hcaps2,h.capsj2,a_]
    repeat' (first
     | ((refine hs.mono ?_<;>(rintro c H' ⟨rfl,f5,m5,s5,rfl⟩))<;>(try simp only [go_sem,seval,n2,w1,w3,w4,h.len,h.gog,h.at0,h.atj,h.set0,h.setj,h.tk,h.tk0,h.tkj,h.refs,h.refsj,h.hcaps,h.capsj,h.hcaps2,h.capsj2,a_]))
     | fail)
    refine hnz (a+2 * bs) (t+1) f5 _ ⟨by dsimp only;rw [Nat.add_mul t 1 (2 * bs),Nat.one_mul,<-h5],hd,h7.trans (m5.mono (s_ _) hd),?_,?_⟩ (by dsimp only;omega) (by dsimp only;rw [hcast];exact by refine ⟨by simp [mkS,h.len],by simp only [mkS,e_,h_,l_,h.len,h.tkj,h.tk0,h.tk];first | done | rfl | (simp;done),by simp [mkS,O.refsLt,C.refsLt,C.refsLt1,h.len,h.refs,h.refsj,h.hcaps,h.capsj,h.hcaps2,h.capsj2,l8,O4,-List.all_eq_true],?_⟩;simp [mkS,Abs.get,C.refsLtT,C.refsLt,C.refsLt1,h.len,h.hcaps,h.capsj,h.hcaps2,h.capsj2,-List.all_eq_true])
    ·rw [h5] at m5 s5
     exact bD5 (by omega) h8 m5 (by rw [K_ (by rw [<-h5];omega)];exact s5)
    ·exact bQ8 h9 (t':=2 * (t+1)) (by omega) m5 (by rw [show 2 * (t+1)=2 * t+2 by omega,aI4,<-h5];exact b_ _)
   ·have n2:¬(a:Int)+2 * (bs:Int)<=(n:Int):=by omega
    clear hnz;by_cases he:a+bs<n
    ·have n3:((a+bs:Nat):Int)<(n:Int):=by omega
     have n3':(a:Int)+(bs:Int)<(n:Int):=by omega
     obtain ⟨r1,r2⟩:=aW0 h9 (by rw [<-h5];omega);rw [<-h5] at r1 r2;rw [Nat.min_eq_right (by omega)] at r2;have hs:=ay8 hw (by omega) (n - a) _ _ hX a (a+bs) n f4 (b_ _) (by omega) he (b_ _) r1 r2;refine rS_ Tryz.func162 ?_;simp only [go_sem,seval,n2,w3,n3,n3',h.len,h.gog,h.at0,h.atj,h.set0,h.setj,h.tk,h.tk0,h.tkj,h.refs,h.refsj,h.hcaps,h.capsj,h.hcaps2,h.capsj2,a_]
     repeat' (first
      | ((refine hs.mono ?_<;>(rintro c H' ⟨rfl,f5,m5,s5,rfl⟩))<;>(try simp only [go_sem,seval,n2,w2,w3,n3,n3',h.len,h.gog,h.at0,h.atj,h.set0,h.setj,h.tk,h.tk0,h.tkj,h.refs,h.refsj,h.hcaps,h.capsj,h.hcaps2,h.capsj2,a_]))
      | fail)
     have hM5:=h7.trans (m5.mono (s_ _) (b_ _));rw [h5] at m5 s5;have hbl:=aG4 (k:=2 * bs) (by omega) h8 m5 s5 (by rw [<-h5];omega);all_goals refine hny (bs * 2) f5 _ ⟨by omega,hM5,by dsimp only;rw [Nat.mul_comm bs 2];exact hbl⟩ (by dsimp only;omega) ag3
    ·have n3:¬((a+bs:Nat):Int)<(n:Int):=by omega
     have n3':¬(a:Int)+(bs:Int)<(n:Int):=by omega
     have hl:=bl2 h9 (by rw [<-h5];omega);refine rS_ Tryz.func162 ?_;simp only [go_sem,seval,n2,w3,n3,n3',h.len,h.gog,h.at0,h.atj,h.set0,h.setj,h.tk,h.tk0,h.tkj,h.refs,h.refsj,h.hcaps,h.capsj,h.hcaps2,h.capsj2,a_]
     repeat' (first
      | (simp (disch:=omega) only [j6])
      | fail)
     have hbl:=aG4 (k:=2 * bs) (by omega) h8 (.refl _ _ _ _) hl (by rw [<-h5];omega);all_goals refine hny (bs * 2) f4 _ ⟨by omega,h7,by dsimp only;rw [Nat.mul_comm bs 2];exact hbl⟩ (by dsimp only;omega) ag3
  ·have n1:¬(bs:Int)<(n:Int):=by omega
   have hP:=b2.perm;have hS:=bs0 b3 (by omega);refine rS_ Tryz.func162 ?_;simp only [go_sem,seval,n1,h.len,h.gog,h.at0,h.atj,h.set0,h.setj,h.tk,h.tk0,h.tkj,h.refs,h.refsj,h.hcaps,h.capsj,h.hcaps2,h.capsj2,a_]
   repeat' (first
    | ((first
     | (refine ⟨sd,?_⟩)
     | (refine ⟨by assumption,?_⟩))<;>(try simp only [go_sem,seval,n1,h.len,h.gog,h.at0,h.atj,h.set0,h.setj,h.tk,h.tk0,h.tkj,h.refs,h.refsj,h.hcaps,h.capsj,h.hcaps2,h.capsj2,a_]))
    | assumption)
   all_goals first | exact hS | exact ⟨hP,hS⟩ | exact ⟨_,hP,hS,rfl⟩
end
set_option maxHeartbeats 4000000
theorem U9 (a lo hi:Int):Gives Tryz.prog 107 [.int .i64 a,.int .i64 lo,.int .i64 hi] (.d (.bool (decide (lo<=a) && decide (a<=hi)))):=by
 refine aE_ Tryz.func107 ?_;refine rS_ Tryz.func107 ?_;simp only [go_sem,seval]
 repeat' (first
  | ((refine D5 (fun hq=>?_) (fun hq=>?_))<;>(try simp only [go_sem,seval,hq]))
  | fail)
 all_goals (simp_all;try omega)
theorem aN7 (s:List UInt8) (i:Nat):0<=((s[i]?.getD 0).toNat:Int)/\((s[i]?.getD 0).toNat:Int)<=255:=by
 have:=UInt8.toNat_lt (s[i]?.getD 0);omega
theorem az1 (s:List UInt8) (hm:s.length<=9000000):Gives Tryz.prog 145 [.str s] (.d (.bool (E8 s))):=by
 refine aE_ Tryz.func145 ?_;refine rS_ Tryz.func145 ?_;simp only [go_sem,seval];refine AW.lp [0] (fun i:Nat=>[(3,.d (.int .i64 i))]) (fun H _=>H) (fun i=>i<=s.length/\∀j,j<i->aA2 s j=true) (fun i=>s.length - i) 0 ⟨by omega,by omega⟩ I4 ?_;rintro i ⟨hi,hall⟩ hnext;by_cases h:i<s.length
 ·have hlt:(i:Int)<(s.length:Int):=by omega
  have next:aA2 s i=true->∀j,j<i+1->aA2 s j=true:=fun h j hj=>by
   rcases M_.1 hj with h' | rfl
   ·exact hall j h'
   ·exact h
  have bad:=al0 h;obtain ⟨b,hb⟩:∃b:Int,((s[i]?.getD 0).toNat:Int)=b:=⟨_,rfl⟩;have hb0:=aN7 s i;have hok:aA2 s i=((decide (97<=b) && decide (b<=122)) || (i != 0 && (b == 45 || (decide (48<=b) && decide (b<=57))))):=by unfold aA2 ac6;rw [hb]
  rw [hb] at hb0;rw [hok] at next bad
  refine rS_ Tryz.func145 ?_;simp only [go_sem,seval,hlt,hb]
  repeat' (first
   | ((refine D5 (fun hq=>?_) (fun hq=>?_))<;>(try simp only [go_sem,seval,hlt,hb,hq]))
   | (simp (disch:=omega) only [j6])
   | (refine hnext (i+1) _ ⟨by omega,next (by simp;omega)⟩ (by omega) I4)
   | ((refine (U9 _ _ _).calls rfl ?_)<;>(try simp only [go_sem,seval,hlt,hb]))
   | fail)
  all_goals (rw [bad (by simp;omega)])
 ·obtain rfl:i=s.length:=by omega
  refine rS_ Tryz.func145 ?_;simp only [go_sem,seval]
  repeat' (first
   | ((refine (U9 _ _ _).calls rfl ?_)<;>(try simp only [go_sem,seval]))
   | fail)
  all_goals (rw [aA6 hall];congr 3<;>simp<;>omega)
theorem aA8 (s:List UInt8) (hm:s.length<=9000000):Gives Tryz.prog 133 [.str s] (.d (.bool (E8 s))):=by
 obtain ⟨b0,hb0⟩:∃b:Int,((s[0]?.getD 0).toNat:Int)=b:=⟨_,rfl⟩;have h0b:=aN7 s 0;have hok0:aA2 s 0=(decide (97<=b0) && decide (b0<=122)):=by unfold aA2 ac6;rw [hb0];simp
 rw [hb0] at h0b;have bad0:=fun h:0<s.length=>al0 h;have badl:¬(1<=s.length/\s.length<=12)->E8 s=false:=fun h=>by
  cases hn:E8 s with
  | false=>rfl
  | true=>exact absurd (J4 hn) h
 refine aE_ Tryz.func133 ?_;refine rS_ Tryz.func133 ?_;simp only [go_sem,seval]
 repeat' (first
  | ((refine D5 (fun hq=>?_) (fun hq=>?_))<;>(try simp only [go_sem,seval,hb0,hq]))
  | ((refine ⟨sd,?_⟩)<;>(try simp only [go_sem,seval,hb0]))
  | fail)
 all_goals try (rw [badl (by omega)];done)
 all_goals try (rw [bad0 (by omega) (by rw [hok0];simp;omega)];done)
 have st:∀j,j<1->aA2 s j=true:=fun j hj=>by
  obtain rfl:j=0:=by omega
  rw [hok0];simp;omega
 refine AW.lp [0] (fun i:Nat=>[(3,.d (.int .i64 i))]) (fun H _=>H) (fun i=>1<=i/\i<=s.length/\∀j,j<i->aA2 s j=true) (fun i=>s.length - i) 1 ⟨by omega,by omega,st⟩ I4 ?_;rintro i ⟨hi1,hi,hall⟩ hnext;by_cases h:i<s.length
 ·have hlt:(i:Int)<(s.length:Int):=by omega
  have next:aA2 s i=true->∀j,j<i+1->aA2 s j=true:=fun h j hj=>by
   rcases M_.1 hj with h' | rfl
   ·exact hall j h'
   ·exact h
  have bad:=al0 h;obtain ⟨b,hb⟩:∃b:Int,((s[i]?.getD 0).toNat:Int)=b:=⟨_,rfl⟩;have hb0:=aN7 s i;have hok:aA2 s i=((decide (97<=b) && decide (b<=122)) || (i != 0 && (b == 45 || (decide (48<=b) && decide (b<=57))))):=by unfold aA2 ac6;rw [hb]
  rw [hb] at hb0;rw [hok] at next bad
  refine rS_ Tryz.func133 ?_;simp only [go_sem,seval,hlt,hb]
  repeat' (first
   | ((refine D5 (fun hq=>?_) (fun hq=>?_))<;>(try simp only [go_sem,seval,hlt,hb,hq]))
   | (simp (disch:=omega) only [j6])
   | (refine hnext (i+1) _ ⟨by omega,by omega,next (by simp;omega)⟩ (by omega) I4)
   | fail)
  all_goals (rw [bad (by simp;omega)])
 ·obtain rfl:i=s.length:=by omega
  refine rS_ Tryz.func133 ?_;simp only [go_sem,seval];rw [aA6 hall];congr 2;simp;omega
theorem bc5:∀(t:Tm) (room:Int),wtL t.enc<=9000000->-10000000<=room->room<=10000000->Gives Tryz.prog 94 [.agg t.enc,.int .i64 room] (.d (.int .i64 (nodes t room))):=by
 intro t;induction t using Tm.ind' with
 | h t ih =>
  intro room hw h0 h1;have hn:=bm7 t;have lf:=aP7 t (room:=room);have bd:=bc4 t (room:=room);have nl:=nodes_lt (t:=t) (room:=room);by_cases h2:t.args.length=2
  ·obtain ⟨a,b,hab⟩:∃a b,t.args=[a,b]:=by
    match h:t.args,h2 with
    | [a,b],_=>exact ⟨a,b,rfl⟩
   have ia:=ih a (by simp [hab]);have ib:=ih b (by simp [hab]);have wa:=aa6 (t:=t) (x:=a) (by simp [hab]);have wb:=aa6 (t:=t) (x:=b) (by simp [hab]);have kds:=aP8 t a b hab (room:=room);have ga:=nodes_ge (t:=a) (room:=room - 1);have gb:=nodes_ge (t:=b) (room:=room - 1 - nodes a (room - 1));generalize nodes t room=N at lf bd kds nl |-;refine aE_ Tryz.func94 ?_;refine rS_ Tryz.func94 ?_;simp only [go_sem,seval]
   repeat' (first
    | ((refine D5 (fun hq=>?_) (fun hq=>?_))<;>(try simp only [go_sem,seval,hab,hq]))
    | (simp (disch:=omega) only [j6])
    | ((first
     | (refine (ia _ (by omega) (by omega) (by omega)).calls rfl ?_)
     | (refine (ib _ (by omega) (by omega) (by omega)).calls rfl ?_))<;>(try simp only [go_sem,seval,hab]))
    | fail)
   all_goals clear ia ib
   all_goals try clear ih
   all_goals try clear hnext
   all_goals first
    | (simp_all;done)
    | (simp_all;omega)
    | (simp_all;split<;>simp_all<;>omega)
    | (exfalso;omega)
    | assumption
  ·generalize nodes t room=N at lf bd nl |-
   refine aE_ Tryz.func94 ?_;refine rS_ Tryz.func94 ?_;simp only [go_sem,seval]
   repeat' (first
    | ((first | (refine D5 (fun hq=>?_) (fun hq=>?_)) | (refine y9 (fun x hx=>have hq:=hx;?_)))<;>(try simp only [go_sem,seval,hq]))
    | (simp (disch:=omega) only [j6])
    | ((refine (aA8 _ sd).calls rfl ?_)<;>(try simp only [go_sem,seval]))
    | fail)
   all_goals try clear ih
   all_goals try clear hnext
   all_goals first
    | (simp_all;done)
    | (simp_all;omega)
    | (simp_all;split<;>simp_all<;>omega)
    | (exfalso;omega)
    | assumption
theorem ad6 (t:Tm) (hw:wtL t.enc<=9000000):Gives Tryz.prog 57 [.agg t.enc] (.d (.bool (L9 t))):=by
 refine aE_ Tryz.func57 ?_;refine rS_ Tryz.func57 ?_;simp only [go_sem,seval]
 repeat' (first
  | ((refine (bc5 _ _ sd sd sd).calls rfl ?_)<;>(try simp only [go_sem,seval]))
  | fail)
 all_goals (rw [nodes_ok])
theorem Z8 (l:List Tm) (hl:∀t,t∈l->wtL t.enc<=9000000):Gives Tryz.prog 29 [.sl (l.map Tm.enc)] (.d (.bool (l.all L9))):=by
 refine aE_ Tryz.func29 ?_;refine rS_ Tryz.func29 ?_;simp only [go_sem,seval];refine AW.rng l [5,6] 7 5 (fun _:Unit=>[]) (fun H _=>H) (fun r _=>r.all L9=l.all L9) () rfl (by simp) rfl I4 (fun i x r acc hxi hdr hlt hm hinv hnext=>?_) (fun acc hinv=>?_)
 ·have hw:=hl x (c_ hxi)
  refine rS_ Tryz.func29 ?_;simp only [go_sem,seval,hlt,j5 hxi]
  repeat' (first
   | ((refine D5 (fun hq=>?_) (fun hq=>?_))<;>(try simp only [go_sem,seval,hq]))
   | (simp (disch:=omega) only [j6])
   | (refine hnext () _ ?_ I4)
   | ((refine (ad6 _ sd).calls rfl ?_)<;>(try simp only [go_sem,seval]))
   | fail)
  all_goals (simp_all;done)
 ·refine rS_ Tryz.func29 ?_
  simp only [go_sem,seval];simp_all
theorem aR1:∀(t:Tm) (most:Int),wtL t.enc<=9000000->-10000000<=most->most<=10000000->Gives Tryz.prog 118 [.agg t.enc,.int .i64 most] (.d (.int .i64 (countF t most))):=by
 intro t;induction t using Tm.ind with
 | h k i nm ks ih =>
  intro most hw h0 h1;have hwk:=fun x (hx:x∈ks)=>aa6 (t:=.mk k i nm ks) (x:=x) hx;have e4:(Tm.mk k i nm ks).args=ks:=rfl;have hc:=cnt_le_wt (.mk k i nm ks);simp only [Tm.cnt] at hc;refine aE_ Tryz.func118 ?_;refine rS_ Tryz.func118 ?_;simp only [go_sem,seval];simp only [go_sem,seval,e4];refine AW.rng ks [1,9,10] 11 9 (fun n:Int=>[(5,.d (.int .i64 n))]) (fun H _=>H) (fun r n=>1<=n/\n+Tm.cnts r<=1+Tm.cnts ks/\countL r most n=countF (.mk k i nm ks) most) 1 rfl (by simp) ⟨by omega,by omega,rfl⟩ I4 (fun i x r acc hxi hdr hlt hm hinv hnext=>?_) (fun acc hinv=>?_)
  ·have hx:=c_ hxi
   have ihx:=ih x hx;have hwx:=hwk x hx;have hcs:=count_spec x (most - acc);obtain ⟨v1,v2,v3⟩:=hinv;simp only [countL,Tm.cnts] at v2 v3;refine rS_ Tryz.func118 ?_;simp only [go_sem,seval,hlt,j5 hxi]
   repeat' (first
    | ((refine D5 (fun hq=>?_) (fun hq=>?_))<;>(try simp only [go_sem,seval,hq]))
    | (simp (disch:=omega) only [j6])
    | (refine hnext (acc+countF x (most - acc)) _ ⟨by omega,by omega,?_⟩ I4)
    | ((refine (ihx _ (by omega) (by omega) (by omega)).calls rfl ?_)<;>(try simp only [go_sem,seval]))
    | fail)
   all_goals clear hnext ihx ih
   ·rw [if_pos (by omega)] at v3;rw [v3]
   ·rw [if_neg (by omega)] at v3;exact v3
  ·refine rS_ Tryz.func118 ?_
   simp only [go_sem,seval];simp_all [countL]
theorem aR0:∀(t:Tm),wtL t.enc<=9000000->Gives Tryz.prog 119 [.agg t.enc] (.d (.bool (t.v?.isSome))):=by
 intro t;induction t using Tm.ind' with
 | h t ih =>
  intro hw;have hn:=bm7 t;have bd:=bj9 t;have lf:=ba0 t;have pr:=aZ9 t;by_cases h2:t.args.length=2
  ·obtain ⟨a,b,hab⟩:∃a b,t.args=[a,b]:=by
    match h:t.args,h2 with
    | [a,b],_=>exact ⟨a,b,rfl⟩
   have ia:=ih a (by simp [hab]);have ib:=ih b (by simp [hab]);have wa:=aa6 (t:=t) (x:=a) (by simp [hab]);have wb:=aa6 (t:=t) (x:=b) (by simp [hab]);generalize t.v?.isSome=N at bd lf pr |-;refine aE_ Tryz.func119 ?_;refine rS_ Tryz.func119 ?_;simp only [go_sem,seval]
   repeat' (first
    | ((refine D5 (fun hq=>?_) (fun hq=>?_))<;>(try simp only [go_sem,seval,hab,hq]))
    | ((first
     | (refine (ia (by omega)).calls rfl ?_)
     | (refine (ib (by omega)).calls rfl ?_))<;>(try simp only [go_sem,seval,hab]))
    | fail)
   all_goals clear ia ib
   all_goals try clear ih
   all_goals try clear hnext
   all_goals first
    | (simp_all;done)
    | (simp_all;omega)
    | (simp_all;split<;>simp_all<;>omega)
    | (exfalso;omega)
    | assumption
  ·generalize t.v?.isSome=N at bd lf pr |-
   refine aE_ Tryz.func119 ?_;refine rS_ Tryz.func119 ?_;simp only [go_sem,seval]
   repeat' (first
    | ((first | (refine D5 (fun hq=>?_) (fun hq=>?_)) | (refine y9 (fun x hx=>have hq:=hx;?_)))<;>(try simp only [go_sem,seval,hq]))
    | ((first
     | (refine (U9 _ _ _).calls rfl ?_)
     | (refine (az1 _ sd).calls rfl ?_))<;>(try simp only [go_sem,seval]))
    | fail)
   all_goals try clear ih
   all_goals try clear hnext
   all_goals first
    | (simp_all;done)
    | (simp_all;omega)
    | (simp_all;split<;>simp_all<;>omega)
    | (exfalso;omega)
    | assumption
theorem aj8 (t:Tm) (hw:wtL t.enc<=9000000):Gives Tryz.prog 78 [.agg t.enc] (.d (.bool (L9 t))):=by
 have hc:=count_ok t;generalize L9 t=N at hc |-;refine aE_ Tryz.func78 ?_;refine rS_ Tryz.func78 ?_;simp only [go_sem,seval]
 repeat' (first
  | ((refine D5 (fun hq=>?_) (fun hq=>?_))<;>(try simp only [go_sem,seval,hq]))
  | ((first
   | (refine (aR1 _ _ sd sd sd).calls rfl ?_)
   | (refine (aR0 _ sd).calls rfl ?_))<;>(try simp only [go_sem,seval]))
  | fail)
 all_goals first
  | (rw [<-hc,decide_eq_false (by omega)];rfl)
  | (simp_all;done)
theorem au2 (l:List Tm) (hl:∀t,t∈l->wtL t.enc<=9000000):Gives Tryz.prog 167 [.sl (l.map Tm.enc)] (.d (.bool (l.all L9))):=by
 refine aE_ Tryz.func167 ?_;refine rS_ Tryz.func167 ?_;simp only [go_sem,seval];refine AW.rng l [5,6] 7 5 (fun _:Unit=>[]) (fun H _=>H) (fun r _=>r.all L9=l.all L9) () rfl (by simp) rfl I4 (fun i x r acc hxi hdr hlt hm hinv hnext=>?_) (fun acc hinv=>?_)
 ·have hw:=hl x (c_ hxi)
  refine rS_ Tryz.func167 ?_;simp only [go_sem,seval,hlt,j5 hxi]
  repeat' (first
   | ((refine D5 (fun hq=>?_) (fun hq=>?_))<;>(try simp only [go_sem,seval,hq]))
   | (simp (disch:=omega) only [j6])
   | (refine hnext () _ ?_ I4)
   | ((refine (aj8 _ sd).calls rfl ?_)<;>(try simp only [go_sem,seval]))
   | fail)
  all_goals try clear ih
  all_goals try clear hnext
  all_goals first
   | (simp_all;done)
   | (simp_all;omega)
   | (simp_all;split<;>simp_all<;>omega)
   | (exfalso;omega)
   | assumption
 ·refine rS_ Tryz.func167 ?_
  simp only [go_sem,seval];simp_all
theorem ad5 (b:Bool):Gives Tryz.prog 81 [.bool b] (.d (.int .i64 (if b then -1 else 1))):=by
 refine aE_ Tryz.func81 ?_;refine rS_ Tryz.func81 ?_;simp only [go_sem,seval]
 repeat' (first
  | ((refine D5 (fun hq=>?_) (fun hq=>?_))<;>(try simp only [go_sem,seval,hq]))
  | fail)
 all_goals try clear ih
 all_goals try clear hnext
 all_goals first
  | (simp_all;done)
  | (simp_all;omega)
  | (simp_all;split<;>simp_all<;>omega)
  | (exfalso;omega)
  | assumption
theorem am2 (a b:Int):Gives Tryz.prog 129 [.int .i64 a,.int .i64 b] (.d (.int .i64 (F7 a b))):=by
 refine aE_ Tryz.func129 ?_;refine rS_ Tryz.func129 ?_;simp only [go_sem,seval]
 repeat' (first
  | ((refine D5 (fun hq=>?_) (fun hq=>?_))<;>(try simp only [go_sem,seval,hq]))
  | fail)
 all_goals try clear ih
 all_goals try clear hnext
 all_goals first
  | (simp_all [F7];done)
  | (simp_all [F7];omega)
  | (simp_all [F7];split<;>simp_all<;>omega)
  | (exfalso;omega)
  | assumption
theorem P7:∀(m:Nat) (a b:V),a.size<=m->Gives Tryz.prog 88 [.agg a.enc,.agg b.enc] (.d (.int .i64 (a.cmp b))):=by
 intro m;induction m with
 | zero=>intro a b h;have:=a.size_pos;omega
 | succ m ih =>
  intro a b hm;by_cases h:(∃x y,a=.pair x y)/\(∃x y,b=.pair x y)
  ·obtain ⟨⟨a1,a2,rfl⟩,b1,b2,rfl⟩:=h
   have:=a1.size_pos;have:=a2.size_pos;have hc:=V.cmp_pair a1 a2 b1 b2;have hab:∀x y:V,(V.pair x y).kids=[x,y]/\(V.pair x y).kind=4/\(V.pair x y).int=0/\(V.pair x y).name=[]:=fun _ _=>⟨rfl,rfl,rfl,rfl⟩;simp only [V.size] at hm;generalize V.cmp (.pair a1 a2) (.pair b1 b2)=N at hc |-;refine aE_ Tryz.func88 ?_;refine rS_ Tryz.func88 ?_;simp only [go_sem,seval];simp only [go_sem,seval,hab]
   repeat' (first
    | ((refine D5 (fun hq=>?_) (fun hq=>?_))<;>(try simp only [go_sem,seval,hab,hq]))
    | ((first
     | (refine (ih a1 b1 (by omega)).callQ rfl ?_)
     | (refine (ih a2 b2 (by omega)).callQ rfl ?_))<;>(try simp only [go_sem,seval,hab]))
    | fail)
   all_goals try clear ih
   all_goals try clear hnext
   all_goals first
    | (simp_all;done)
    | (simp_all;omega)
    | (simp_all;split<;>simp_all<;>omega)
    | (exfalso;omega)
    | assumption
  ·have hk:a.kind≠4\/b.kind≠4:=by
    rcases a.pair_or with ha | ⟨ha,_⟩
    ·rcases b.pair_or with hb | ⟨hb,_⟩
     ·exact absurd ⟨ha,hb⟩ h
     ·exact .inr hb
    ·exact .inl ha
   have hc:=V.cmp_else hk;generalize V.cmp a b=N at hc |-;clear ih h hm;refine aE_ Tryz.func88 ?_;refine rS_ Tryz.func88 ?_;simp only [go_sem,seval]
   repeat' (first
    | ((first | (refine D5 (fun hq=>?_) (fun hq=>?_)) | (refine y9 (fun x hx=>have hq:=hx;?_)))<;>(try simp only [go_sem,seval,hq]))
    | ((first
     | (refine (am2 _ _).calls rfl ?_)
     | (refine ⟨sd,?_⟩))<;>(try simp only [go_sem,seval]))
    | fail)
   all_goals first
    | (exfalso;omega)
    | (simp_all [F7];done)
    | (simp_all [F7];omega)
    | (simp_all [F7];split<;>simp_all<;>omega)
theorem ab8:∀(m:Nat) (a b:V),a.size<=m->Gives Tryz.prog 110 [.agg a.enc,.agg b.enc] (.d (.int .i64 (a.cmp b))):=by
 intro m;induction m with
 | zero=>intro a b h;have:=a.size_pos;omega
 | succ m ih =>
  intro a b hm;by_cases h:(∃x y,a=.pair x y)/\(∃x y,b=.pair x y)
  ·obtain ⟨⟨a1,a2,rfl⟩,b1,b2,rfl⟩:=h
   have:=a1.size_pos;have:=a2.size_pos;have hc:=V.cmp_pair a1 a2 b1 b2;have hab:∀x y:V,(V.pair x y).kids=[x,y]/\(V.pair x y).kind=4/\(V.pair x y).int=0/\(V.pair x y).name=[]:=fun _ _=>⟨rfl,rfl,rfl,rfl⟩;simp only [V.size] at hm;generalize V.cmp (.pair a1 a2) (.pair b1 b2)=N at hc |-;refine aE_ Tryz.func110 ?_;refine rS_ Tryz.func110 ?_;simp only [go_sem,seval];simp only [go_sem,seval,hab]
   repeat' (first
    | ((refine D5 (fun hq=>?_) (fun hq=>?_))<;>(try simp only [go_sem,seval,hab,hq]))
    | (simp (disch:=omega) only [j6])
    | ((first
     | (refine AW.loop ?_<;>(refine rS_ Tryz.func110 ?_))
     | (refine AW.round ?_<;>(refine rS_ Tryz.func110 ?_))
     | (refine (ih a1 b1 (by omega)).callQ rfl ?_)
     | (refine (ih a2 b2 (by omega)).callQ rfl ?_))<;>(try simp only [go_sem,seval,hab]))
    | fail)
   all_goals try clear ih
   all_goals try clear hnext
   all_goals first
    | (simp_all;done)
    | (simp_all;omega)
    | (simp_all;split<;>simp_all<;>omega)
    | (exfalso;omega)
    | assumption
  ·have hk:(a.kind≠4/\a.kids=[])\/(b.kind≠4/\b.kids=[]):=by
    rcases a.pair_or with ha | ha
    ·rcases b.pair_or with hb | hb
     ·exact absurd ⟨ha,hb⟩ h
     ·exact .inr hb
    ·exact .inl ha
   have hc:=V.cmp_else (a:=a) (b:=b) (by rcases hk with h | h;exact .inl h.1;exact .inr h.1);generalize V.cmp a b=N at hc |-;clear ih h hm;rcases hk with ⟨hk,hk'⟩ | ⟨hk,hk'⟩
   ·refine aE_ Tryz.func110 ?_
    refine rS_ Tryz.func110 ?_;simp only [go_sem,seval]
    repeat' (first
     | ((refine D5 (fun hq=>?_) (fun hq=>?_))<;>(try simp only [go_sem,seval,hk',hq]))
     | ((first
      | (refine AW.loop ?_<;>(refine rS_ Tryz.func110 ?_))
      | (refine (ad5 _).calls rfl ?_))<;>(try simp only [go_sem,seval,hk']))
     | fail)
    all_goals try clear ih
    all_goals try clear hnext
    all_goals first
     | (simp_all;done)
     | (simp_all;omega)
     | (simp_all;split<;>simp_all<;>omega)
     | (exfalso;omega)
     | assumption
   ·refine aE_ Tryz.func110 ?_
    refine rS_ Tryz.func110 ?_;simp only [go_sem,seval]
    repeat' (first
     | ((refine D5 (fun hq=>?_) (fun hq=>?_))<;>(try simp only [go_sem,seval,hk',hq]))
     | ((first
      | (refine AW.loop ?_<;>(refine rS_ Tryz.func110 ?_))
      | (refine (ad5 _).calls rfl ?_))<;>(try simp only [go_sem,seval,hk']))
     | fail)
    all_goals try clear ih
    all_goals try clear hnext
    all_goals first
     | (simp_all;done)
     | (simp_all;omega)
     | (simp_all;split<;>simp_all<;>omega)
     | (exfalso;omega)
     | assumption
theorem ak2 (a b:List V):Gives Tryz.prog 136 [.sl (a.map V.enc),.sl (b.map V.enc)] (.d (.int .i64 (V.cmpL a b))):=by
 refine aE_ Tryz.func136 ?_;refine rS_ Tryz.func136 ?_;simp only [go_sem,seval];refine AW.len 0 rfl (fun hl=>?_);simp only [maxLen,z_] at hl;refine AW.lp [0,1] (fun i:Nat=>[(5,.d (.int .i64 i))]) (fun H _=>H) (fun i=>i<=a.length/\i<=b.length/\V.cmpL (a.drop i) (b.drop i)=V.cmpL a b/\F7 ((a.drop i).length:Int) ((b.drop i).length:Int)=F7 (a.length:Int) (b.length:Int)) (fun i=>a.length - i) 0 ⟨by omega,by omega,rfl,rfl⟩ I4 ?_;rintro i ⟨hi,hj,hinv,hord⟩ hnext;by_cases h:i<a.length/\i<b.length
 ·obtain ⟨h1,h2⟩:=h
  have e1:a.drop i=a[i] :: a.drop (i+1):=u_ h1;have e2:b.drop i=b[i] :: b.drop (i+1):=u_ h2;have g1:a[i]? = some a[i]:=k_ h1;have g2:b[i]? = some b[i]:=k_ h2;generalize a[i]=x at e1 g1;generalize b[i]=y at e2 g2;rw [e1,e2,V.cmpL_cons] at hinv;have h1':(i:Int)<a.length:=by omega
  have h2':(i:Int)<b.length:=by omega
  refine rS_ Tryz.func136 ?_;simp only [go_sem,seval,h1',h2',j5 g1,j5 g2]
  repeat' (first
   | ((refine D5 (fun hq=>?_) (fun hq=>?_))<;>(try simp only [go_sem,seval,h1',h2',j5 g1,j5 g2,hq]))
   | (simp (disch:=omega) only [j6])
   | (refine hnext (i+1) _ ⟨by omega,by omega,by simp_all,?_⟩ (by omega) I4)
   | ((refine (P7 _ _ _ (b_ _)).callQ rfl ?_)<;>(try simp only [go_sem,seval,h1',h2',j5 g1,j5 g2]))
   | fail)
  all_goals clear hnext
  ·simp_all
  ·rw [<-hord];simp only [H_,F7];split<;>split<;>omega
 ·have hz:V.cmpL (a.drop i) (b.drop i)=F7 (a.length:Int) (b.length:Int):=by
   rw [<-hord];by_cases h1:i<a.length
   ·have:b.drop i=[]:=y_ (by omega)
    rw [this,V.cmpL_nil_right];rfl
   ·have:a.drop i=[]:=y_ (by omega)
    rw [this,V.cmpL_nil_left];rfl
  rw [hz] at hinv;clear hnext;refine rS_ Tryz.func136 ?_;simp only [go_sem,seval]
  repeat' (first
   | ((first | (refine D5 (fun hq=>?_) (fun hq=>?_)) | (refine y9 (fun x hx=>have hq:=hx;?_)))<;>(try simp only [go_sem,seval,hq]))
   | (simp (disch:=omega) only [j6])
   | ((first
    | (refine (P7 _ _ _ (b_ _)).callQ rfl ?_)
    | (refine (am2 _ _).calls rfl ?_)
    | (refine ⟨sd,?_⟩))<;>(try simp only [go_sem,seval]))
   | fail)
  all_goals try clear ih
  all_goals try clear hnext
  all_goals first
   | (simp_all;done)
   | (simp_all;omega)
   | (simp_all;split<;>simp_all<;>omega)
   | (exfalso;omega)
   | assumption
theorem aL3 (a b:List V):Gives Tryz.prog 82 [.sl (a.map V.enc),.sl (b.map V.enc)] (.d (.int .i64 (V.cmpL a b))):=by
 refine aE_ Tryz.func82 ?_;refine rS_ Tryz.func82 ?_;simp only [go_sem,seval];refine AW.len 0 rfl (fun hl=>?_);simp only [maxLen,z_] at hl;refine AW.lp [0,1] (fun i:Nat=>[(5,.d (.int .i64 i))]) (fun H _=>H) (fun i=>i<=a.length/\i<=b.length/\V.cmpL (a.drop i) (b.drop i)=V.cmpL a b/\F7 ((a.drop i).length:Int) ((b.drop i).length:Int)=F7 (a.length:Int) (b.length:Int)) (fun i=>a.length - i) 0 ⟨by omega,by omega,rfl,rfl⟩ I4 ?_;rintro i ⟨hi,hj,hinv,hord⟩ hnext;by_cases h:i<a.length/\i<b.length
 ·obtain ⟨h1,h2⟩:=h
  have e1:a.drop i=a[i] :: a.drop (i+1):=u_ h1;have e2:b.drop i=b[i] :: b.drop (i+1):=u_ h2;have g1:a[i]? = some a[i]:=k_ h1;have g2:b[i]? = some b[i]:=k_ h2;generalize a[i]=x at e1 g1;generalize b[i]=y at e2 g2;rw [e1,e2,V.cmpL_cons] at hinv;have h1':(i:Int)<a.length:=by omega
  have h2':(i:Int)<b.length:=by omega
  refine rS_ Tryz.func82 ?_;simp only [go_sem,seval,h1',h2',j5 g1,j5 g2]
  repeat' (first
   | ((refine D5 (fun hq=>?_) (fun hq=>?_))<;>(try simp only [go_sem,seval,h1',h2',j5 g1,j5 g2,hq]))
   | (simp (disch:=omega) only [j6])
   | (refine hnext (i+1) _ ⟨by omega,by omega,by simp_all,?_⟩ (by omega) I4)
   | ((refine (ab8 _ _ _ (b_ _)).callQ rfl ?_)<;>(try simp only [go_sem,seval,h1',h2',j5 g1,j5 g2]))
   | fail)
  all_goals clear hnext
  ·simp_all
  ·rw [<-hord];simp only [H_,F7];split<;>split<;>omega
 ·have hz:V.cmpL (a.drop i) (b.drop i)=F7 (a.length:Int) (b.length:Int):=by
   rw [<-hord];by_cases h1:i<a.length
   ·have:b.drop i=[]:=y_ (by omega)
    rw [this,V.cmpL_nil_right];rfl
   ·have:a.drop i=[]:=y_ (by omega)
    rw [this,V.cmpL_nil_left];rfl
  rw [hz] at hinv;clear hnext;generalize V.cmpL a b=N at hinv |-;unfold F7 at hinv;refine rS_ Tryz.func82 ?_;simp only [go_sem,seval]
  repeat' (first
   | ((first | (refine D5 (fun hq=>?_) (fun hq=>?_)) | (refine y9 (fun x hx=>have hq:=hx;?_)))<;>(try simp only [go_sem,seval,hq]))
   | (simp (disch:=omega) only [j6])
   | ((first
    | (refine (ad5 _).calls rfl ?_)
    | (refine (ab8 _ _ _ (b_ _)).callQ rfl ?_)
    | (refine ⟨sd,?_⟩))<;>(try simp only [go_sem,seval]))
   | fail)
  all_goals try clear ih
  all_goals try clear hnext
  all_goals first
   | (simp_all;done)
   | (simp_all;omega)
   | (simp_all;split<;>simp_all<;>omega)
   | (exfalso;omega)
   | assumption
theorem aE3 (r q:List UInt8) (a b:List V):Gives Tryz.prog 96 [.agg (Fc.enc ⟨r,a.map V.tm⟩),.agg (Fc.enc ⟨q,b.map V.tm⟩)] (.d (.int .i64 (O6 r a q b))):=by
 have hc:O6 r a q b=if r≠q then (if Op.bytesLess r q then -1 else 1) else V.cmpL a b:=rfl
 generalize O6 r a q b=N at hc |-;refine aE_ Tryz.func96 ?_;refine rS_ Tryz.func96 ?_;simp only [go_sem,seval];try simp only [go_sem,seval,K8]
 repeat' (first
  | ((refine D5 (fun hq=>?_) (fun hq=>?_))<;>(try simp only [go_sem,seval,K8,hq]))
  | ((refine (ak2 _ _).calls rfl ?_)<;>(try simp only [go_sem,seval,K8]))
  | fail)
 all_goals try clear ih
 all_goals try clear hnext
 all_goals first
  | (simp_all;done)
  | (simp_all;omega)
  | (simp_all;split<;>simp_all<;>omega)
  | (exfalso;omega)
  | assumption
theorem bn7 (r q:List UInt8) (a b:List V):Gives Tryz.prog 49 [.agg (Fc.enc ⟨r,a.map V.tm⟩),.agg (Fc.enc ⟨q,b.map V.tm⟩)] (.d (.int .i64 (O6 r a q b))):=by
 have hc:O6 r a q b=if r≠q then (if Op.bytesLess r q then -1 else 1) else V.cmpL a b:=rfl
 generalize O6 r a q b=N at hc |-;refine aE_ Tryz.func49 ?_;refine rS_ Tryz.func49 ?_;simp only [go_sem,seval];try simp only [go_sem,seval,K8]
 repeat' (first
  | ((refine D5 (fun hq=>?_) (fun hq=>?_))<;>(try simp only [go_sem,seval,K8,hq]))
  | ((first
   | (refine (ad5 _).calls rfl ?_)
   | (refine (aL3 _ _).calls rfl ?_))<;>(try simp only [go_sem,seval,K8]))
  | fail)
 all_goals try clear ih
 all_goals try clear hnext
 all_goals first
  | (simp_all;done)
  | (simp_all;omega)
  | (simp_all;split<;>simp_all<;>omega)
  | (exfalso;omega)
  | assumption
set_option maxHeartbeats 8000000
theorem Z9 (s:List UInt8) (hm:s.length<=9000000):Gives Tryz.prog 122 [.str s] (.d (.bool (U0 s))):=by
 have hr:U0 s=(!reserved.contains s && E8 s):=rfl;simp only [reserved] at hr;generalize U0 s=N at hr |-;refine aE_ Tryz.func122 ?_;refine rS_ Tryz.func122 ?_;simp only [go_sem,seval]
 repeat' (first
  | ((refine D5 (fun hq=>?_) (fun hq=>?_))<;>(try simp only [go_sem,seval,hq]))
  | ((refine (aA8 _ sd).calls rfl ?_)<;>(try simp only [go_sem,seval]))
  | fail)
 all_goals (simp_all;done)
theorem Z0 (s:List UInt8) (hm:s.length<=9000000):Gives Tryz.prog 106 [.str s] (.d (.bool (U0 s))):=by
 have hr:U0 s=(!reserved.contains s && E8 s):=rfl;simp only [reserved] at hr;generalize U0 s=N at hr |-;refine aE_ Tryz.func106 ?_;refine rS_ Tryz.func106 ?_;simp only [go_sem,seval]
 repeat' (first
  | ((refine D5 (fun hq=>?_) (fun hq=>?_))<;>(try simp only [go_sem,seval,hq]))
  | (simp (disch:=omega) only [j6])
  | ((first
   | (refine AW.loop ?_<;>(refine rS_ Tryz.func106 ?_))
   | (refine AW.round ?_<;>(refine rS_ Tryz.func106 ?_))
   | (refine (az1 _ sd).calls rfl ?_))<;>(try simp only [go_sem,seval]))
  | fail)
 all_goals first
  | (simp_all;done)
  | (simp_all;intro _;refine ⟨?_,?_,?_,?_,?_,?_,?_,?_,?_⟩<;>(intro h;subst h;contradiction))
theorem au1:∀(t:Gl) (most:Int),wtL t.enc<=9000000->-10000000<=most->most<=10000000->Gives Tryz.prog 148 [.agg t.enc,.int .i64 most] (.d (.int .i64 (t.countF most))):=by
 intro t;induction t using Gl.ind' with
 | h t ih =>
  intro most hw h0 h1;have hc:=Gl.cnt_le_wt t;have he:=Gl.countF_eq t most;rw [Gl.cnt_eq] at hc;generalize t.countF most=N at he |-;refine aE_ Tryz.func148 ?_;refine rS_ Tryz.func148 ?_;simp only [go_sem,seval];refine AW.rng t.goals [1,9,10] 11 9 (fun n:Int=>[(5,.d (.int .i64 n))]) (fun H _=>H) (fun r n=>1<=n/\n+Gl.cnts r<=1+Gl.cnts t.goals/\Gl.countL r most n=N) 1 rfl (by simp) ⟨by omega,by omega,he.symm⟩ I4 (fun i x r acc hxi hdr hlt hm hinv hnext=>?_) (fun acc hinv=>?_)
  ·have hx:=c_ hxi
   have ihx:=ih x hx;have hwx:=Gl.wt_goals hx;have hcs:=Gl.count_spec x (most - acc);obtain ⟨v1,v2,v3⟩:=hinv;simp only [Gl.countL,Gl.cnts] at v2 v3;refine rS_ Tryz.func148 ?_;simp only [go_sem,seval,hlt,j5 hxi]
   repeat' (first
    | ((refine D5 (fun hq=>?_) (fun hq=>?_))<;>(try simp only [go_sem,seval,hq]))
    | (simp (disch:=omega) only [j6])
    | (refine hnext (acc+x.countF (most - acc)) _ ⟨by omega,by omega,?_⟩ I4)
    | ((refine (ihx _ (by omega) (by omega) (by omega)).calls rfl ?_)<;>(try simp only [go_sem,seval]))
    | fail)
   all_goals clear hnext ihx ih
   ·rw [if_pos (by omega)] at v3;rw [v3]
   ·rw [if_neg (by omega)] at v3;exact v3
  ·obtain ⟨v1,v2,v3⟩:=hinv
   simp only [Gl.countL] at v3;refine rS_ Tryz.func148 ?_;simp only [go_sem,seval];simp_all
theorem an4:∀(t:Gl) (room:Int),wtL t.enc<=9000000->-10000000<=room->room<=10000000->Gives Tryz.prog 124 [.agg t.enc,.int .i64 room] (.d (.int .i64 (t.nodes room))):=by
 intro t;induction t using Gl.ind' with
 | h t ih =>
  intro room hw h0 h1;have hn:=Gl.wt_name t;have ht:∀x,x∈t.terms->wtL x.enc<=9000000:=fun x hx=>by have:=Gl.wt_terms hx;omega
  have nl:=Gl.nodes_lt (g:=t) (room:=room);have bd:=Gl.nodes_bad (g:=t) (room:=room);have lf:=Gl.nodes_leaf (g:=t) (room:=room);have kd:=Gl.nodes_kids (g:=t) (room:=room);rw [Gl.shape_eq] at bd lf;by_cases hr:room<1
  ·rw [nl hr]
   refine aE_ Tryz.func124 ?_;refine rS_ Tryz.func124 ?_;simp only [go_sem,seval]
   repeat' (first
    | ((first | (refine D5 (fun hq=>?_) (fun hq=>?_)) | (refine y9 (fun x hx=>have hq:=hx;?_)))<;>(try simp only [go_sem,seval,hq]))
    | ((first
     | (refine (Z8 _ sd).calls rfl ?_)
     | (refine (Z9 _ sd).calls rfl ?_)
     | (refine ⟨sd,?_⟩))<;>(try simp only [go_sem,seval]))
    | fail)
   all_goals try clear ih
   all_goals try clear hnext
   all_goals first
    | (simp_all;done)
    | (simp_all;omega)
    | (simp_all;split<;>simp_all<;>omega)
    | (exfalso;omega)
    | assumption
  by_cases hto:t.terms.all L9=true
  ·rw [hto] at bd lf kd
   simp only [B_,forall_const] at bd lf kd;generalize t.nodes room=N at nl bd lf kd |-
   have hform:t.form=(if t.kind=9 then U0 t.name && decide ((t.goals.length:Int)=0) && decide ((t.terms.length:Int)<=4)
    else if 0<=t.kind/\t.kind<=6 then decide (t.name=[]) && decide ((t.goals.length:Int)=0) && decide ((t.terms.length:Int)=r9 t.kind) && (if t.kind=6 then ai5 t.terms else true)
    else if t.kind=7\/t.kind=8 then decide (t.name=[]) && decide ((t.terms.length:Int)=0) && decide ((t.goals.length:Int)<=8)
    else if t.kind=10 then decide (t.name=[]) && decide ((t.terms.length:Int)=0) && decide ((t.goals.length:Int)=1) && Y5 t.goals
    else false):=rfl
   refine aE_ Tryz.func124 ?_;refine rS_ Tryz.func124 ?_;simp only [go_sem,seval]
   repeat' (first
    | ((first | (refine D5 (fun hq=>?_) (fun hq=>?_)) | (refine y9 (fun x hx=>have hq:=hx;?_)))<;>(try simp only [go_sem,seval,hto,hq]))
    | ((first
     | (refine (Z8 _ sd).calls rfl ?_)
     | (refine (Z9 _ sd).calls rfl ?_)
     | (refine ⟨sd,?_⟩))<;>(try simp only [go_sem,seval,hto]))
    | fail)
   all_goals try (exfalso;omega)
   all_goals try (clear ih;simp_all [r9,J9,J2];done)
   all_goals try (rw [bd (by clear bd lf kd nl ih;rw [Bool.and_eq_false_iff];left;rw [hform];clear hform;first | (simp [*];done) | (simp [*];intros;omega))];done)
   all_goals
    have hf:t.form=true:=by clear ih;simp_all [r9,J9,J2];try omega
    have hk:=kd hf (by omega);refine AW.rng t.goals [1,124,125] 126 124 (fun n:Int=>[(6,.d (.int .i64 n))]) (fun H _=>H) (fun r n=>1<=n/\n<=room/\Gl.nodeL r room n=N) 1 rfl (by simp) ⟨by omega,by omega,hk.symm⟩ I4 (fun i x r acc hxi hdr hlt hm hinv hnext=>?_) (fun acc hinv=>?_)
    ·have hx:=c_ hxi
     have ihx:=ih x hx;have hwx:=Gl.wt_goals hx;have hng:=Gl.nodes_ge (g:=x) (room:=room - acc);obtain ⟨v1,v2,v3⟩:=hinv;simp only [Gl.nodeL] at v3;refine rS_ Tryz.func124 ?_;simp only [go_sem,seval,hlt,j5 hxi]
     repeat' (first
      | ((refine D5 (fun hq=>?_) (fun hq=>?_))<;>(try simp only [go_sem,seval,hq]))
      | (simp (disch:=omega) only [j6])
      | (refine hnext (acc+x.nodes (room - acc)) _ ⟨by omega,by omega,?_⟩ I4)
      | ((refine (ihx _ (by omega) (by omega) (by omega)).calls rfl ?_)<;>(try simp only [go_sem,seval]))
      | fail)
     all_goals clear hnext ihx ih
     ·rw [if_pos (by omega)] at v3;rw [v3]
     ·rw [if_neg (by omega)] at v3;exact v3
    ·obtain ⟨v1,v2,v3⟩:=hinv
     simp only [Gl.nodeL] at v3;refine rS_ Tryz.func124 ?_;simp only [go_sem,seval];simp_all
  ·have hN:t.nodes room=-1:=bd (by simp [hto])
   rw [hN];simp only [o_] at hto;refine aE_ Tryz.func124 ?_;refine rS_ Tryz.func124 ?_;simp only [go_sem,seval]
   repeat' (first
    | ((refine D5 (fun hq=>?_) (fun hq=>?_))<;>(try simp only [go_sem,seval,hto,hq]))
    | ((refine (Z8 _ sd).calls rfl ?_)<;>(try simp only [go_sem,seval,hto]))
    | fail)
   all_goals try clear ih
   all_goals try clear hnext
   all_goals first
    | (simp_all;done)
    | (simp_all;omega)
    | (simp_all;split<;>simp_all<;>omega)
    | (exfalso;omega)
    | assumption
theorem be3 (t:Gl) (hw:wtL t.enc<=9000000):Gives Tryz.prog 99 [.agg t.enc] (.d (.bool (aa4 t))):=by
 refine aE_ Tryz.func99 ?_;refine rS_ Tryz.func99 ?_;simp only [go_sem,seval]
 repeat' (first
  | ((refine (an4 _ _ sd sd sd).calls rfl ?_)<;>(try simp only [go_sem,seval]))
  | fail)
 all_goals (rw [Gl.nodes_ok])
theorem aQ9:∀(t:Gl),wtL t.enc<=9000000->Gives Tryz.prog 149 [.agg t.enc] (.d (.bool t.shape)):=by
 intro t;induction t using Gl.ind' with
 | h t ih =>
  intro hw;have hn:=Gl.wt_name t;have ht:∀x,x∈t.terms->wtL x.enc<=9000000:=fun x hx=>by have:=Gl.wt_terms hx;omega
  have hs:=Gl.shape_eq t;have har:=al7 t.kind;have har2:=bg6 t.kind;have har6:=bs7 t.kind;generalize t.shape=N at hs |-
  have hform:t.form=(if t.kind=9 then U0 t.name && decide ((t.goals.length:Int)=0) && decide ((t.terms.length:Int)<=4)
    else if 0<=t.kind/\t.kind<=6 then decide (t.name=[]) && decide ((t.goals.length:Int)=0) && decide ((t.terms.length:Int)=r9 t.kind) && (if t.kind=6 then ai5 t.terms else true)
    else if t.kind=7\/t.kind=8 then decide (t.name=[]) && decide ((t.terms.length:Int)=0) && decide ((t.goals.length:Int)<=8)
    else if t.kind=10 then decide (t.name=[]) && decide ((t.terms.length:Int)=0) && decide ((t.goals.length:Int)=1) && Y5 t.goals
    else false):=rfl
  by_cases hk9:t.kind=9
  ·refine aE_ Tryz.func149 ?_
   refine rS_ Tryz.func149 ?_;simp only [go_sem,seval]
   repeat' (first
    | ((refine D5 (fun hq=>?_) (fun hq=>?_))<;>(try simp only [go_sem,seval,hk9,hq]))
    | ((first
     | (refine (U9 _ _ _).calls rfl ?_)
     | (refine (au2 _ sd).calls rfl ?_))<;>(try simp only [go_sem,seval,hk9]))
    | fail)
   all_goals try (exfalso;omega)
   all_goals try (clear ih;simp_all [r9,J9,J2];done)
   all_goals try (rw [hs,hform];clear hs hform ih;first | (simp [*,r9];done) | (simp [*,r9];omega) | (simp [*,r9];intros;omega))
   all_goals try (cases N<;>first | rfl | (exfalso;simp only [eq_comm (a:=true),d_] at hs;have hfi:=Gl.form_inv hs.1.1;clear hs hform;omega) | (exfalso;simp only [eq_comm (a:=true),d_] at hs;have hfi:=Gl.form_inv hs.1;clear hs hform;omega))
   all_goals
    refine AW.rng t.goals [1,61,62] 63 61 (fun _:Unit=>[]) (fun H _=>H) (fun r _=>r.all Gl.shape=t.goals.all Gl.shape) () rfl (by simp) rfl I4 (fun i x r acc hxi hdr hlt hm hinv hnext=>?_) (fun acc hinv=>?_)
    ·have hx:=c_ hxi
     have ihx:=ih x hx;have hwx:=Gl.wt_goals hx;rw [f_] at hinv;refine rS_ Tryz.func149 ?_;simp only [go_sem,seval,hlt,j5 hxi]
     repeat' (first
      | ((refine D5 (fun hq=>?_) (fun hq=>?_))<;>(try simp only [go_sem,seval,hq]))
      | (simp (disch:=omega) only [j6])
      | (refine hnext () _ ?_ I4)
      | ((refine (ihx (by omega)).calls rfl ?_)<;>(try simp only [go_sem,seval]))
      | fail)
     all_goals clear hnext ihx ih
     all_goals first | (rw [hs,<-hinv];clear hs;simp [*];done) | (rw [<-hinv];clear hs;simp [*];done)
    ·rw [g_] at hinv
     rw [<-hinv] at hs;clear hinv;refine rS_ Tryz.func149 ?_;simp only [go_sem,seval]
     repeat' (first
      | ((first | (refine D5 (fun hq=>?_) (fun hq=>?_)) | (refine y9 (fun x hx=>have hq:=hx;?_)))<;>(try simp only [go_sem,seval,hq]))
      | ((first
       | (refine (Z0 _ sd).calls rfl ?_)
       | (refine ⟨sd,?_⟩))<;>(try simp only [go_sem,seval]))
      | fail)
     all_goals try (exfalso;omega)
     all_goals try (clear ih;simp_all [r9,J9,J2];done)
     all_goals try (rw [hs,hform];clear hs hform ih;first | (simp [*,r9];done) | (simp [*,r9];omega) | (simp [*,r9];intros;omega))
     all_goals try (cases N<;>first | rfl | (exfalso;simp only [eq_comm (a:=true),d_] at hs;have hfi:=Gl.form_inv hs.1.1;clear hs hform;omega) | (exfalso;simp only [eq_comm (a:=true),d_] at hs;have hfi:=Gl.form_inv hs.1;clear hs hform;omega))
     all_goals try (rw [hs,Gl.form_simple (by omega) (by omega) (by assumption) (by omega) (by omega)];clear hs hform;simp [*];done)
     all_goals try (rw [hs,Gl.form_and (by omega) (by assumption) (by omega) (by omega)];clear hs hform;simp [*];done)
     all_goals try (rw [hs,Gl.form_6 (by omega) (by assumption) (by omega) (by omega) (by assumption)];clear hs hform;simp [*];done)
     all_goals try (rw [hs,Gl.form_10 (by omega) (by assumption) (by omega) (by omega) (by assumption)];clear hs hform;simp [*];done)
  ·refine aE_ Tryz.func149 ?_
   refine rS_ Tryz.func149 ?_;simp only [go_sem,seval]
   repeat' (first
    | (refine bJ1 (by omega) (by omega) ?_<;>(try simp only [go_sem,seval,hk9]))
    | ((refine D5 (fun hq=>?_) (fun hq=>?_))<;>(try simp only [go_sem,seval,hk9,hq]))
    | (simp (disch:=omega) only [j6])
    | ((first
     | (refine (U9 _ _ _).calls rfl ?_)
     | (refine (au2 _ sd).calls rfl ?_)
     | (refine ⟨sd,?_⟩))<;>(try simp only [go_sem,seval,hk9]))
    | fail)
   all_goals try (exfalso;omega)
   all_goals try (clear ih;simp_all [r9,J9,J2];done)
   all_goals try (rw [hs,hform];clear hs hform ih;first | (simp [*,r9];done) | (simp [*,r9];omega) | (simp [*,r9];intros;omega))
   all_goals try (cases N<;>first | rfl | (exfalso;simp only [eq_comm (a:=true),d_] at hs;have hfi:=Gl.form_inv hs.1.1;clear hs hform;omega) | (exfalso;simp only [eq_comm (a:=true),d_] at hs;have hfi:=Gl.form_inv hs.1;clear hs hform;omega))
   all_goals
    refine AW.rng t.goals [1,61,62] 63 61 (fun _:Unit=>[]) (fun H _=>H) (fun r _=>r.all Gl.shape=t.goals.all Gl.shape) () rfl (by simp) rfl I4 (fun i x r acc hxi hdr hlt hm hinv hnext=>?_) (fun acc hinv=>?_)
    ·have hx:=c_ hxi
     have ihx:=ih x hx;have hwx:=Gl.wt_goals hx;rw [f_] at hinv;refine rS_ Tryz.func149 ?_;simp only [go_sem,seval,hlt,j5 hxi]
     repeat' (first
      | ((refine D5 (fun hq=>?_) (fun hq=>?_))<;>(try simp only [go_sem,seval,hq]))
      | (simp (disch:=omega) only [j6])
      | (refine hnext () _ ?_ I4)
      | ((refine (ihx (by omega)).calls rfl ?_)<;>(try simp only [go_sem,seval]))
      | fail)
     all_goals clear hnext ihx ih
     all_goals first | (rw [hs,<-hinv];clear hs;simp [*];done) | (rw [<-hinv];clear hs;simp [*];done)
    ·rw [g_] at hinv
     rw [<-hinv] at hs;clear hinv;refine rS_ Tryz.func149 ?_;simp only [go_sem,seval]
     repeat' (first
      | ((first | (refine D5 (fun hq=>?_) (fun hq=>?_)) | (refine y9 (fun x hx=>have hq:=hx;?_)))<;>(try simp only [go_sem,seval,hq]))
      | ((first
       | (refine (Z0 _ sd).calls rfl ?_)
       | (refine ⟨sd,?_⟩))<;>(try simp only [go_sem,seval]))
      | fail)
     all_goals try (exfalso;omega)
     all_goals try (clear ih;simp_all [r9,J9,J2];done)
     all_goals try (rw [hs,hform];clear hs hform ih;first | (simp [*,r9];done) | (simp [*,r9];omega) | (simp [*,r9];intros;omega))
     all_goals try (cases N<;>first | rfl | (exfalso;simp only [eq_comm (a:=true),d_] at hs;have hfi:=Gl.form_inv hs.1.1;clear hs hform;omega) | (exfalso;simp only [eq_comm (a:=true),d_] at hs;have hfi:=Gl.form_inv hs.1;clear hs hform;omega))
     all_goals try (rw [hs,Gl.form_simple (by omega) (by omega) (by assumption) (by omega) (by omega)];clear hs hform;simp [*];done)
     all_goals try (rw [hs,Gl.form_and (by omega) (by assumption) (by omega) (by omega)];clear hs hform;simp [*];done)
     all_goals try (rw [hs,Gl.form_6 (by omega) (by assumption) (by omega) (by omega) (by assumption)];clear hs hform;simp [*];done)
     all_goals try (rw [hs,Gl.form_10 (by omega) (by assumption) (by omega) (by omega) (by assumption)];clear hs hform;simp [*];done)
theorem Q0 (t:Gl) (hw:wtL t.enc<=9000000):Gives Tryz.prog 111 [.agg t.enc] (.d (.bool (aa4 t))):=by
 have hc:=Gl.count_ok t;generalize aa4 t=N at hc |-;refine aE_ Tryz.func111 ?_;refine rS_ Tryz.func111 ?_;simp only [go_sem,seval]
 repeat' (first
  | ((refine D5 (fun hq=>?_) (fun hq=>?_))<;>(try simp only [go_sem,seval,hq]))
  | ((first
   | (refine (au1 _ _ sd sd sd).calls rfl ?_)
   | (refine (aQ9 _ sd).calls rfl ?_))<;>(try simp only [go_sem,seval]))
  | fail)
 all_goals first
  | (rw [<-hc,decide_eq_false (by omega)];rfl)
  | (simp_all;done)
theorem aJ4 (t:Gl) (hw:wtL t.enc<=9000000):Gives Tryz.prog 109 [.agg t.enc] (.d (.int .i64 (if aa4 t then t.countF 80 else 0))):=by
 refine aE_ Tryz.func109 ?_;refine rS_ Tryz.func109 ?_;simp only [go_sem,seval]
 repeat' (first
  | ((refine D5 (fun hq=>?_) (fun hq=>?_))<;>(try simp only [go_sem,seval,hq]))
  | ((first
   | (refine (Q0 _ sd).calls rfl ?_)
   | (refine (au1 _ _ sd sd sd).calls rfl ?_))<;>(try simp only [go_sem,seval]))
  | fail)
 all_goals try clear ih
 all_goals try clear hnext
 all_goals first
  | (simp_all;done)
  | (simp_all;omega)
  | (simp_all;split<;>simp_all<;>omega)
  | (exfalso;omega)
  | assumption
set_option maxHeartbeats 4000000
def fcE (f:FcV):List D:=f.fc.enc
@[go_sem] theorem bK1 (f:FcV):(fcE f).length=2:=Fc.enc_len _
theorem o6 (f:FcV):fcE f=[.str f.1,.sl (f.2.map V.enc)]:=by unfold fcE;rw [Fc.enc_eq];simp only [FcV.fc,K8]
theorem Q6 (a b:FcV):Gives Tryz.prog 96 [.agg (fcE a),.agg (fcE b)] (.d (.int .i64 (a.cmp b))):=aE3 a.1 b.1 a.2 b.2
noncomputable def bS7:TypeInfo:=(Tryz.prog.info? 43).get (by kernel_rfl)
noncomputable def ck3:TypeInfo:=(Tryz.prog.info? 99).get (by kernel_rfl)
theorem bS6 (n:Nat) (h2:2<=n):Lib.swapperK n bS7 25=9:=by
 have a:bS7.hasPointers=true:=by kernel_rfl
 have b:bS7.bytes=40:=by kernel_rfl
 have c:(n == 0)=false:=by simp;omega
 have d:(n == 1)=false:=by simp;omega
 simp [Lib.swapperK,a,b,c,d]
theorem aD5 (xs:List (List D)) (a b:FcV) (i j:Nat) (hi:xs[i]? = some (fcE a)) (hj:xs[j]? = some (fcE b)):ACalls Tryz.prog 135 [.d (.int .i64 i),.d (.int .i64 j),.cptr [.sl xs]] [] (fun c _=>c=.d (.bool (decide (a.cmp b<0)))):=by
 have h1:=(i_.1 hi).1;have h2:=(i_.1 hj).1;have n1:(i:Int)<(xs.length:Int):=by omega
 have n2:(j:Int)<(xs.length:Int):=by omega
 have ho:=Q6 a b;refine aE_ Tryz.func135 ?_;refine rS_ Tryz.func135 ?_;simp only [go_sem,seval,n1,n2,j5 hi,j5 hj]
 repeat' (first
  | ((refine ho.callQ rfl ?_)<;>(try simp only [go_sem,seval,n1,n2,j5 hi,j5 hj]))
  | fail)
theorem aJ2 {H:List O} {rb r q e:Nat} {xs:List FcV} (hb:H[rb]? = some (.box [.own r q])) (hr:H[r]? = some (.buf q 2 e (xs.map fcE))) (hne:rb≠r) (hrefs:H.all (O.refsLt H.length)=true) (hn:xs.length<=1000000000000) :
  ACalls Tryz.prog 134 [.ifc 99 (.own r q),.fn 135 [.ptr rb 0]] H (fun c H'=>c=.tup []/\∃ys:List FcV,ys.Perm xs/\ys.Pairwise (fun a b=>decide (b.cmp a<0)=false)/\H'=H.set r (.buf q 2 e (ys.map fcE))):=by
 have hz:bS7.size=2:=by kernel_rfl
 have hw:Wk (fun a b:FcV=>decide (a.cmp b<0)):=FcV.cmp_lin.wk;have hbl:=(i_.1 hb).1;have hrl:=(i_.1 hr).1
 have h:=aj7 Tryz.laysGt8 99 43 ck3 bS7 (by kernel_rfl) (by kernel_rfl) (by kernel_rfl) (by kernel_rfl) 25 (fun _=>by kernel_rfl) (fun _=>by kernel_rfl) 172 173 180
  (by kernel_rfl) (by kernel_rfl) (fun n h2=>by rw [bS6 n h2];kernel_rfl) false (fun args W=>run_callFunc_extern Tryz.func180 (by kernel_rfl) (by kernel_rfl) (by kernel_rfl) (e:=Extern.ReflectliteSwapper.swap false) (by kernel_rfl) args W)
  fcE (fun x=>(bK1 x).trans hz.symm) (fun a b=>decide (a.cmp b<0)) (g:=135) (caps:=[.ptr rb 0]) (H:=H) (r:=r) (q:=q) (e:=e) (xs:=xs) (by kernel_rfl) (by simp [C.refsLt1,hbl]) hrefs (by rw [hz];exact hr) hn
  (fun caps2 n m Hs h1 S f0=>bv5 hw h1 S f0)
  (fun f X i j hi hj=>ck0 hb hne hrl X (aD5 _ (f i) (f j) i j (M8 fcE f hi) (M8 fcE f hj)))
 rw [hz] at h;exact h
theorem aI9 (l:List FcV) (hl:l.length<=2000000):Gives Tryz.prog 95 [.sl (l.map fcE)] (.d (.sl ((ao0 FcV.cmp l).map fcE))):=by
 have hmx:maxLen=9223372036854775807:=rfl;have hmap:∀x:List FcV,(x.map fcE).length=x.length:=fun x=>z_ _;refine aE_ Tryz.func95 ?_;refine l7 Tryz.func95 mixed 3 _ _ (by kernel_rfl) ?_;simp only [go_sem,seval,run.eq_1];refine AW.regS ?_;simp only [go_sem,seval,hmap];refine ⟨by omega,by omega,?_⟩;have hst:ACalls Tryz.prog 134 [.ifc 99 (.own 0 1),.fn 135 [.ptr 1 0]] [.buf 1 2 43 (l.map fcE),.box [.own 0 1]] _:=aJ2 rfl rfl (by decide) rfl (by omega);refine l7 Tryz.func95 mixed 2 _ _ (by kernel_rfl) ?_;simp only [go_sem,seval,run.eq_1];refine hst.mono ?_;rintro c H' ⟨rfl,ys,hp,hs,rfl⟩;simp only [go_sem,seval,run.eq_1];refine AW.frzBox 1 0 0 rfl rfl rfl (by decide) ?_;refine l7 Tryz.func95 mixed 2 _ _ (by kernel_rfl) ?_;simp only [go_sem,seval,run.eq_1];refine AW.adopt 4 2 43 (by decide) rfl ?_;have hyl:ys.length=l.length:=hp.length_eq;have hR:ddC FcV.cmp none ys=ao0 FcV.cmp l:=bA4 FcV.cmp_lin (fun z=>hp.mem_iff) (hs.imp (fun h=>by simpa using h));rw [<-hR];refine rS_ Tryz.func95 ?_;simp only [go_sem,seval,hmap]
 refine AW.rng ys [3,15,16] 17 15 (fun p:List FcV=>[(4,.own 2 (ddC FcV.cmp none p).length)]) (fun _ p=>[.dead,.box [.d (.sl (ys.map fcE))],.grow (ddC FcV.cmp none p).length 2 43 ((ddC FcV.cmp none p).map fcE)]) (fun r p=>ys=p++r) [] rfl (by simp) rfl (by refine ⟨by simp [mkS,ddC],by simp [mkS,ddC],by simp only [mkS,f_,g_,O.refsLt,C.refsLt,C.refsLt1,l8];first | done | rfl | (simp;done),?_⟩;simp [mkS,Abs.get,C.refsLtT,C.refsLt,C.refsLt1,ddC]) (fun i x r p hxi hdr hlt hm hinv hnext=>?_) (fun p hinv=>?_)
 ·have hdl:=congrArg List.length hdr
  have hil:=congrArg List.length hinv;simp only [H_,h_,e_] at hdl hil;have hip:i=p.length:=by omega
  have hnx:=fun s'=>hnext (p++[x]) s' (by rw [hinv];simp);clear hnext;have hdd:=bA5 (c:=FcV.cmp) p none x;have hddl:(ddC FcV.cmp none p).length<=p.length:=by
   have key:∀(q:List FcV) (o:Option FcV),(ddC FcV.cmp o q).length<=q.length:=fun q=>by
    induction q with
    | nil=>intro o;simp [ddC]
    | cons z q ih =>
     intro o;cases o with
     | none=>simp only [ddC,h_];have:=ih (some z);omega
     | some w=>simp only [ddC];split<;>simp only [h_]<;>have:=ih (some z)<;>omega
   exact key p none
  rcases List.eq_nil_or_concat p with rfl | ⟨p',y,rfl⟩
  ·obtain rfl:i=0:=by simpa using hip
   have hd1:ddC FcV.cmp none ([]++[x])=[x]:=rfl;have hd0:ddC FcV.cmp none ([]:List FcV)=[]:=rfl;rw [hd1] at hnx;rw [hd0];have z0:((0:Nat):Int)=0:=rfl;have hlt0:(0:Int)<(ys.length:Int):=by omega
   rw [z0] at hnx;refine rS_ Tryz.func95 ?_;simp only [go_sem,seval,hlt0,j5 hxi,z0]
   repeat' (first
    | (simp (disch:=omega) only [j6])
    | ((refine ⟨sd,?_⟩)<;>(try simp only [go_sem,seval,hlt0,j5 hxi,z0]))
    | fail)
   refine hnx _ A7
  ·rw [List.concat_eq_append] at *
   have hi0:¬(i:Int)=0:=by rw [hip];simp;omega
   have hw1:IntKind.i64.wrap ((i:Int) - 1)=((i - 1:Nat):Int):=by rw [j6 (by omega) (by omega)];omega
   have n2:((i - 1:Nat):Int)<(ys.length:Int):=by omega
   have hyi:ys[i - 1]? = some y:=by
    rw [hinv,hip];simp
   have ho:=Q6 y x;have hlast:(((none:Option FcV).toList++(p'++[y])).getLast?)=some y:=by simp
   rw [hlast] at hdd;dsimp only at hdd;by_cases e:y.cmp x=0
   ·rw [if_pos e,j_] at hdd
    rw [e] at ho;rw [hdd] at hnx;refine rS_ Tryz.func95 ?_;simp only [go_sem,seval,hlt,j5 hxi,hi0,hw1,n2,j5 hyi,hmap]
    repeat' (first
     | (simp (disch:=omega) only [j6])
     | ((refine ho.callQ rfl ?_)<;>(try simp only [go_sem,seval,hlt,j5 hxi,hi0,hw1,n2,j5 hyi,hmap]))
     | fail)
    all_goals refine hnx _ A7
   ·rw [if_neg e] at hdd
    rw [hdd] at hnx;refine rS_ Tryz.func95 ?_;simp only [go_sem,seval,hlt,j5 hxi,hi0,hw1,n2,j5 hyi,hmap]
    repeat' (first
     | ((refine D5 (fun hq=>?_) (fun hq=>?_))<;>(try simp only [go_sem,seval,hlt,j5 hxi,hi0,hw1,n2,j5 hyi,hmap,e,hq]))
     | (simp (disch:=omega) only [j6])
     | ((first
      | (refine ho.callQ rfl ?_)
      | (refine ⟨sd,?_⟩))<;>(try simp only [go_sem,seval,hlt,j5 hxi,hi0,hw1,n2,j5 hyi,hmap,e]))
     | fail)
    all_goals first | (exfalso;exact e (by assumption)) | skip
    all_goals refine hnx _ A7
 ·rw [j_] at hinv
  rw [hinv];refine rS_ Tryz.func95 ?_;simp only [go_sem,seval]
theorem bS8 (x y:Nat) (h:x+y<=1000000000):IntKind.i64.wrap (bM7 .u64 (IntKind.u64.wrap ((x:Int)+(y:Int))) 1)=(((x+y) / 2:Nat):Int):=be5 x y (by omega)
theorem bk0 {g:FuncId} {caps:List C} {m:Nat} {H:List O} {p:Nat->Bool} (n:Nat) (hn:n<=100000000) (h:CloR Tryz.prog g caps m (fun i:Nat=>D.int .i64 (i:Int)) H (fun i=>i<n) (fun i=>.d (.bool (p i)))) (hm:∀i j,i<=j->j<n->p i=true->p j=true) :
  ACalls Tryz.prog 97 [.d (.int .i64 n),.fn g caps] H (fun c H'=>c=.d (.int .i64 (ax2 p n:Int))/\H'=H):=by
 obtain ⟨K,hK⟩:∃K,ax2 p n=K:=⟨_,rfl⟩;rw [hK];refine aE_ Tryz.func97 ?_;refine rS_ Tryz.func97 ?_;simp only [go_sem,seval,h.len,h.go,h.at0,h.atj,h.set0,h.setj,h.tk,h.tk0,h.tkj,h.refs,h.refsj,h.hcaps,h.capsj,a_];refine AW.lp [1] (fun u:Nat×Nat=>[(5,.d (.int .i64 (u.1:Int))),(6,.d (.int .i64 (u.2:Int)))]) (fun H _=>H) (fun u=>u.1<=u.2/\u.2<=n/\(∀i,i<u.1->p i=false)/\(∀i,u.2<=i->i<n->p i=true)) (fun u=>u.2 - u.1) (0,n) ⟨s_ _,b_ _,fun i hi=>absurd hi (Nat.not_lt_zero _),fun i a b=>by omega⟩ bN6 ?_;rintro ⟨i,j⟩ ⟨h1,h2,h3,h4⟩ hnext;dsimp only at h1 h2 h3 h4 hnext |-;by_cases hij:i<j
 ·have n1:(i:Int)<(j:Int):=by omega
  have hh:=bS8 i j (by omega);have w0:IntKind.i64.wrap ((i:Int)+(j:Int))=(i:Int)+(j:Int):=j6 (by omega) (by omega);have hnx:=fun i' j' s'=>hnext (i',j') s';clear hnext;have hq:(i+j) / 2<n:=by omega
  have hc:=h.call ((i+j) / 2) hq;cases hp:p ((i+j) / 2) with
  | false =>
   rw [hp] at hc;refine rS_ Tryz.func97 ?_;simp only [go_sem,seval,n1,w0,hh,h.len,h.go,h.at0,h.atj,h.set0,h.setj,h.tk,h.tk0,h.tkj,h.refs,h.refsj,h.hcaps,h.capsj,a_]
   repeat' (first
    | (simp (disch:=omega) only [j6])
    | ((refine hc.mono ?_<;>(rintro c H' ⟨rfl,rfl⟩))<;>(try simp only [go_sem,seval,n1,w0,hh,h.len,h.go,h.at0,h.atj,h.set0,h.setj,h.tk,h.tk0,h.tkj,h.refs,h.refsj,h.hcaps,h.capsj,a_]))
    | fail)
   refine hnx ((i+j) / 2+1) j _ ⟨by omega,h2,fun x hx=>?_,h4⟩ (by dsimp only;omega) bN6;cases hpx:p x with
   | false=>rfl
   | true=>rw [<-hp];exact (hm x _ (by omega) hq hpx).symm
  | true =>
   rw [hp] at hc;refine rS_ Tryz.func97 ?_;simp only [go_sem,seval,n1,w0,hh,h.len,h.go,h.at0,h.atj,h.set0,h.setj,h.tk,h.tk0,h.tkj,h.refs,h.refsj,h.hcaps,h.capsj,a_]
   repeat' (first
    | ((refine hc.mono ?_<;>(rintro c H' ⟨rfl,rfl⟩))<;>(try simp only [go_sem,seval,n1,w0,hh,h.len,h.go,h.at0,h.atj,h.set0,h.setj,h.tk,h.tk0,h.tkj,h.refs,h.refsj,h.hcaps,h.capsj,a_]))
    | fail)
   refine hnx i ((i+j) / 2) _ ⟨by omega,by omega,h3,fun x hx hxn=>hm _ x hx hxn hp⟩ (by dsimp only;omega) bN6
 ·have n1:¬(i:Int)<(j:Int):=by omega
  obtain rfl:i=j:=by omega
  have hki:K=i:=by rw [<-hK];exact bG5 h2 h3 (fun hlt=>h4 i (b_ _) hlt)
  rw [hki];refine rS_ Tryz.func97 ?_;simp only [go_sem,seval,n1,h.len,h.go,h.at0,h.atj,h.set0,h.setj,h.tk,h.tk0,h.tkj,h.refs,h.refsj,h.hcaps,h.capsj,a_]
theorem aL7 (l:List FcV) (f:FcV):CloR Tryz.prog 98 [.ptr 0 0,.ptr 1 0] 2 (fun i:Nat=>D.int .i64 (i:Int)) [.box [.d (.sl (l.map fcE))],.box ((fcE f).map .d)] (fun i=>i<l.length) (fun i=>.d (.bool (geC FcV.cmp l f i))):=by
 have hmap:∀x:List FcV,(x.map fcE).length=x.length:=fun x=>z_ _;refine ⟨by kernel_rfl,rfl,rfl,by simp only [f_,g_,O.refsLt,l8,C.refsLt,C.refsLt1];rfl,fun i hi=>?_⟩;have hb:l[i]? = some l[i]:=k_ hi;have hg:geC FcV.cmp l f i=decide (0<=l[i].cmp f):=by unfold geC;rw [hb]
 rw [hg];generalize l[i]=b at hb;have n1:(i:Int)<(l.length:Int):=by omega
 have ho:=Q6 b f;refine aE_ Tryz.func98 ?_;refine rS_ Tryz.func98 ?_;simp only [go_sem,seval,hmap,n1,j5 hb]
 repeat' (first
  | ((refine ho.callQ rfl ?_)<;>(try simp only [go_sem,seval,hmap,n1,j5 hb]))
  | fail)
 all_goals simp only [l8]
theorem Y0 (l:List FcV) (f:FcV) (hl:l.length<=9000000) (ha:an8 FcV.cmp l):Gives Tryz.prog 60 [.sl (l.map fcE),.agg (fcE f)] (.d (.bool (decide (f∈l)))):=by
 have hmap:∀x:List FcV,(x.map fcE).length=x.length:=fun x=>z_ _;have hs:=bk0 l.length (by omega) (aL7 l f) (bz2 FcV.cmp_lin ha f);have hh:=bv6 FcV.cmp_lin ha f;generalize ax2 (geC FcV.cmp l f) l.length=k at hs hh;cases hb:l[k]? with
 | none =>
  have hk:=List.getElem?_eq_none_iff.1 hb;have n1:¬(k:Int)<(l.length:Int):=by omega
  rw [hb] at hh;rw [decide_eq_false (fun h=>hh.2 h)];refine aE_ Tryz.func60 ?_;refine rS_ Tryz.func60 ?_;simp only [go_sem,seval,hmap,n1]
  repeat' (first
   | ((refine hs.mono ?_<;>(rintro c H' ⟨rfl,rfl⟩))<;>(try simp only [go_sem,seval,hmap,n1]))
   | fail)
 | some b =>
  have hk:=(i_.1 hb).1;have n1:(k:Int)<(l.length:Int):=by omega
  rw [hb] at hh;dsimp only at hh;have ho:=Q6 b f;rw [show decide (f∈l)=decide (b.cmp f=0) from by rw [Bool.eq_iff_iff,decide_eq_true_eq,decide_eq_true_eq];exact hh.symm];refine aE_ Tryz.func60 ?_;refine rS_ Tryz.func60 ?_;simp only [go_sem,seval,hmap,n1,j5 hb]
  repeat' (first
   | ((first
    | (refine hs.mono ?_<;>(rintro c H' ⟨rfl,rfl⟩))
    | (refine ho.callQ rfl ?_))<;>(try simp only [go_sem,seval,hmap,n1,j5 hb]))
   | fail)
def aN5 (c:List Gl):List D:=[.sl (c.map Gl.enc)]
theorem V4 (c:List Gl):(aN5 c).length=1:=rfl
theorem A9 (c:List Gl):aN5 c=[.sl (c.map Gl.enc)]:=rfl
def bg0 (o:Option (List (List Gl))):C:=.tup [.d (.sl ((o.getD []).map aN5)),.d (.bool o.isSome)]
theorem aM7 {x:Gl} {l:List (List Gl)} (h:x.clsI=some l):l.length<=64/\∀c,c∈l->c.length<=x.cnt:=by
 rw [Gl.cls_same] at h;split at h
 ·simp only [Option.some.injEq] at h
  subst h;exact ⟨by assumption,fun c hc=>(Gl.clsS_row x c hc).1⟩
 ·cases h
theorem aM8:∀t:Gl,wtL t.enc<=1048576->Gives Tryz.prog 89 [.agg t.enc] (bg0 t.clsI):=by
 intro t;induction t using Gl.ind' with
 | h t ih =>
  intro hw;have hmx:maxLen=9223372036854775807:=rfl;have hcn:=Gl.cnt_eq t;have hcw:=Gl.cnt_le_wt t;rw [Gl.clsI_eq];by_cases h0:t.kind=0
  ·rw [if_pos h0]
   refine aE_ Tryz.func89 ?_;refine rS_ Tryz.func89 ?_;simp only [go_sem,seval,h0];all_goals rfl
  ·rw [if_neg h0]
   by_cases h1:t.kind=1
   ·rw [if_pos h1]
    refine aE_ Tryz.func89 ?_;refine rS_ Tryz.func89 ?_;simp only [go_sem,seval,h0,h1];all_goals rfl
   ·rw [if_neg h1]
    by_cases h8:t.kind=8
    ·rw [if_pos h8]
     refine aE_ Tryz.func89 ?_;refine rS_ Tryz.func89 ?_;simp only [go_sem,seval,h0,h1,h8];refine AW.adopt 4 1 93 (by decide) rfl ?_;refine AW.rng t.goals [34,35] 36 34 (fun p:Nat×List (List Gl)=>[(4,.own 1 p.1)]) (fun _ p=>[.box (t.enc.map .d),.grow p.1 1 93 (p.2.map aN5)]) (fun r p=>p.2.length<=64/\Gl.orI r p.2=Gl.orI t.goals []) (0,[]) rfl (by simp) ⟨by simp,rfl⟩ A7 (fun i x r p hxi hdr hlt hm hinv hnext=>?_) (fun p hinv=>?_)
     ·have hxm:=c_ hxi
      obtain ⟨hi1,hi2⟩:=hinv;have hx:=ih x hxm (by have:=Gl.wt_goals hxm;omega);simp only [Gl.orI] at hi2;cases hcl:x.clsI with
      | none =>
       rw [hcl] at hx hi2;dsimp only at hi2;rw [<-hi2];refine rS_ Tryz.func89 ?_;simp only [go_sem,seval,hlt,j5 hxi]
       repeat' (first
        | ((refine hx.calls rfl ?_)<;>(try simp only [go_sem,seval,hlt,j5 hxi,bg0,Option.getD_none,Option.isSome_none]))
        | fail)
       all_goals rfl
      | some l =>
       obtain ⟨hl1,_⟩:=aM7 hcl;rw [hcl] at hx hi2;dsimp only at hi2;have hal:(p.2++l).length=p.2.length+l.length:=e_;by_cases hb:64<(p.2++l).length
       ·rw [if_pos hb] at hi2
        rw [<-hi2];have hlb:(64:Int)<p.2.length+l.length:=by omega
        refine rS_ Tryz.func89 ?_;simp only [go_sem,seval,hlt,j5 hxi]
        repeat' (first
         | ((refine D5 (fun hq=>?_) (fun hq=>?_))<;>(try simp only [go_sem,seval,hlt,j5 hxi,bg0,q_,v_,V4,hq]))
         | (simp (disch:=omega) only [j6])
         | ((first
          | (refine hx.calls rfl ?_)
          | (refine ⟨sd,?_⟩))<;>(try simp only [go_sem,seval,hlt,j5 hxi,bg0,q_,v_,V4]))
         | fail)
        all_goals first | (exfalso;omega) | skip
        all_goals rfl
       ·rw [if_neg hb] at hi2
        have hlb:¬(64:Int)<p.2.length+l.length:=by omega
        refine rS_ Tryz.func89 ?_;simp only [go_sem,seval,hlt,j5 hxi]
        repeat' (first
         | ((refine D5 (fun hq=>?_) (fun hq=>?_))<;>(try simp only [go_sem,seval,hlt,j5 hxi,bg0,q_,v_,V4,hq]))
         | (simp (disch:=omega) only [j6])
         | ((first
          | (refine hx.calls rfl ?_)
          | (refine ⟨sd,?_⟩))<;>(try simp only [go_sem,seval,hlt,j5 hxi,bg0,q_,v_,V4]))
         | fail)
        all_goals first | (exfalso;omega) | skip
        refine hnext (p.1+1,p.2++l) _ ⟨by show (p.2++l).length<=64;omega,hi2⟩ A7
     ·obtain ⟨hi1,hi2⟩:=hinv
      simp only [Gl.orI] at hi2;rw [<-hi2];refine rS_ Tryz.func89 ?_;simp only [go_sem,seval];all_goals rfl
    ·rw [if_neg h8]
     by_cases h7:t.kind=7
     ·rw [if_pos h7]
      refine aE_ Tryz.func89 ?_;refine rS_ Tryz.func89 ?_;simp only [go_sem,seval,h0,h1,h8,h7];refine AW.rng t.goals [59,60] 61 59 (fun p:List (List Gl)=>[(9,.d (.bool false)),(4,.d (.sl (p.map aN5)))]) (fun _ p=>[.box (t.enc.map .d)]) (fun r p=>p.length<=64/\Gl.andI r p=Gl.andI t.goals [[]]/\∀c,c∈p->c.length+Gl.cnts r<=Gl.cnts t.goals) [[]] rfl (by simp) ⟨by simp,rfl,by simp⟩ (by refine ⟨by simp [mkS,A9],by simp [mkS,A9],by simp only [mkS,f_,g_,O.refsLt,C.refsLt,C.refsLt1,l8];first | done | rfl | (simp;done),?_⟩;simp [mkS,Abs.get,C.refsLtT,C.refsLt,C.refsLt1,A9]) (fun i x r p hxi hdr hlt hm hinv hnext=>?_) (fun p hinv=>?_)
      ·have hxm:=c_ hxi
       obtain ⟨hi1,hi2,hi3⟩:=hinv;have hx:=ih x hxm (by have:=Gl.wt_goals hxm;omega);simp only [Gl.andI] at hi2;simp only [Gl.cnts] at hi3;cases hcl:x.clsI with
       | none =>
        rw [hcl] at hx hi2;dsimp only at hi2;rw [<-hi2];refine rS_ Tryz.func89 ?_;simp only [go_sem,seval,hlt,j5 hxi]
        repeat' (first
         | ((refine hx.calls rfl ?_)<;>(try simp only [go_sem,seval,hlt,j5 hxi,bg0,Option.getD_none,Option.isSome_none]))
         | fail)
        all_goals rfl
       | some l =>
        obtain ⟨hl1,hl2⟩:=aM7 hcl;rw [hcl] at hx hi2;dsimp only at hi2;have hpl:=ab3 p l;have hpb:p.length * l.length<=64 * 64:=Nat.mul_le_mul hi1 hl1;refine rS_ Tryz.func89 ?_;simp only [go_sem,seval,hlt,j5 hxi]
        repeat' (first
         | ((refine hx.calls rfl ?_)<;>(try simp only [go_sem,seval,hlt,j5 hxi,bg0,q_,v_]))
         | fail)
        refine AW.adopt 14 1 93 (by decide) rfl ?_;refine AW.rng p [9,12,59,60,61,73,74] 75 73 (fun u:Nat×List (List Gl)=>[(14,.own 2 u.1)]) (fun _ u=>[.box (t.enc.map .d),.box (x.enc.map .d),.grow u.1 1 93 (u.2.map aN5)]) (fun ar u=>u.2++F6 ar l=F6 p l) (0,[]) rfl (by simp) rfl A7 (fun ia a ar u hai hda hal hma hua hna=>?_) (fun u hua=>?_)
        ·have ham:=c_ hai
         have hac:=hi3 a ham;simp only [F6,x_] at hua;refine rS_ Tryz.func89 ?_;simp only [go_sem,seval,hal,j5 hai,A9];refine AW.rng l [9,12,16,59,60,61,73,74,75,79,80] 81 79 (fun v:Nat×List (List Gl)=>[(14,.own 2 v.1)]) (fun _ v=>[.box (t.enc.map .d),.box (x.enc.map .d),.grow v.1 1 93 (v.2.map aN5)]) (fun br v=>v.2++(br.map (fun y=>a++y)++F6 ar l)=F6 p l) u rfl (by simp) hua A7 (fun ib b br v hbi hdb hbl hmb hvb hnb=>?_) (fun v hvb=>?_)
         ·have hbm:=c_ hbi
          have hbc:=hl2 b hbm;have hvl:=congrArg List.length hvb;simp only [e_,p_,h_] at hvl;refine rS_ Tryz.func89 ?_;simp only [go_sem,seval,hbl,j5 hbi,A9]
          repeat' (first
           | (simp (disch:=omega) only [j6])
           | ((refine ⟨sd,?_⟩)<;>(try simp only [go_sem,seval,hbl,j5 hbi,A9]))
           | fail)
          refine hnb (v.1+1,v.2++[a++b]) _ (by rw [<-hvb];simp) (by refine ⟨by simp [mkS,A9],by simp [mkS,A9],by simp only [mkS,f_,g_,O.refsLt,C.refsLt,C.refsLt1,l8];first | done | rfl | (simp;done),?_⟩;simp [mkS,Abs.get,C.refsLtT,C.refsLt,C.refsLt1,A9])
         ·simp only [A_,w_] at hvb
          refine rS_ Tryz.func89 ?_;simp only [go_sem,seval]
          repeat' (first
           | (simp (disch:=omega) only [j6])
           | fail)
          refine hna v _ hvb A7
        ·simp only [F6,C_,j_] at hua
         have hub:u.2.length=p.length * l.length:=by rw [hua];exact hpl
         refine AW.readG 14 2 rfl rfl ?_;by_cases hb:64<(F6 p l).length
         ·rw [if_pos hb] at hi2
          rw [<-hi2];have hlb:(64:Int)<(u.2.length:Int):=by omega
          refine rS_ Tryz.func89 ?_;simp only [go_sem,seval,hlb];all_goals rfl
         ·rw [if_neg hb] at hi2
          have hlb:¬(64:Int)<(u.2.length:Int):=by omega
          refine rS_ Tryz.func89 ?_;simp only [go_sem,seval,hlb]
          repeat' (first
           | (simp (disch:=omega) only [j6])
           | fail)
          have hu2:u.2=F6 p l:=hua;refine hnext u.2 _ ⟨by omega,by rw [hu2];exact hi2,fun c hc=>?_⟩ A7;rw [hu2] at hc;obtain ⟨ca,cb,hca,hcb,rfl⟩:=as9 hc;have k1:=hi3 ca hca;have k2:=hl2 cb hcb;rw [e_];omega
      ·obtain ⟨hi1,hi2,_⟩:=hinv
       simp only [Gl.andI] at hi2;rw [<-hi2];refine rS_ Tryz.func89 ?_;simp only [go_sem,seval];all_goals rfl
     ·rw [if_neg h7]
      refine aE_ Tryz.func89 ?_;refine rS_ Tryz.func89 ?_;simp only [go_sem,seval,h0,h1,h8,h7];all_goals rfl
theorem aE6:∀t:Gl,wtL t.enc<=1048576->Gives Tryz.prog 112 [.agg t.enc] (.d (.sl (t.clsS.map aN5))):=by
 intro t;induction t using Gl.ind' with
 | h t ih =>
  intro hw;have hmx:maxLen=9223372036854775807:=rfl;have hcn:=Gl.cnt_eq t;have hcw:=Gl.cnt_le_wt t;rw [Gl.clsS_eq];by_cases h0:t.kind=0
  ·simp only [if_pos h0]
   refine aE_ Tryz.func112 ?_;refine rS_ Tryz.func112 ?_;simp only [go_sem,seval,h0];all_goals rfl
  ·simp only [if_neg h0]
   by_cases h1:t.kind=1
   ·simp only [if_pos h1]
    refine aE_ Tryz.func112 ?_;refine rS_ Tryz.func112 ?_;simp only [go_sem,seval,h0,h1];all_goals rfl
   ·simp only [if_neg h1]
    by_cases h8:t.kind=8
    ·simp only [if_pos h8]
     refine aE_ Tryz.func112 ?_;refine rS_ Tryz.func112 ?_;simp only [go_sem,seval,h0,h1,h8];refine AW.adopt 3 1 93 (by decide) rfl ?_;refine AW.rng t.goals [28,29] 30 28 (fun p:Nat×List (List Gl)=>[(3,.own 1 p.1)]) (fun _ p=>[.box (t.enc.map .d),.grow p.1 1 93 (p.2.map aN5)]) (fun r p=>p.2.length+64 * Gl.cnts r<=64 * Gl.cnts t.goals/\Gl.orS r p.2=Gl.orS t.goals []) (0,[]) rfl (by simp) ⟨by simp,rfl⟩ A7 (fun i x r p hxi hdr hlt hm hinv hnext=>?_) (fun p hinv=>?_)
     ·have hxm:=c_ hxi
      obtain ⟨hi1,hi2⟩:=hinv;have hx:=ih x hxm (by have:=Gl.wt_goals hxm;omega);have hxl:=Gl.clsS_len x;have hxp:=x.cnt_pos;simp only [Gl.orS] at hi2;simp only [Gl.cnts] at hi1;have hal:(p.2++x.clsS).length=p.2.length+x.clsS.length:=e_;by_cases hb:64<x.clsS.length
      ·rw [if_pos hb] at hi2
       rw [<-hi2];refine rS_ Tryz.func112 ?_;simp only [go_sem,seval,hlt,j5 hxi]
       repeat' (first
        | ((refine D5 (fun hq=>?_) (fun hq=>?_))<;>(try simp only [go_sem,seval,hlt,j5 hxi,V4,hq]))
        | (simp (disch:=omega) only [j6])
        | ((first
         | (refine hx.calls rfl ?_)
         | (refine ⟨sd,?_⟩))<;>(try simp only [go_sem,seval,hlt,j5 hxi,V4]))
        | fail)
       all_goals first | (exfalso;omega) | skip
      ·rw [if_neg hb] at hi2
       refine rS_ Tryz.func112 ?_;simp only [go_sem,seval,hlt,j5 hxi]
       repeat' (first
        | ((refine D5 (fun hq=>?_) (fun hq=>?_))<;>(try simp only [go_sem,seval,hlt,j5 hxi,V4,hq]))
        | (simp (disch:=omega) only [j6])
        | ((first
         | (refine hx.calls rfl ?_)
         | (refine ⟨sd,?_⟩))<;>(try simp only [go_sem,seval,hlt,j5 hxi,V4]))
        | fail)
       all_goals first | (exfalso;omega) | skip
       refine hnext (p.1+1,p.2++x.clsS) _ ⟨by dsimp only;omega,hi2⟩ A7
     ·obtain ⟨hi1,hi2⟩:=hinv
      simp only [Gl.orS] at hi2;rw [<-hi2];refine rS_ Tryz.func112 ?_;simp only [go_sem,seval]
    ·simp only [if_neg h8]
     by_cases h7:t.kind=7
     ·simp only [if_pos h7]
      refine aE_ Tryz.func112 ?_;refine rS_ Tryz.func112 ?_;simp only [go_sem,seval,h0,h1,h8,h7]
      repeat' (first
       | ((refine ⟨sd,?_⟩)<;>(try simp only [go_sem,seval,h0,h1,h8,h7]))
       | fail)
      refine AW.readG 3 1 rfl rfl ?_;refine AW.rng t.goals [52,53] 54 52 (fun p:List (List Gl)=>[(3,.d (.sl (p.map aN5)))]) (fun _ p=>[.box (t.enc.map .d)]) (fun r p=>p.length<=64/\Gl.andS r p=Gl.andS t.goals [[]]/\∀c,c∈p->c.length+Gl.cnts r<=Gl.cnts t.goals) [[]] rfl (by simp) ⟨by simp,rfl,by simp⟩ (by refine ⟨by simp [mkS,A9],by simp [mkS,A9],by simp only [mkS,f_,g_,O.refsLt,C.refsLt,C.refsLt1,l8];first | done | rfl | (simp;done),?_⟩;simp [mkS,Abs.get,C.refsLtT,C.refsLt,C.refsLt1,A9]) (fun i x r p hxi hdr hlt hm hinv hnext=>?_) (fun p hinv=>?_)
      ·have hxm:=c_ hxi
       obtain ⟨hi1,hi2,hi3⟩:=hinv;have hx:=ih x hxm (by have:=Gl.wt_goals hxm;omega);have hl2:∀c,c∈x.clsS->c.length<=x.cnt:=fun c hc=>(Gl.clsS_row x c hc).1;simp only [Gl.andS] at hi2;simp only [Gl.cnts] at hi3;by_cases hb1:64<x.clsS.length
       ·rw [if_pos hb1] at hi2
        rw [<-hi2];refine rS_ Tryz.func112 ?_;simp only [go_sem,seval,hlt,j5 hxi]
        repeat' (first
         | ((refine D5 (fun hq=>?_) (fun hq=>?_))<;>(try simp only [go_sem,seval,hlt,j5 hxi,hq]))
         | ((refine hx.calls rfl ?_)<;>(try simp only [go_sem,seval,hlt,j5 hxi]))
         | fail)
        all_goals first | (exfalso;omega) | skip
       ·rw [if_neg hb1] at hi2
        generalize x.clsS=l at *;have hpl:=ab3 p l;have hpb:p.length * l.length<=64 * 64:=Nat.mul_le_mul hi1 (by omega);refine rS_ Tryz.func112 ?_;simp only [go_sem,seval,hlt,j5 hxi]
        repeat' (first
         | ((refine D5 (fun hq=>?_) (fun hq=>?_))<;>(try simp only [go_sem,seval,hlt,j5 hxi,hq]))
         | ((refine hx.calls rfl ?_)<;>(try simp only [go_sem,seval,hlt,j5 hxi]))
         | fail)
        all_goals first | (exfalso;omega) | skip
        refine AW.adopt 10 1 93 (by decide) rfl ?_;refine AW.rng p [9,52,53,54,65,66] 67 65 (fun u:Nat×List (List Gl)=>[(10,.own 2 u.1)]) (fun _ u=>[.box (t.enc.map .d),.box (x.enc.map .d),.grow u.1 1 93 (u.2.map aN5)]) (fun ar u=>u.2++F6 ar l=F6 p l) (0,[]) rfl (by simp) rfl A7 (fun ia a ar u hai hda hal hma hua hna=>?_) (fun u hua=>?_)
        ·have ham:=c_ hai
         have hac:=hi3 a ham;simp only [F6,x_] at hua;refine rS_ Tryz.func112 ?_;simp only [go_sem,seval,hal,j5 hai,A9];refine AW.rng l [9,12,52,53,54,65,66,67,71,72] 73 71 (fun v:Nat×List (List Gl)=>[(10,.own 2 v.1)]) (fun _ v=>[.box (t.enc.map .d),.box (x.enc.map .d),.grow v.1 1 93 (v.2.map aN5)]) (fun br v=>v.2++(br.map (fun y=>a++y)++F6 ar l)=F6 p l) u rfl (by simp) hua A7 (fun ib b br v hbi hdb hbl hmb hvb hnb=>?_) (fun v hvb=>?_)
         ·have hbm:=c_ hbi
          have hbc:=hl2 b hbm;have hvl:=congrArg List.length hvb;simp only [e_,p_,h_] at hvl;refine rS_ Tryz.func112 ?_;simp only [go_sem,seval,hbl,j5 hbi,A9]
          repeat' (first
           | (simp (disch:=omega) only [j6])
           | ((refine ⟨sd,?_⟩)<;>(try simp only [go_sem,seval,hbl,j5 hbi,A9]))
           | fail)
          refine hnb (v.1+1,v.2++[a++b]) _ (by rw [<-hvb];simp) (by refine ⟨by simp [mkS,A9],by simp [mkS,A9],by simp only [mkS,f_,g_,O.refsLt,C.refsLt,C.refsLt1,l8];first | done | rfl | (simp;done),?_⟩;simp [mkS,Abs.get,C.refsLtT,C.refsLt,C.refsLt1,A9])
         ·simp only [A_,w_] at hvb
          refine rS_ Tryz.func112 ?_;simp only [go_sem,seval]
          repeat' (first
           | (simp (disch:=omega) only [j6])
           | fail)
          refine hna v _ hvb A7
        ·simp only [F6,C_,j_] at hua
         have hub:u.2.length=p.length * l.length:=by rw [hua];exact hpl
         have hu2:u.2=F6 p l:=hua;refine AW.readG 10 2 rfl rfl ?_;by_cases hb:64<(F6 p l).length
         ·rw [if_pos hb] at hi2
          rw [<-hi2];have hlb:(64:Int)<(u.2.length:Int):=by omega
          refine rS_ Tryz.func112 ?_;simp only [go_sem,seval,hlb];all_goals rw [hu2]
         ·rw [if_neg hb] at hi2
          have hlb:¬(64:Int)<(u.2.length:Int):=by omega
          refine rS_ Tryz.func112 ?_;simp only [go_sem,seval,hlb]
          repeat' (first
           | (simp (disch:=omega) only [j6])
           | fail)
          refine hnext u.2 _ ⟨by omega,by rw [hu2];exact hi2,fun c hc=>?_⟩ A7;rw [hu2] at hc;obtain ⟨ca,cb,hca,hcb,rfl⟩:=as9 hc;have k1:=hi3 ca hca;have k2:=hl2 cb hcb;rw [e_];omega
      ·obtain ⟨hi1,hi2,_⟩:=hinv
       simp only [Gl.andS] at hi2;rw [<-hi2];refine rS_ Tryz.func112 ?_;simp only [go_sem,seval]
     ·simp only [if_neg h7]
      refine aE_ Tryz.func112 ?_;refine rS_ Tryz.func112 ?_;simp only [go_sem,seval,h0,h1,h8,h7]
      repeat' (first
       | ((refine ⟨sd,?_⟩)<;>(try simp only [go_sem,seval,h0,h1,h8,h7]))
       | fail)
      all_goals rfl
def l2T (t:Tm):Prop:=ACalls Tryz.prog 83 [.d (.agg t.enc)] [.hole] fun c H'=>c=.agg [.d (.int .i64 t.kind),.d (.int .i64 t.int),.d (.str t.name),.own 0 1]/\∃e B,H'=[.tree 1 4 e (t.args.map Tm.enc) B none]
theorem bo3:∀t:Tm,wtL t.enc<=2000000->l2T t:=by
 intro t;induction t using Tm.ind' with
 | h t ih =>
  intro hw;have hmx:maxLen=9223372036854775807:=rfl;have hwr:wtR (t.args.map Tm.enc)<=2000000:=by
   simp only [Tm.enc_eq t,wtL,D.wt] at hw;omega
  have hlg0:t.args.length<=2000000:=by
   have:=D9 (t.args.map Tm.enc) 0;simp [Y7] at this;omega
  unfold l2T;refine aE_ Tryz.func83 ?_;refine l7 Tryz.func83 mixed 7 _ _ (by kernel_rfl) ?_;simp only [go_sem,seval,run.eq_1];refine AW.adoptTB 3 3 4 66 (by decide) rfl rfl ?_;refine rS_ Tryz.func83 ?_;simp only [go_sem,seval];refine AW.rng t.args [2,3,14,15] 16 14 (fun p:List Tm×(Nat->Prop)=>[]) (fun _ p=>[.hole,.box (t.enc.map .d),.box [.d (.int .i64 0),.d (.int .i64 0),.d (.str []),.nil0],.box [.d (.int .i64 t.kind),.d (.int .i64 t.int),.d (.str t.name),.own 4 p.1.length],.tree p.1.length 4 66 (p.1.map Tm.enc) p.2 none]) (fun r p=>p.1++r=t.args) ([],fun _=>False) rfl (by simp) rfl A7 (fun i x r p hxi hdr hlt hm hinv hnext=>?_) (fun p hinv=>?_)
  ·have hxm:=c_ hxi
   have hpl:p.1.length+(r.length+1)=t.args.length:=by rw [<-hinv];simp
   have hx:=ih x hxm (by have:=aa6 hxm;omega);unfold l2T at hx;refine AW.hole ?_;refine l7 Tryz.func83 mixed 9 _ _ (by kernel_rfl) ?_;simp only [go_sem,seval,run.eq_1,hlt,j5 hxi];refine AW.drawA mixed #[true,true,true,true,true,true,false,false] [(3,.box [.d (.int .i64 t.kind),.d (.int .i64 t.int),.d (.str t.name),.own 4 p.1.length]),(6,.box (x.enc.map .d))] [] [0,1,2,3,4,5] [6,7] none (by kernel_rfl) trivial (by simp [x8]) ?_;simp only [go_sem,seval]
   repeat' (first
    | ((first
     | (refine ACalls.fresh (ds:=[.agg x.enc]) (m:=1) hx [5] rfl rfl (by simp) (by simp) ?_<;>(rintro c H' ⟨rfl,e2,B2,rfl⟩ _;refine ⟨rfl,rfl,?_⟩))
     | (refine E9 (fun Bz=>?_))
     | (refine ⟨sd,?_⟩))<;>(try simp only [go_sem,seval]))
    | fail)
   refine rS_ Tryz.func83 ?_;simp only [go_sem,seval];try simp (disch:=omega) only [j6]
   refine hnext (p.1++[x],Bz) _ (by simp [<-hinv]) (by refine ⟨by simp [mkS,Tm.enc_eq x],by simp [mkS,Tm.enc_eq x],by simp only [mkS,f_,g_,O.refsLt,C.refsLt,C.refsLt1,l8];first | done | rfl | (simp;done),?_⟩;simp [mkS,Abs.get,C.refsLtT,C.refsLt,C.refsLt1])
  ·simp only [j_] at hinv
   rw [hinv];refine l7 Tryz.func83 mixed 7 _ _ (by kernel_rfl) ?_;simp only [go_sem,seval,run.eq_1];refine AW.placeB 2 3 4 0 rfl rfl rfl rfl (by decide) ?_;refine rS_ Tryz.func83 ?_;simp only [go_sem,seval]
   repeat' (first
    | (exact ⟨_,_,rfl⟩)
    | fail)
theorem am9 (l:List Tm) (hw:wtR (l.map Tm.enc)<=2000000):ACalls Tryz.prog 51 [.d (.sl (l.map Tm.enc))] [.hole] (fun c H'=>c=.own 0 1/\∃e B,H'=[.tree 1 4 e (l.map Tm.enc) B none]):=by
 have hmx:maxLen=9223372036854775807:=rfl;have hlen:l.length<=2000000:=by
  have:=D9 (l.map Tm.enc) 0;simp [Y7] at this;omega
 have hwl:∀x,x∈l->wtL x.enc<=2000000:=fun x hx=>by have:=G7 (l.map Tm.enc) x.enc (List.mem_map.2 ⟨x,hx,rfl⟩);omega
 refine aE_ Tryz.func51 ?_;refine l7 Tryz.func51 mixed 5 _ _ (by kernel_rfl) ?_;simp only [go_sem,seval,run.eq_1];refine AW.adoptT 3 4 66 (by decide) rfl ?_;refine rS_ Tryz.func51 ?_;simp only [go_sem,seval];refine AW.rng l [7,8] 9 7 (fun p:List Tm×(Nat->Prop)=>[(3,.own 1 p.1.length)]) (fun _ p=>[.hole,.tree p.1.length 4 66 (p.1.map Tm.enc) p.2 none]) (fun r p=>p.1++r=l) ([],fun _=>False) rfl (by simp) rfl A7 (fun i x r p hxi hdr hlt hm hinv hnext=>?_) (fun p hinv=>?_)
 ·have hpl:p.1.length+(r.length+1)=l.length:=by rw [<-hinv];simp
  have hx:=bo3 x (hwl x (c_ hxi));unfold l2T at hx;refine AW.hole ?_;refine l7 Tryz.func51 mixed 9 _ _ (by kernel_rfl) ?_;simp only [go_sem,seval,run.eq_1,hlt,j5 hxi];refine AW.regT ?_;simp only [go_sem,seval]
  repeat' (first
   | ((first
    | (refine ACalls.fresh (ds:=[.agg x.enc]) (m:=1) hx [2] rfl rfl (by simp) (by simp) ?_<;>(rintro c H' ⟨rfl,e1,B1,rfl⟩ _;refine ⟨rfl,rfl,?_⟩))
    | (refine E9 (fun Bz=>?_))
    | (refine ⟨sd,?_⟩))<;>(try simp only [go_sem,seval,hlt,j5 hxi]))
   | fail)
  refine rS_ Tryz.func51 ?_;simp only [go_sem,seval];try simp (disch:=omega) only [j6]
  refine hnext (p.1++[x],Bz) _ (by simp [<-hinv]) (by refine ⟨by simp [mkS,Tm.enc_eq x],by simp [mkS,Tm.enc_eq x],by simp only [mkS,f_,g_,O.refsLt,C.refsLt,C.refsLt1,l8];first | done | rfl | (simp;done),?_⟩;simp [mkS,Abs.get,C.refsLtT,C.refsLt,C.refsLt1])
 ·simp only [j_] at hinv
  subst hinv;refine l7 Tryz.func51 mixed 7 _ _ (by kernel_rfl) ?_;simp only [go_sem,seval,run.eq_1];refine AW.place 2 1 0 rfl rfl rfl (by decide) ?_;refine rS_ Tryz.func51 ?_;simp only [go_sem,seval];all_goals exact ⟨_,_,rfl⟩
def bW8 (t:Gl):Prop:=ACalls Tryz.prog 150 [.d (.agg t.enc)] [.hole,.hole] fun c H'=>c=.agg [.d (.int .i64 t.kind),.d (.str t.name),.own 0 1,.own 1 1]/\∃e B e' B',H'=[.tree 1 4 e (t.terms.map Tm.enc) B none,.tree 1 4 e' (t.goals.map Gl.enc) B' none]
theorem bo0:∀t:Gl,wtL t.enc<=2000000->bW8 t:=by
 intro t;induction t using Gl.ind' with
 | h t ih =>
  intro hw;have hmx:maxLen=9223372036854775807:=rfl;have hwt:wtR (t.terms.map Tm.enc)<=2000000/\wtR (t.goals.map Gl.enc)<=2000000:=by
   simp only [Gl.enc_eq t,wtL,D.wt] at hw;omega
  have hlg0:t.goals.length<=2000000:=by
   have:=D9 (t.goals.map Gl.enc) 0;simp [Y7] at this;omega
  have hct:=am9 t.terms hwt.1;unfold bW8;refine aE_ Tryz.func150 ?_;refine l7 Tryz.func150 mixed 3 _ _ (by kernel_rfl) ?_;simp only [go_sem,seval,run.eq_1];refine AW.drawA mixed #[true,true,true,true,true,true,true,true,true,false] [(2,.box (t.enc.map .d))] [] [0,1,2,3,4,5,8,6,7] [9] (some (8,3,95,[.int .i64 0,.string ⟨#[]⟩,.slice none 0 0,.slice none 0 0])) (by kernel_rfl) cw2 (by simp [x8]) ?_;simp only [go_sem,seval]
  repeat' (first
   | ((refine ACalls.fresh (ds:=[.sl (t.terms.map Tm.enc)]) (m:=1) hct [0] rfl rfl (by simp) (by simp) ?_<;>(rintro c H' ⟨rfl,e1,B1,rfl⟩ _;refine ⟨rfl,rfl,?_⟩))<;>(try simp only [go_sem,seval]))
   | fail)
  refine AW.adoptTB 4 3 4 95 (by decide) rfl rfl ?_;refine rS_ Tryz.func150 ?_;simp only [go_sem,seval];refine AW.rng t.goals [2,3,15,16] 17 15 (fun p:List Gl×(Nat->Prop)=>[]) (fun _ p=>[.tree 1 4 e1 (t.terms.map Tm.enc) B1 none,.hole,.box (t.enc.map .d),.box [.d (.int .i64 0),.d (.str []),.nil0,.nil0],.box [.d (.int .i64 t.kind),.d (.str t.name),.own 0 1,.own 5 p.1.length],.tree p.1.length 4 95 (p.1.map Gl.enc) p.2 none]) (fun r p=>p.1++r=t.goals) ([],fun _=>False) rfl (by simp) rfl A7 (fun i x r p hxi hdr hlt hm hinv hnext=>?_) (fun p hinv=>?_)
  ·have hxm:=c_ hxi
   have hpl:p.1.length+(r.length+1)=t.goals.length:=by rw [<-hinv];simp
   have hx:=ih x hxm (by have:=Gl.wt_goals hxm;omega);unfold bW8 at hx;refine AW.hole ?_;refine AW.hole ?_;refine l7 Tryz.func150 mixed 9 _ _ (by kernel_rfl) ?_;simp only [go_sem,seval,run.eq_1,hlt,j5 hxi];refine AW.drawA mixed #[true,true,true,true,true,true,false,false] [(4,.box [.d (.int .i64 t.kind),.d (.str t.name),.own 0 1,.own 5 p.1.length]),(8,.box (x.enc.map .d))] [] [0,1,2,3,4,5] [6,7] none (by kernel_rfl) trivial (by simp [x8]) ?_;simp only [go_sem,seval]
   repeat' (first
    | ((first
     | (refine ACalls.fresh (ds:=[.agg x.enc]) (m:=2) hx [6,7] rfl rfl (by simp) (by simp) ?_<;>(rintro c H' ⟨rfl,e2,B2,e3,B3,rfl⟩ _;refine ⟨rfl,rfl,?_⟩))
     | (refine E9 (fun Bz=>?_))
     | (refine ⟨sd,?_⟩))<;>(try simp only [go_sem,seval]))
    | fail)
   refine rS_ Tryz.func150 ?_;simp only [go_sem,seval];try simp (disch:=omega) only [j6]
   refine hnext (p.1++[x],Bz) _ (by simp [<-hinv]) (by refine ⟨by simp [mkS,Gl.enc_eq x],by simp [mkS,Gl.enc_eq x],by simp only [mkS,f_,g_,O.refsLt,C.refsLt,C.refsLt1,l8];first | done | rfl | (simp;done),?_⟩;simp [mkS,Abs.get,C.refsLtT,C.refsLt,C.refsLt1])
  ·simp only [j_] at hinv
   rw [hinv];refine l7 Tryz.func150 mixed 7 _ _ (by kernel_rfl) ?_;simp only [go_sem,seval,run.eq_1];refine AW.placeB 3 3 5 1 rfl rfl rfl rfl (by decide) ?_;refine rS_ Tryz.func150 ?_;simp only [go_sem,seval]
   repeat' (first
    | (exact ⟨_,_,_,_,rfl⟩)
    | fail)
theorem bd6 (t:Gl) (hw:wtL t.enc<=2000000):Gives Tryz.prog 150 [.agg t.enc] (.d (.agg t.enc)):=by
 have h:=bo0 t hw;unfold bW8 at h;refine ACalls.frozen (ds:=[.agg t.enc]) (m:=2) h (fun c H' ⟨h1,e,B,e',B',h2⟩ _=>?_);subst h1 h2;rw [Gl.enc_eq t];rfl
theorem bd2 (l:List Gl) (hl:l.length<=2000000) (hw:∀x,x∈l->wtL x.enc<=2000000):Gives Tryz.prog 113 [.sl (l.map Gl.enc)] (.d (.sl (l.map Gl.enc))):=by
 have hmx:maxLen=9223372036854775807:=rfl;refine aE_ Tryz.func113 ?_;refine rS_ Tryz.func113 ?_;simp only [go_sem,seval];refine AW.adopt 3 4 95 (by decide) rfl ?_;refine AW.rng l [7,8] 9 7 (fun p:Nat×List Gl=>[(3,.own 0 p.1)]) (fun _ p=>[.grow p.1 4 95 (p.2.map Gl.enc)]) (fun r p=>p.2++r=l) (0,[]) rfl (by simp) rfl A7 (fun i x r p hxi hdr hlt hm hinv hnext=>?_) (fun p hinv=>?_)
 ·have hxm:=c_ hxi
  have hxw:=hw x hxm;have hpl:p.2.length+(r.length+1)=l.length:=by rw [<-hinv];simp
  refine rS_ Tryz.func113 ?_;simp only [go_sem,seval,hlt,j5 hxi]
  repeat' (first
   | (simp (disch:=omega) only [j6])
   | ((first
    | (refine (bd6 x hxw).calls rfl ?_)
    | (refine ⟨sd,?_⟩))<;>(try simp only [go_sem,seval,hlt,j5 hxi]))
   | fail)
  refine hnext (p.1+1,p.2++[x]) _ (by simp [<-hinv]) A7
 ·simp only [j_] at hinv
  subst hinv;refine rS_ Tryz.func113 ?_;simp only [go_sem,seval]
theorem bG2 {t:Gl} (h:wtL t.enc<=1048576):∀x,x∈t.subs->wtL x.enc<=1048576:=
 Gl.subs_ind (Q:=fun x=>wtL x.enc<=1048576) (fun t ht x hx=>by have:=Gl.wt_goals hx;omega) t h
theorem aD7 (t:Gl) (hw:wtL t.enc<=1048576):Gives Tryz.prog 70 [.agg t.enc] (bg0 (if aa4 t=true/\t.clsS.length<=64 then some t.clsS else none)):=by
 have hmx:maxLen=9223372036854775807:=rfl;have hlc:=aE6 t hw;have hcw:=Gl.cnt_le_wt t;by_cases hok:aa4 t=true
 ·by_cases hl:t.clsS.length<=64
  ·rw [if_pos ⟨hok,hl⟩]
   have hrow:=Gl.clsS_row t;have hsw:=bG2 hw;generalize t.clsS=L at *;refine aE_ Tryz.func70 ?_;refine rS_ Tryz.func70 ?_;simp only [go_sem,seval,hok]
   repeat' (first
    | ((refine D5 (fun hq=>?_) (fun hq=>?_))<;>(try simp only [go_sem,seval,hok,hq]))
    | ((first
     | (refine hlc.calls rfl ?_)
     | (refine (Q0 _ sd).calls rfl ?_))<;>(try simp only [go_sem,seval,hok]))
    | fail)
   all_goals first | (exfalso;omega) | skip
   refine AW.adopt 5 1 93 (by decide) rfl ?_;refine AW.rng L [17,18] 19 17 (fun p:Nat×List (List Gl)=>[(5,.own 1 p.1)]) (fun _ p=>[.box (t.enc.map .d),.grow p.1 1 93 (p.2.map aN5)]) (fun r p=>p.2++r=L) (0,[]) rfl (by simp) rfl A7 (fun i c r p hxi hdr hlt hm hinv hnext=>?_) (fun p hinv=>?_)
   ·have hcm:=c_ hxi
    obtain ⟨hr1,hr2⟩:=hrow c hcm;have hcc:=bd2 c (by omega) (fun x hx=>Nat.le_trans (hsw x (hr2 x hx)) (by decide));have hpl:p.2.length+(r.length+1)=L.length:=by rw [<-hinv];simp
    refine rS_ Tryz.func70 ?_;simp only [go_sem,seval,hlt,j5 hxi,A9]
    repeat' (first
     | (simp (disch:=omega) only [j6])
     | ((first
      | (refine hcc.calls rfl ?_)
      | (refine ⟨sd,?_⟩))<;>(try simp only [go_sem,seval,hlt,j5 hxi,A9]))
     | fail)
    refine hnext (p.1+1,p.2++[c]) _ (by simp [<-hinv]) (by refine ⟨by simp [mkS,A9],by simp [mkS,A9],by simp only [mkS,f_,g_,O.refsLt,C.refsLt,C.refsLt1,l8];first | done | rfl | (simp;done),?_⟩;simp [mkS,Abs.get,C.refsLtT,C.refsLt,C.refsLt1,A9])
   ·simp only [j_] at hinv
    subst hinv;refine rS_ Tryz.func70 ?_;simp only [go_sem,seval];all_goals rfl
  ·rw [if_neg (by simp [hl])]
   refine aE_ Tryz.func70 ?_;refine rS_ Tryz.func70 ?_;simp only [go_sem,seval,hok]
   repeat' (first
    | ((refine D5 (fun hq=>?_) (fun hq=>?_))<;>(try simp only [go_sem,seval,hok,hq]))
    | ((first
     | (refine hlc.calls rfl ?_)
     | (refine (Q0 _ sd).calls rfl ?_))<;>(try simp only [go_sem,seval,hok]))
    | fail)
   all_goals first | (exfalso;omega) | skip
   all_goals rfl
 ·simp only [o_] at hok
  rw [if_neg (by simp [hok])];refine aE_ Tryz.func70 ?_;refine rS_ Tryz.func70 ?_;simp only [go_sem,seval,hok]
  repeat' (first
   | ((refine (Q0 _ sd).calls rfl ?_)<;>(try simp only [go_sem,seval,hok]))
   | fail)
  all_goals rfl
theorem aB1 {Acc:Type} {g:FuncId} {caps:List C} {m:Nat} {Hs:Acc->List O} {step:Acc->Int->Acc} (h:Clo Tryz.prog g caps m (fun n:Int=>D.int .i64 n) Hs (fun _=>True) step) :
  ∀(v:V) (a:Acc),ACalls Tryz.prog 139 [.d (.agg v.enc),.fn g caps] (Hs a) (fun c H'=>c=.tup []/\H'=Hs (v.vars.foldl step a)):=by
 intro v;induction v with
 | pair x y ihx ihy =>
  intro a;refine aE_ Tryz.func139 ?_;refine rS_ Tryz.func139 ?_;simp only [go_sem,seval,h.len,h.go,h.at0,h.atj,h.set0,h.setj,h.tk,h.tk0,h.tkj,h.refs,h.refsj,h.hcaps,h.capsj,a_,V.kind,V.int,V.kids]
  repeat' (first
   | ((first
    | (refine h.sub (ihx _) ?_)
    | (refine h.sub (ihy _) ?_))<;>(try simp only [go_sem,seval,h.len,h.go,h.at0,h.atj,h.set0,h.setj,h.tk,h.tk0,h.tkj,h.refs,h.refsj,h.hcaps,h.capsj,a_,V.kind,V.int,V.kids]))
   | fail)
  simp only [V.vars,m_]
 | _ =>
  intro a;refine aE_ Tryz.func139 ?_;refine rS_ Tryz.func139 ?_;simp only [go_sem,seval,h.len,h.go,h.at0,h.atj,h.set0,h.setj,h.tk,h.tk0,h.tkj,h.refs,h.refsj,h.hcaps,h.capsj,a_,V.kind,V.int,V.kids]
  repeat' (first
   | ((refine h.on trivial ?_)<;>(try simp only [go_sem,seval,h.len,h.go,h.at0,h.atj,h.set0,h.setj,h.tk,h.tk0,h.tkj,h.refs,h.refsj,h.hcaps,h.capsj,a_,V.kind,V.int,V.kids]))
   | fail)
  all_goals rfl
theorem af5 {Acc:Type} {g:FuncId} {caps:List C} {m:Nat} {Hs:Acc->List O} {Q:Gl->Prop} {step:Acc->Gl->Acc} (h:Clo Tryz.prog g caps m (fun x:Gl=>D.agg x.enc) Hs Q step) :
  ∀(t:Gl) (a:Acc),(∀x,x∈t.subs->Q x)->ACalls Tryz.prog 137 [.d (.agg t.enc),.fn g caps] (Hs a) (fun c H'=>c=.tup []/\H'=Hs (t.subs.foldl step a)):=by
 intro t;induction t using Gl.ind' with
 | h t ih =>
  intro a hq;have hqt:=hq t (by rw [Gl.subs_eq];simp);have hqs:∀x,x∈t.goals->∀y,y∈x.subs->Q y:=fun x hx y hy=>hq y (by rw [Gl.subs_eq,Gl.subss_eq];exact List.mem_cons_of_mem _ (List.mem_flatMap.2 ⟨x,hx,hy⟩));rw [Gl.subs_eq,F_];refine aE_ Tryz.func137 ?_;refine rS_ Tryz.func137 ?_;simp only [go_sem,seval,h.len,h.go,h.at0,h.atj,h.set0,h.setj,h.tk,h.tk0,h.tkj,h.refs,h.refsj,h.hcaps,h.capsj,a_]
  repeat' (first
   | ((refine h.on hqt ?_)<;>(try simp only [go_sem,seval,h.len,h.go,h.at0,h.atj,h.set0,h.setj,h.tk,h.tk0,h.tkj,h.refs,h.refsj,h.hcaps,h.capsj,a_]))
   | fail)
  refine AW.rng t.goals [1,10,11] 12 10 (fun _:Acc=>[]) (fun _ acc=>Hs acc++[.box (t.enc.map .d)]) (fun r acc=>(Gl.subss r).foldl step acc=(Gl.subss t.goals).foldl step (step a t)) (step a t) rfl (by simp) rfl bN6 (fun i x r acc hxi hdr hlt hm hinv hnext=>?_) (fun acc hinv=>?_)
  ·have hx:=c_ hxi
   have ihx:=ih x hx acc (hqs x hx);refine rS_ Tryz.func137 ?_;simp only [go_sem,seval,hlt,j5 hxi,h.len,h.go,h.at0,h.atj,h.set0,h.setj,h.tk,h.tk0,h.tkj,h.refs,h.refsj,h.hcaps,h.capsj,a_]
   repeat' (first
    | (simp (disch:=omega) only [j6])
    | (refine hnext (x.subs.foldl step acc) _ ?_ bN6)
    | ((refine h.sub ihx ?_)<;>(try simp only [go_sem,seval,h.len,h.go,h.at0,h.atj,h.set0,h.setj,h.tk,h.tk0,h.tkj,h.refs,h.refsj,h.hcaps,h.capsj,a_]))
    | fail)
   rw [<-hinv];simp only [Gl.subss,m_]
  ·simp only [Gl.subss,r_] at hinv
   subst hinv;refine rS_ Tryz.func137 ?_;simp only [go_sem,seval,h.len,h.go,h.at0,h.atj,h.set0,h.setj,h.tk,h.tk0,h.tkj,h.refs,h.refsj,h.hcaps,h.capsj,a_];all_goals rfl
theorem bz0 (gb:List D):Clo Tryz.prog 140 [.ptr 2 0] 3 (fun n:Int=>D.int .i64 n) (fun ks:List Int=>[.box (gb.map .d),.map false (ak8 ks),.box [.map 1]]) (fun _=>True) ay1:=by
 refine ⟨by kernel_rfl,rfl,fun _=>rfl,fun a=>by simp only [f_,g_,O.refsLt,l8];rfl,fun a x _=>?_⟩;refine aE_ Tryz.func140 ?_;refine rS_ Tryz.func140 ?_;simp only [go_sem,seval];all_goals simp [aK4,O.refsLt,C.refsLt,C.refsLt1,l8,O4]
theorem bJ4 (gb:List D):Clo Tryz.prog 138 [.ptr 2 0] 3 (fun x:Gl=>D.agg x.enc) (fun ks:List Int=>[.box (gb.map .d),.map false (ak8 ks),.box [.map 1]]) (fun x=>∀t,t∈x.terms->L9 t=true) (fun ks x=>(Tm.varss x.terms).foldl ay1 ks):=by
 have h:=bz0 gb;refine ⟨by kernel_rfl,rfl,fun _=>rfl,fun a=>by simp only [f_,g_,O.refsLt,l8];rfl,fun a g hq=>?_⟩;refine aE_ Tryz.func138 ?_;refine rS_ Tryz.func138 ?_;simp only [go_sem,seval];refine AW.rng g.terms [1,6,7] 8 6 (fun _:List Int=>[]) (fun _ ks=>[.box (gb.map .d),.map false (ak8 ks),.box [.map 1],.box (g.enc.map .d)]) (fun r acc=>(Tm.varss r).foldl ay1 acc=(Tm.varss g.terms).foldl ay1 a) a rfl (by simp) rfl A7 (fun i x r acc hxi hdr hlt hm hinv hnext=>?_) (fun acc hinv=>?_)
 ·have hx:=c_ hxi
  obtain ⟨v,rfl,hv⟩:=bi8 (hq x hx);refine rS_ Tryz.func138 ?_;simp only [go_sem,seval,hlt,j5 hxi]
  repeat' (first
   | (simp (disch:=omega) only [j6])
   | (refine hnext (v.vars.foldl ay1 acc) _ ?_ A7)
   | ((refine h.sub (X:=[_,_]) (aB1 h v acc) ?_)<;>(try simp only [go_sem,seval]))
   | fail)
  rw [<-hinv];simp only [Tm.varss,m_,V.vars_tm]
 ·simp only [Tm.varss,r_] at hinv
  subst hinv;refine rS_ Tryz.func138 ?_;simp only [go_sem,seval];all_goals simp [O.refsLt,C.refsLt,C.refsLt1,l8,O4]
theorem aD4 (ks:List Int) (hn:ks.Nodup) (hl:ks.length<=9000000):ACalls Tryz.prog 141 [.map 0] [.map false (ak8 ks)] (fun c H'=>c=.d (.sl (x9 (O7 ks)))/\H'=[.map false (ak8 ks)]):=by
 refine aE_ Tryz.func141 ?_;refine rS_ Tryz.func141 ?_;simp only [go_sem,seval];refine AW.adoptB 3 1 3 (by decide) rfl ?_;refine AW.lp [7] (fun p:List Nat×List Int=>[(3,.own 2 p.2.length)]) (fun _ p=>[.map false (ak8 ks),.iter 0 ks.length ks.length p.1,.buf p.2.length 1 3 (x9 p.2)]) (fun p=>p.1.Nodup/\(∀i,i∈p.1->i<ks.length)/\p.2=p.1.map (fun i=>ks.getD i 0)) (fun p=>ks.length - p.1.length) ([],[]) ⟨by simp,by simp,rfl⟩ (by refine ⟨by simp [mkS],by simp [mkS,ab9,x9],by simp [mkS,O.refsLt],?_⟩;simp [mkS,Abs.get,C.refsLtT,C.refsLt,C.refsLt1]) ?_;rintro ⟨seen,out⟩ ⟨h1,h2,h3⟩ hnext;dsimp only at h1 h2 h3 hnext;have hso:out.length=seen.length:=by rw [h3];simp
 have hle:=ap0 ks.length seen h1 h2;have hmx:maxLen=9223372036854775807:=rfl;refine l7 Tryz.func141 mixed 7 _ _ (by kernel_rfl) ?_;simp only [go_sem,seval,run.eq_1];refine aG7 (fun hall=>?_) (fun i p hp hns=>?_)
 ·have hpk:=bb8 hn h1 h2 (fun i hi=>hall i (by rw [ab9];exact hi))
  rw [<-h3] at hpk;refine aZ8 Tryz.sort_Ints Tryz.sort_Ints_none (r:=2) (by omega) rfl ?_;simp only [go_sem,seval,run.eq_1];refine AW.freezeB 3 2 rfl rfl ?_;refine rS_ Tryz.func141 ?_;simp only [go_sem,seval];rw [bv7 hpk.1,aN2 hpk.2]
 ·obtain ⟨k,hk,rfl⟩:=by0 hp
  have hik:=(i_.1 hk).1;have hlt:(seen++[i]).length<=ks.length:=ap0 _ _ (by rw [List.nodup_append];exact ⟨h1,by simp,fun a ha b hb=>by simp at hb;subst hb;intro e;subst e;exact hns ha⟩) (fun x hx=>by
   rcases J_.1 hx with hx | hx
   ·exact h2 x hx
   ·simp at hx;omega)
  simp only [e_,h_,l_] at hlt;refine rS_ Tryz.func141 ?_;simp only [go_sem,seval,List.getLast?_concat,j5 hp,j5 hk,ab9,X8];have hnd:(seen++[i]).Nodup:=by rw [List.nodup_append];exact ⟨h1,by simp,fun a ha b hb=>by simp at hb;subst hb;intro e;subst e;exact hns ha⟩
  refine ⟨⟨by omega,by omega,hnext (seen++[i],out++[k]) _ ⟨hnd,?_,?_⟩ ?_ ?_⟩,hik⟩
  ·intro x hx
   rcases J_.1 hx with hx | hx
   ·exact h2 x hx
   ·simp at hx;omega
  ·simp only [List.map_append,h3,p_,A_]
   congr 2;rw [List.getD_eq_getElem?_getD,hk];rfl
  ·simp only [e_,h_,l_];omega
  ·refine ⟨by simp [mkS],by simp [mkS,ab9,aL5,bo8],by simp [mkS,O.refsLt],?_⟩;simp [mkS,Abs.get,C.refsLtT,C.refsLt,C.refsLt1]
theorem av1 (t:Gl) (hs:t.shape=true) (hw:wtL t.enc<=9000000):Gives Tryz.prog 100 [.agg t.enc] (.d (.sl (x9 (O7 t.vars)))):=by
 have h:=bJ4 t.enc;have hterms:∀x,x∈t.subs->∀u,u∈x.terms->L9 u=true:=fun x hx=>Gl.shape_terms (Gl.shape_sub hs x hx);have hf:t.subs.foldl (fun ks x=>(Tm.varss x.terms).foldl ay1 ks) []=t.vars.foldl ay1 []:=by rw [Gl.vars_subs,ai4]
 have hvw:=Gl.vars_wt t;have hkl:=aM2 (vs:=t.vars) (ks:=[]);simp only [l_] at hkl;have hkn:(t.vars.foldl ay1 []).Nodup:=av3 (by simp);have hka:O7 (t.vars.foldl ay1 [])=O7 t.vars:=aN2 (fun x=>by rw [aM1];simp);have e1:=af5 h t [] hterms;rw [hf] at e1;refine aE_ Tryz.func100 ?_;refine rS_ Tryz.func100 ?_;simp only [go_sem,seval]
 repeat' (first
  | ((first
   | (refine ACalls.mono e1 ?_<;>(rintro c H' ⟨rfl,rfl⟩))
   | (refine (aD4 _ hkn (by omega)).at1 rfl 1 rfl rfl ?_<;>(rintro c o' ⟨rfl,ho⟩;cases ho;refine ⟨rfl,rfl,?_⟩)))<;>(try simp only [go_sem,seval,C.at1]))
  | fail)
 all_goals rw [hka]
theorem am8 (l:List Int) (n:Int) (ha:Asc l) (hl:l.length<=9000000):Gives Tryz.prog 120 [.sl (x9 l),.int .i64 n] (.d (.sl (x9 (aa5 l n)))):=by
 have hat:=fun k=>bI9 (n:=n) (k:=k) ha;have hmx:maxLen=9223372036854775807:=rfl;generalize aa5 l n=N at hat |-;refine aE_ Tryz.func120 ?_;refine rS_ Tryz.func120 ?_;simp only [go_sem,seval];refine AW.lp [0,1] (fun k:Nat=>[(5,.d (.int .i64 k))]) (fun H _=>H) (fun k=>k<=l.length/\∀j x,k<=j->l[j]? = some x->n<=x) (fun k=>k) l.length ⟨b_ _,fun j x hj hx=>by have:=(i_.1 hx).1;omega⟩ (by simp only [X8];exact by refine ⟨by simp [mkS],by simp [mkS],by simp [mkS,O.refsLt,C.refsLt,C.refsLt1],?_⟩;simp [mkS,Abs.get,C.refsLtT,C.refsLt,C.refsLt1]) ?_;rintro k ⟨hk,hge⟩ hnext;have z0:((0:Nat):Int)=0:=rfl;have fin:∀k,k<=l.length->(N=if l[k]? = some n then l else l.take k++([n]++l.drop k))->∀y,l[k]? = some y->(y=n->N=l)/\(y≠n->N=l.take k++([n]++l.drop k)):=fun k _ h y hy=>by
  rw [hy] at h;exact ⟨fun e=>by rw [h,e,if_pos rfl],fun e=>by rw [h,if_neg (by simpa using e)]⟩
 have fin0:∀k,(N=if l[k]? = some n then l else l.take k++([n]++l.drop k))->(l.length:Int)<=k->N=l.take k++([n]++l.drop k):=fun k h hk=>by
  rw [h,if_neg (by rw [List.getElem?_eq_none (by omega)];simp)]
 by_cases h0:k=0
 ·subst h0
  have hN:=hat 0 hge (.inl rfl);have fa:=fin 0 (by omega) hN;have fb:=fin0 0 hN;clear hnext hat fin fin0 hN;refine rS_ Tryz.func120 ?_;simp only [go_sem,seval,z0]
  repeat' (first
   | ((first | (refine D5 (fun hq=>?_) (fun hq=>?_)) | (refine y9 (fun x hx=>have hq:=hx;?_)))<;>(try simp only [go_sem,seval,z0,hq]))
   | ((refine ⟨sd,?_⟩)<;>(try simp only [go_sem,seval,z0]))
   | fail)
  all_goals first
   | (rw [(fa _ (by assumption)).1 (by assumption)];done)
   | (rw [(fa _ (by assumption)).2 (by assumption)];simp [x9];done)
   | (rw [fb (by omega)];simp [x9];done)
 ·obtain ⟨k,rfl⟩:∃k',k=k'+1:=⟨k - 1,by omega⟩
  obtain ⟨x,hx⟩:∃x,l[k]? = some x:=⟨_,k_ (by omega)⟩;have e1:(k:Int)+((1:Nat):Int) - 1=(k:Int):=by omega
  have e2:((k:Int)+((1:Nat):Int)).toNat=k+1:=by omega
  have e3:(k:Int)+1 - 1=(k:Int):=by omega
  have e4:((k:Int)+1).toNat=k+1:=by omega
  by_cases hxn:n<=x
  ·have hge':∀j y,k<=j->l[j]? = some y->n<=y:=fun j y hj hy=>by
    by_cases e:j=k
    ·subst e;rw [hx] at hy;cases hy;exact hxn
    ·exact hge j y (by omega) hy
   clear hat fin fin0;refine rS_ Tryz.func120 ?_;simp only [go_sem,seval,e1,e2,e3,e4,j5 hx]
   repeat' (first
    | ((first | (refine D5 (fun hq=>?_) (fun hq=>?_)) | (refine y9 (fun x hx=>have hq:=hx;?_)))<;>(try simp only [go_sem,seval,e1,e2,e3,e4,j5 hx,hq]))
    | (simp (disch:=omega) only [j6])
    | ((refine ⟨sd,?_⟩)<;>(try simp only [go_sem,seval,e1,e2,e3,e4,j5 hx]))
    | fail)
   all_goals first
    | exact hnext k _ ⟨by omega,hge'⟩ (by omega) I4
    | (exfalso;omega)
  ·have hN:=hat (k+1) hge (.inr ⟨x,by simpa using hx,by omega⟩)
   have fa:=fin (k+1) (by omega) hN;have fb:=fin0 (k+1) hN;clear hnext hat fin fin0 hN;refine rS_ Tryz.func120 ?_;simp only [go_sem,seval,e1,e2,e3,e4,j5 hx]
   repeat' (first
    | ((first | (refine D5 (fun hq=>?_) (fun hq=>?_)) | (refine y9 (fun x hx=>have hq:=hx;?_)))<;>(try simp only [go_sem,seval,e1,e2,e3,e4,j5 hx,hq]))
    | (simp (disch:=omega) only [j6])
    | ((refine ⟨sd,?_⟩)<;>(try simp only [go_sem,seval,e1,e2,e3,e4,j5 hx]))
    | fail)
   all_goals first
    | (rw [(fa _ (by assumption)).1 (by assumption)];done)
    | (rw [(fa _ (by assumption)).2 (by assumption)];simp [x9];done)
    | (rw [fb (by omega)];simp [x9];done)
    | (exfalso;omega)
theorem aA4:∀(t:Tm) (l:List Int),Asc l->l.length+t.vars.length<=9000000->Gives Tryz.prog 79 [.agg t.enc,.sl (x9 l)] (.d (.sl (x9 (t.vars.foldl aa5 l)))):=by
 intro t;induction t using Tm.ind' with
 | h t ih =>
  intro l ha hl;have hv:=Tm.vars_eq t;by_cases hk:t.kind=1
  ·rw [if_pos hk] at hv
   rw [hv] at hl |-;simp only [h_,l_] at hl;refine aE_ Tryz.func79 ?_;refine rS_ Tryz.func79 ?_;simp only [go_sem,seval]
   repeat' (first
    | ((refine D5 (fun hq=>?_) (fun hq=>?_))<;>(try simp only [go_sem,seval,hk,hq]))
    | ((refine (am8 _ _ (by assumption) sd).calls rfl ?_)<;>(try simp only [go_sem,seval,hk]))
    | fail)
   all_goals try (exact absurd hk (by assumption))
   all_goals rfl
  ·rw [if_neg hk] at hv
   rw [hv] at hl |-;refine aE_ Tryz.func79 ?_;refine rS_ Tryz.func79 ?_;simp only [go_sem,seval]
   repeat' (first
    | ((refine D5 (fun hq=>?_) (fun hq=>?_))<;>(try simp only [go_sem,seval,hq]))
    | ((refine (am8 _ _ (by assumption) sd).calls rfl ?_)<;>(try simp only [go_sem,seval]))
    | fail)
   all_goals try (exact absurd (by assumption) hk)
   refine AW.rng t.args [15,16] 17 15 (fun acc:List Int=>[(1,.d (.sl (x9 acc)))]) (fun H _=>H) (fun r acc=>Asc acc/\acc.length+(Tm.varss r).length<=9000000/\(Tm.varss r).foldl aa5 acc=(Tm.varss t.args).foldl aa5 l) l rfl (by simp) ⟨ha,hl,rfl⟩ I4 (fun i x r acc hxi hdr hlt hm hinv hnext=>?_) (fun acc hinv=>?_)
   ·have hx:=c_ hxi
    obtain ⟨v1,v2,v3⟩:=hinv;simp only [Tm.varss,e_,m_] at v2 v3;have ihx:=ih x hx acc v1 (by omega);have hfl:=ac3 (vs:=x.vars) (l:=acc);refine rS_ Tryz.func79 ?_;simp only [go_sem,seval,hlt,j5 hxi]
    repeat' (first
     | (simp (disch:=omega) only [j6])
     | (refine hnext (x.vars.foldl aa5 acc) _ ⟨Y4 v1,by omega,v3⟩ I4)
     | ((refine ihx.calls rfl ?_)<;>(try simp only [go_sem,seval]))
     | fail)
   ·obtain ⟨v1,v2,v3⟩:=hinv
    simp only [Tm.varss,r_] at v3;refine rS_ Tryz.func79 ?_;simp only [go_sem,seval];rw [v3]
theorem bd5:∀(t:Gl) (l:List Int),Asc l->l.length+t.vars.length<=9000000->Gives Tryz.prog 147 [.agg t.enc,.sl (x9 l)] (.d (.sl (x9 (t.vars.foldl aa5 l)))):=by
 intro t;induction t using Gl.ind' with
 | h t ih =>
  intro l ha hl;have hv:=Gl.vars_eq t;rw [hv] at hl |-;rw [e_] at hl;rw [m_];refine aE_ Tryz.func147 ?_;refine rS_ Tryz.func147 ?_;simp only [go_sem,seval];refine AW.rng t.terms [2,10,11] 12 10 (fun acc:List Int=>[(1,.d (.sl (x9 acc)))]) (fun H _=>H) (fun r acc=>Asc acc/\acc.length+(Tm.varss r).length+(Gl.varss t.goals).length<=9000000/\(Tm.varss r).foldl aa5 acc=(Tm.varss t.terms).foldl aa5 l) l rfl (by simp) ⟨ha,by omega,rfl⟩ I4 (fun i x r acc hxi hdr hlt hm hinv hnext=>?_) (fun acc hinv=>?_)
  ·obtain ⟨v1,v2,v3⟩:=hinv
   simp only [Tm.varss,e_,m_] at v2 v3;have hfl:=ac3 (vs:=x.vars) (l:=acc);refine rS_ Tryz.func147 ?_;simp only [go_sem,seval,hlt,j5 hxi]
   repeat' (first
    | (simp (disch:=omega) only [j6])
    | (refine hnext (x.vars.foldl aa5 acc) _ ⟨Y4 v1,by omega,v3⟩ I4)
    | ((refine (aA4 _ _ (by assumption) sd).calls rfl ?_)<;>(try simp only [go_sem,seval]))
    | fail)
  ·obtain ⟨v1,v2,v3⟩:=hinv
   simp only [Tm.varss,r_,l_] at v2 v3;subst v3;refine rS_ Tryz.func147 ?_;simp only [go_sem,seval];refine AW.rng t.goals [21,22] 23 21 (fun acc:List Int=>[(1,.d (.sl (x9 acc)))]) (fun H _=>H) (fun r acc'=>Asc acc'/\acc'.length+(Gl.varss r).length<=9000000/\(Gl.varss r).foldl aa5 acc'=(Gl.varss t.goals).foldl aa5 ((Tm.varss t.terms).foldl aa5 l)) _ rfl (by simp) ⟨v1,by omega,rfl⟩ I4 (fun i x r acc hxi hdr hlt hm hinv hnext=>?_) (fun acc hinv=>?_)
   ·have hx:=c_ hxi
    obtain ⟨w1,w2,w3⟩:=hinv;simp only [Gl.varss,e_,m_] at w2 w3;have ihx:=ih x hx acc w1 (by omega);have hfl:=ac3 (vs:=x.vars) (l:=acc);refine rS_ Tryz.func147 ?_;simp only [go_sem,seval,hlt,j5 hxi]
    repeat' (first
     | (simp (disch:=omega) only [j6])
     | (refine hnext (x.vars.foldl aa5 acc) _ ⟨Y4 w1,by omega,w3⟩ I4)
     | ((refine ihx.calls rfl ?_)<;>(try simp only [go_sem,seval]))
     | fail)
   ·obtain ⟨w1,w2,w3⟩:=hinv
    simp only [Gl.varss,r_] at w3;refine rS_ Tryz.func147 ?_;simp only [go_sem,seval];rw [w3]
set_option maxHeartbeats 8000000
theorem an3 (tag:List UInt8):∀v:V,Gives Tryz.prog 132 [.agg v.enc,.str tag] (.d (.bool (v.has tag))):=by
 intro v;induction v with
 | pair a b iha ihb =>
  refine aE_ Tryz.func132 ?_;refine rS_ Tryz.func132 ?_;simp only [go_sem,seval,V.kind,V.kids]
  repeat' (first
   | ((refine D5 (fun hq=>?_) (fun hq=>?_))<;>(try simp only [go_sem,seval,V.kind,V.kids,hq]))
   | ((first
    | (refine iha.calls rfl ?_)
    | (refine ihb.calls rfl ?_))<;>(try simp only [go_sem,seval,V.kind,V.kids]))
   | fail)
  all_goals simp_all [V.has]
 | _ =>
  refine aE_ Tryz.func132 ?_;refine rS_ Tryz.func132 ?_;simp only [go_sem,seval,V.kind,V.kids,V.name];all_goals simp [V.has]
theorem V8 (tag:List UInt8):∀v:V,Gives Tryz.prog 153 [.agg v.enc,.str tag] (.d (.bool (v.has tag))):=by
 intro v;induction v using V.ind with
 | h v ih =>
  have hh:=V.has_eq tag v;generalize v.has tag=N at hh |-;refine aE_ Tryz.func153 ?_;refine rS_ Tryz.func153 ?_;simp only [go_sem,seval];refine AW.rng v.kids [1,2,8,9] 10 8 (fun _:Unit=>[]) (fun H _=>H) (fun r _=>r.any (V.has tag)=v.kids.any (V.has tag)) () rfl (by simp) rfl I4 (fun i x r acc hxi hdr hlt hm hinv hnext=>?_) (fun acc hinv=>?_)
  ·have ihx:=ih x (c_ hxi)
   rw [List.any_cons] at hinv;refine rS_ Tryz.func153 ?_;simp only [go_sem,seval,hlt,j5 hxi]
   repeat' (first
    | ((refine D5 (fun hq=>?_) (fun hq=>?_))<;>(try simp only [go_sem,seval,hq]))
    | (simp (disch:=omega) only [j6])
    | (refine hnext () _ ?_ I4)
    | ((refine ihx.calls rfl ?_)<;>(try simp only [go_sem,seval]))
    | fail)
   all_goals clear hnext ihx ih
   all_goals simp_all
  ·rw [List.any_nil] at hinv
   rw [<-hinv] at hh;refine rS_ Tryz.func153 ?_;simp only [go_sem,seval]
   repeat' (first
    | ((refine D5 (fun hq=>?_) (fun hq=>?_))<;>(try simp only [go_sem,seval,hq]))
    | fail)
   all_goals simp_all
theorem P8 (a b:V):Gives Tryz.prog 131 [.agg a.enc,.agg b.enc] (.d (.bool (decide (a.cmp b=0)))):=by
 refine aE_ Tryz.func131 ?_;refine rS_ Tryz.func131 ?_;simp only [go_sem,seval]
 repeat' (first
  | ((refine (P7 _ _ _ (b_ _)).calls rfl ?_)<;>(try simp only [go_sem,seval]))
  | fail)
theorem Q3 (a b:V):Gives Tryz.prog 152 [.agg a.enc,.agg b.enc] (.d (.bool (decide (a.cmp b=0)))):=by
 refine aE_ Tryz.func152 ?_;refine rS_ Tryz.func152 ?_;simp only [go_sem,seval]
 repeat' (first
  | ((refine (ab8 _ _ _ (b_ _)).calls rfl ?_)<;>(try simp only [go_sem,seval]))
  | fail)
theorem bM9 (t:Gl) (hok:aa4 t=true) (hk:t.kind<=6):Gives Tryz.prog 115 [.agg t.enc] (.d (.bool t.test)):=by
 rcases Gl.simple_cases hok hk with ⟨hkk,ht⟩ | ⟨hkk,a,b,ht,ha,hb⟩ | ⟨hkk,a,ht,ha⟩
 ·rcases hkk with hkk | hkk
  ·have hT:t.test=true:=by simp [Gl.test,hkk]
   rw [hT];refine aE_ Tryz.func115 ?_;refine rS_ Tryz.func115 ?_;simp only [go_sem,seval,hkk,ht]
  ·have hT:t.test=false:=by simp [Gl.test,hkk]
   rw [hT];refine aE_ Tryz.func115 ?_;refine rS_ Tryz.func115 ?_;simp only [go_sem,seval,hkk,ht]
 ·have ea:=Tm.enc_V ha
  have eb:=Tm.enc_V hb;rcases hkk with hkk | hkk | hkk
  ·have hT:t.test=decide (a.V.cmp b.V=0):=by simp [Gl.test,hkk,ht]
   rw [hT];refine aE_ Tryz.func115 ?_;refine rS_ Tryz.func115 ?_;simp only [go_sem,seval,hkk,ht,ea,eb]
   repeat' (first
    | ((refine (Q3 _ _).callQ rfl ?_)<;>(try simp only [go_sem,seval,hkk,ht,ea,eb]))
    | fail)
  ·have hT:t.test=!decide (a.V.cmp b.V=0):=by simp [Gl.test,hkk,ht]
   rw [hT];refine aE_ Tryz.func115 ?_;refine rS_ Tryz.func115 ?_;simp only [go_sem,seval,hkk,ht,ea,eb]
   repeat' (first
    | ((refine (Q3 _ _).callQ rfl ?_)<;>(try simp only [go_sem,seval,hkk,ht,ea,eb]))
    | fail)
  ·have hT:t.test=!b.V.has a.V.name:=by simp [Gl.test,hkk,ht,Tm.name_V ha]
   rw [hT];refine aE_ Tryz.func115 ?_;refine rS_ Tryz.func115 ?_;simp only [go_sem,seval,hkk,ht,ea,eb]
   repeat' (first
    | ((refine (V8 _ _).callQ rfl ?_)<;>(try simp only [go_sem,seval,hkk,ht,ea,eb]))
    | fail)
 ·have ea:=Tm.enc_V ha
  rcases hkk with hkk | hkk
  ·have hT:t.test=decide (a.V.kind=2):=by simp [Gl.test,hkk,ht,Tm.kind_V ha]
   rw [hT];refine aE_ Tryz.func115 ?_;refine rS_ Tryz.func115 ?_;simp only [go_sem,seval,hkk,ht,ea];all_goals try omega
  ·have hT:t.test=decide (a.V.kind=3):=by simp [Gl.test,hkk,ht,Tm.kind_V ha]
   rw [hT];refine aE_ Tryz.func115 ?_;refine rS_ Tryz.func115 ?_;simp only [go_sem,seval,hkk,ht,ea];all_goals try omega
theorem as3 (p:Pg) (s:List UInt8):Gives Tryz.prog 123 [.agg p.enc,.str s] (.d (.int .i64 (p.find s))):=by
 refine aE_ Tryz.func123 ?_;refine rS_ Tryz.func123 ?_;simp only [go_sem,seval];refine AW.rng p.rels [1,8,9] 10 8 (fun _:Unit=>[]) (fun H _=>H) (fun r _=>ao2 r s ((p.rels.length - r.length:Nat):Int)=p.find s) () rfl (by simp) (by simp [Pg.find]) I4 (fun i x r acc hxi hdr hlt hm hinv hnext=>?_) (fun acc hinv=>?_)
 ·have hdl:=ap6 hdr
  have hdl2:p.rels.length - r.length=i+1:=by have:=congrArg List.length hdr;simp at this;omega
  simp only [h_,hdl,ao2] at hinv;rw [hdl2] at hnext;refine rS_ Tryz.func123 ?_;simp only [go_sem,seval,hlt,j5 hxi]
  repeat' (first
   | ((refine D5 (fun hq=>?_) (fun hq=>?_))<;>(try simp only [go_sem,seval,hq]))
   | (simp (disch:=omega) only [j6])
   | (refine hnext () _ ?_ I4)
   | fail)
  all_goals clear hnext
  ·rw [<-hinv];simp [*]
  ·rw [<-hinv];simp [*]
 ·simp only [ao2] at hinv
  refine rS_ Tryz.func123 ?_;simp only [go_sem,seval];rw [hinv]
theorem ak7 (p:Pg) (s:List UInt8):Gives Tryz.prog 77 [.agg p.enc,.str s] (.d (.int .i64 (p.find s))):=by
 refine aE_ Tryz.func77 ?_;refine rS_ Tryz.func77 ?_;simp only [go_sem,seval];refine AW.rng p.rels [1,8,9] 10 8 (fun _:Unit=>[]) (fun H _=>H) (fun r _=>ao2 r s ((p.rels.length - r.length:Nat):Int)=p.find s) () rfl (by simp) (by simp [Pg.find]) I4 (fun i x r acc hxi hdr hlt hm hinv hnext=>?_) (fun acc hinv=>?_)
 ·have hdl:=ap6 hdr
  have hdl2:p.rels.length - r.length=i+1:=by have:=congrArg List.length hdr;simp at this;omega
  simp only [h_,hdl,ao2] at hinv;rw [hdl2] at hnext;refine rS_ Tryz.func77 ?_;simp only [go_sem,seval,hlt,j5 hxi]
  repeat' (first
   | ((refine D5 (fun hq=>?_) (fun hq=>?_))<;>(try simp only [go_sem,seval,hq]))
   | (simp (disch:=omega) only [j6])
   | (refine hnext () _ ?_ I4)
   | fail)
  all_goals clear hnext
  ·rw [<-hinv];simp [*]
  ·rw [<-hinv];simp [*]
 ·simp only [ao2] at hinv
  refine rS_ Tryz.func77 ?_;simp only [go_sem,seval];rw [hinv]
theorem aI3 (t:Gl) (n:Int) (hs:t.shape=true) (hw:wtL t.enc<=9000000):Gives Tryz.prog 125 [.agg t.enc,.int .i64 n] (.d (.bool (t.varsLt n))):=by
 have hb:t.varsLt n=_:=(aN0 t.vars n).symm;generalize t.varsLt n=N at hb |-;refine aE_ Tryz.func125 ?_;refine rS_ Tryz.func125 ?_;simp only [go_sem,seval]
 repeat' (first
  | ((refine (av1 _ (by assumption) sd).calls rfl ?_)<;>(try simp only [go_sem,seval]))
  | fail)
 refine AW.rng (O7 t.vars) [1,8,9] 10 8 (fun _:Unit=>[]) (fun H _=>H) (fun r _=>(r.all fun v=>decide (v<n))=N) () rfl (by simp [x9]) hb.symm I4 (fun i x r acc hxi hdr hlt hm hinv hnext=>?_) (fun acc hinv=>?_)
 ·rw [f_] at hinv
  refine rS_ Tryz.func125 ?_;simp only [go_sem,seval,hlt,j5 hxi]
  repeat' (first
   | ((refine D5 (fun hq=>?_) (fun hq=>?_))<;>(try simp only [go_sem,seval,hq]))
   | (simp (disch:=omega) only [j6])
   | (refine hnext () _ ?_ I4)
   | fail)
  all_goals clear hnext
  all_goals first | (rw [<-hinv,decide_eq_false (by omega)];rfl) | (rw [<-hinv,decide_eq_true (by omega)];rfl)
 ·rw [g_] at hinv
  refine rS_ Tryz.func125 ?_;simp only [go_sem,seval];rw [hinv]
theorem bK5 (p:Pg) (gb:List D):Clo Tryz.prog 154 [.ptr 0 0,.ptr 2 0] 3 (fun x:Gl=>D.agg x.enc) (fun b:Bool=>[.box (p.enc.map .d),.box (gb.map .d),.box [.d (.bool b)]]) (fun _=>True) (fun b x=>b && p.fitC x):=by
 refine ⟨by kernel_rfl,rfl,fun _=>rfl,fun a=>by simp only [f_,g_,O.refsLt,l8,C.refsLt,C.refsLt1];rfl,fun a x _=>?_⟩;have h1:=fun h=>Pg.fitC_other (p:=p) (x:=x) h;have h2:=fun h hf=>Pg.fitC_neg (p:=p) (x:=x) h hf;have h3:=fun h hf r hr=>Pg.fitC_at (p:=p) (x:=x) h hf (r:=r) hr;have hr:=Pg.find_range p x.name;generalize p.fitC x=N at h1 h2 h3 |-;refine aE_ Tryz.func154 ?_;refine rS_ Tryz.func154 ?_;simp only [go_sem,seval]
 repeat' (first
  | ((first | (refine D5 (fun hq=>?_) (fun hq=>?_)) | (refine y9 (fun x hx=>have hq:=hx;?_)))<;>(try simp only [go_sem,seval,hq]))
  | ((first
   | (refine (as3 _ _).calls rfl ?_)
   | (refine ⟨sd,?_⟩))<;>(try simp only [go_sem,seval]))
  | fail)
 all_goals (refine ⟨by simp only [l8,Bool.and_self],?_⟩;congr 6)
 ·rw [h3 (by assumption) (by assumption) _ hx,decide_eq_false (by assumption),L_]
 ·rw [h3 (by assumption) (by assumption) _ hx,decide_eq_true (by assumption),B_]
 ·rw [h2 (by assumption) (by assumption),L_]
 ·rw [h1 (by assumption),B_]
theorem aT0 (p:Pg) (g:Gl):Gives Tryz.prog 126 [.agg p.enc,.agg g.enc] (.d (.bool (p.callsFit g))):=by
 have e1:=af5 (bK5 p g.enc) g true (fun _ _=>trivial);rw [aM0,n_] at e1;have hc:p.callsFit g=g.subs.all p.fitC:=rfl;rw [hc];generalize g.subs.all p.fitC=N at e1 |-;refine aE_ Tryz.func126 ?_;refine rS_ Tryz.func126 ?_;simp only [go_sem,seval]
 repeat' (first
  | ((refine ACalls.mono e1 ?_<;>(rintro c H' ⟨rfl,rfl⟩))<;>(try simp only [go_sem,seval]))
  | fail)
theorem aQ7 (p:Pg):∀(t:Gl),t.shape=true->Gives Tryz.prog 146 [.agg p.enc,.agg t.enc] (.d (.bool (p.callsFit t))):=by
 intro t;induction t using Gl.ind' with
 | h t ih =>
  intro hs;have h0:=Pg.callsFit_eq p t;have h1:=fun h=>Pg.fitC_other (p:=p) (x:=t) h;have h2:=fun h hf=>Pg.fitC_neg (p:=p) (x:=t) h hf;have h3:=fun h hf r hr=>Pg.fitC_at (p:=p) (x:=t) h hf (r:=r) hr;have hr:=Pg.find_range p t.name;have hg:∀x,x∈t.goals->x.shape=true:=fun x hx=>by
   rw [Gl.shape_eq] at hs;simp only [d_,E_] at hs;exact hs.2 x hx
  have h9:t.kind=9->t.goals=[]:=fun h=>by
   rw [Gl.shape_eq] at hs;simp only [d_] at hs;have:=Gl.form_inv hs.1.1;exact I_ (by omega)
  generalize p.callsFit t=N at h0 |-;generalize p.fitC t=M at h0 h1 h2 h3;refine aE_ Tryz.func146 ?_;refine rS_ Tryz.func146 ?_;simp only [go_sem,seval]
  repeat' (first
   | ((first | (refine D5 (fun hq=>?_) (fun hq=>?_)) | (refine y9 (fun x hx=>have hq:=hx;?_)))<;>(try simp only [go_sem,seval,hq]))
   | ((first
    | (refine (ak7 _ _).calls rfl ?_)
    | (refine ⟨sd,?_⟩))<;>(try simp only [go_sem,seval]))
   | fail)
  all_goals try (rw [h9 (by assumption),g_,B_] at h0;subst h0)
  ·rw [h3 (by assumption) (by assumption) _ hx]
  ·rw [h2 (by assumption) (by assumption)]
  rw [h1 (by assumption),n_] at h0;refine AW.rng t.goals [2,30,31] 32 30 (fun _:Unit=>[]) (fun H _=>H) (fun r _=>r.all p.callsFit=N) () rfl (by simp) h0.symm I4 (fun i x r acc hxi hdr hlt hm hinv hnext=>?_) (fun acc hinv=>?_)
  ·have hx:=c_ hxi
   have ihx:=ih x hx (hg x hx);rw [f_] at hinv;refine rS_ Tryz.func146 ?_;simp only [go_sem,seval,hlt,j5 hxi]
   repeat' (first
    | ((refine D5 (fun hq=>?_) (fun hq=>?_))<;>(try simp only [go_sem,seval,hq]))
    | (simp (disch:=omega) only [j6])
    | (refine hnext () _ ?_ I4)
    | ((refine ihx.calls rfl ?_)<;>(try simp only [go_sem,seval]))
    | fail)
   all_goals clear hnext ihx ih
   all_goals (rw [<-hinv];simp [*];done)
  ·rw [g_] at hinv
   refine rS_ Tryz.func146 ?_;simp only [go_sem,seval];rw [hinv]
theorem bd4 (p:Pg) (g:Gl) (n:Int) (hw:wtL g.enc<=9000000):Gives Tryz.prog 108 [.agg p.enc,.agg g.enc,.int .i64 n] (.d (.bool (p.fits g n))):=by
 have hvw:=Gl.vars_wt g;have hasc:Asc []:=by simp [Asc]
 have hnil:(g.vars.foldl aa5 [])=O7 g.vars:=rfl;have hN:p.fits g n=(aa4 g && (O7 g.vars).all (fun v=>decide (v<n)) && p.callsFit g):=by rw [aN0];rfl
 have hlast:=fun {m x}=>bg5 (ai8 g.vars) n (m:=m) (x:=x);have hal:(O7 g.vars).length<=0+g.vars.length:=ac3;have hempty:(O7 g.vars).length=0->(O7 g.vars).all (fun v=>decide (v<n))=true:=fun h=>by rw [I_ h];rfl
 generalize p.fits g n=N at hN |-;by_cases hok:aa4 g=true
 ·have hs:=Y1 hok
  generalize hb:p.callsFit g=b at hN;refine aE_ Tryz.func108 ?_;refine rS_ Tryz.func108 ?_;simp only [go_sem,seval,hok,hb]
  repeat' (first
   | ((first | (refine D5 (fun hq=>?_) (fun hq=>?_)) | (refine y9 (fun x hx=>have hq:=hx;?_)))<;>(try simp only [go_sem,seval,hnil,hok,hb,hq]))
   | (simp (disch:=omega) only [j6])
   | ((first
    | (refine (bd5 g [] hasc (by simp;omega)).calls rfl ?_)
    | (refine (Q0 _ sd).calls rfl ?_)
    | (refine (aQ7 _ _ (by assumption)).calls rfl ?_)
    | (refine ⟨sd,?_⟩))<;>(try simp only [go_sem,seval,hnil,hok,hb]))
   | fail)
  all_goals rw [hN]
  ·rw [hq,L_]
  ·rw [hlast (m:=((O7 g.vars).length - 1:Int).toNat) (by omega) hx,hok];simp [*]
  ·rw [hempty (by omega),hok];simp [*]
 ·simp only [o_] at hok
  rw [hN,hok];refine aE_ Tryz.func108 ?_;refine rS_ Tryz.func108 ?_;simp only [go_sem,seval,hok]
  repeat' (first
   | ((refine (Q0 _ sd).calls rfl ?_)<;>(try simp only [go_sem,seval,hok]))
   | fail)
theorem aF3 (p:Pg) (hw:wtL p.enc<=9000000):Gives Tryz.prog 85 [.agg p.enc] (.d (.bool (X6 p))):=by
 have hP:X6 p=(decide (p.rels.length<=8) && p.okL p.rels):=rfl;have hwr:∀r,r∈p.rels->wtL r.body.enc<=9000000/\r.name.length<=9000000:=fun r hr=>by
  have:=Pg.wt_rels hr;have:=Rl.wt_body r;omega
 generalize X6 p=N at hP |-;refine aE_ Tryz.func85 ?_;refine rS_ Tryz.func85 ?_;simp only [go_sem,seval]
 repeat' (first
  | ((refine D5 (fun hq=>?_) (fun hq=>?_))<;>(try simp only [go_sem,seval,hq]))
  | fail)
 ·rw [hP,decide_eq_false (by omega)];rfl
 rw [decide_eq_true (by omega),n_] at hP;refine AW.rng p.rels [1,10,11] 12 10 (fun _:Unit=>[]) (fun H _=>H) (fun r _=>p.okL r=N) () rfl (by simp) hP.symm I4 (fun i x r acc hxi hdr hlt hm hinv hnext=>?_) (fun acc hinv=>?_)
 ·have hdl:=ap6 hdr
  obtain ⟨w1,w2⟩:=hwr x (c_ hxi);simp only [Pg.okL,hdl] at hinv;have hM:p.relOk i x=true↔p.find x.name=i/\U0 x.name=true/\(0<=x.arity/\x.arity<=4)/\(0<=x.locals/\x.locals<=8)/\x.body.cnt<=60/\x.body.shape=true/\x.body.varsLt (x.arity+x.locals)=true/\p.callsFit x.body=true:=by
   unfold Pg.relOk;simp only [d_,decide_eq_true_eq,and_assoc]
  have hgo:aa4 x.body=true↔x.body.cnt<=80/\x.body.shape=true:=by unfold aa4;simp
  have hcs:=Gl.count_spec x.body 80;have hcp:=Gl.cnt_pos x.body;have hsh:0<=x.body.nodes 60↔x.body.shape=true/\x.body.cnt<=60:=by
   unfold Gl.nodes;by_cases h:x.body.shape=true/\(x.body.cnt:Int)<=60
   ·rw [if_pos h];exact ⟨fun _=>⟨h.1,by omega⟩,fun _=>by omega⟩
   ·rw [if_neg h];exact ⟨fun h'=>by omega,fun h'=>absurd ⟨h'.1,by omega⟩ h⟩
  obtain ⟨z,hz,hz1⟩:∃z:Int,(if aa4 x.body=true then x.body.countF 80 else 0)=z/\(aa4 x.body=true->z=x.body.cnt):=⟨_,rfl,fun h=>by rw [if_pos h];have:=(hgo.1 h).1;omega⟩;have hfi:p.fits x.body (x.arity+x.locals)=true↔aa4 x.body=true/\x.body.varsLt (x.arity+x.locals)=true/\p.callsFit x.body=true:=by unfold Pg.fits;simp only [d_,and_assoc]
  generalize p.relOk i x=M at hM hinv;generalize hb1:p.callsFit x.body=b1 at hM hfi;generalize hb3:p.fits x.body (x.arity+x.locals)=b3 at hfi;have hfl:¬M=true->N=false:=fun h=>by rw [<-hinv,Bool.eq_false_iff.2 h];rfl
  have htr:M=true->p.okL r=N:=fun h=>by rw [<-hinv,h];rfl
  clear hinv;refine rS_ Tryz.func85 ?_;simp only [go_sem,seval,hlt,j5 hxi]
  repeat' (first
   | ((refine D5 (fun hq=>?_) (fun hq=>?_))<;>(try simp only [go_sem,seval,hb1,hb3,hz,hq]))
   | (simp (disch:=omega) only [j6])
   | (refine hnext () _ ?_ I4)
   | ((first
    | (refine (aI3 _ _ (hsh.1 (by omega)).1 (by omega)).calls rfl ?_)
    | (refine (Z9 _ sd).calls rfl ?_)
    | (refine (as3 _ _).calls rfl ?_)
    | (refine (an4 _ _ sd sd sd).calls rfl ?_)
    | (refine (aT0 _ _).calls rfl ?_))<;>(try simp only [go_sem,seval,hb1,hb3,hz]))
   | fail)
  all_goals clear hnext hz
  all_goals first
   | (rw [hfl (fun h=>by obtain ⟨m1,m2,m3,m4,m5,m6,m7,m8⟩:=hM.1 h;have hg:=hgo.2 ⟨by omega,m6⟩;have hs2:=hsh.2 ⟨m6,m5⟩;have hf2:=hfi.2 ⟨hg,m7,m8⟩;have hz2:=hz1 hg;clear hcs hgo hsh hfi hM hfl htr hz1;first | omega | simp_all)];done)
   | (refine htr (hM.2 ?_);have hs1:=hsh.1 (by omega);exact ⟨by assumption,by assumption,by omega,by omega,hs1.2,hs1.1,by assumption,by assumption⟩)
   | (refine htr (hM.2 ?_);obtain ⟨f1,f2,f3⟩:=hfi.1 (by assumption);obtain ⟨g1,g2⟩:=hgo.1 f1;have hz2:=hz1 f1;exact ⟨by assumption,by assumption,by omega,by omega,by omega,g2,f2,f3⟩)
   | skip
 ·simp only [Pg.okL] at hinv
  refine rS_ Tryz.func85 ?_;simp only [go_sem,seval];rw [hinv]
theorem K5 (p:Pg) (hw:wtL p.enc<=9000000):Gives Tryz.prog 68 [.agg p.enc] (.d (.bool (X6 p))):=by
 have hP:X6 p=(decide (p.rels.length<=8) && p.okL p.rels):=rfl;have hwr:∀r,r∈p.rels->wtL r.body.enc<=9000000/\r.name.length<=9000000:=fun r hr=>by
  have:=Pg.wt_rels hr;have:=Rl.wt_body r;omega
 generalize X6 p=N at hP |-;refine aE_ Tryz.func68 ?_;refine rS_ Tryz.func68 ?_;simp only [go_sem,seval]
 repeat' (first
  | ((refine D5 (fun hq=>?_) (fun hq=>?_))<;>(try simp only [go_sem,seval,hq]))
  | fail)
 ·rw [hP,decide_eq_false (by omega)];rfl
 rw [decide_eq_true (by omega),n_] at hP;refine AW.rng p.rels [1,10,11] 12 10 (fun _:Unit=>[]) (fun H _=>H) (fun r _=>p.okL r=N) () rfl (by simp) hP.symm I4 (fun i x r acc hxi hdr hlt hm hinv hnext=>?_) (fun acc hinv=>?_)
 ·have hdl:=ap6 hdr
  obtain ⟨w1,w2⟩:=hwr x (c_ hxi);simp only [Pg.okL,hdl] at hinv;have hM:p.relOk i x=true↔p.find x.name=i/\U0 x.name=true/\(0<=x.arity/\x.arity<=4)/\(0<=x.locals/\x.locals<=8)/\x.body.cnt<=60/\x.body.shape=true/\x.body.varsLt (x.arity+x.locals)=true/\p.callsFit x.body=true:=by
   unfold Pg.relOk;simp only [d_,decide_eq_true_eq,and_assoc]
  have hgo:aa4 x.body=true↔x.body.cnt<=80/\x.body.shape=true:=by unfold aa4;simp
  have hcs:=Gl.count_spec x.body 80;have hcp:=Gl.cnt_pos x.body;have hsh:0<=x.body.nodes 60↔x.body.shape=true/\x.body.cnt<=60:=by
   unfold Gl.nodes;by_cases h:x.body.shape=true/\(x.body.cnt:Int)<=60
   ·rw [if_pos h];exact ⟨fun _=>⟨h.1,by omega⟩,fun _=>by omega⟩
   ·rw [if_neg h];exact ⟨fun h'=>by omega,fun h'=>absurd ⟨h'.1,by omega⟩ h⟩
  obtain ⟨z,hz,hz1⟩:∃z:Int,(if aa4 x.body=true then x.body.countF 80 else 0)=z/\(aa4 x.body=true->z=x.body.cnt):=⟨_,rfl,fun h=>by rw [if_pos h];have:=(hgo.1 h).1;omega⟩;have hfi:p.fits x.body (x.arity+x.locals)=true↔aa4 x.body=true/\x.body.varsLt (x.arity+x.locals)=true/\p.callsFit x.body=true:=by unfold Pg.fits;simp only [d_,and_assoc]
  generalize p.relOk i x=M at hM hinv;generalize hb1:p.callsFit x.body=b1 at hM hfi;generalize hb3:p.fits x.body (x.arity+x.locals)=b3 at hfi;have hfl:¬M=true->N=false:=fun h=>by rw [<-hinv,Bool.eq_false_iff.2 h];rfl
  have htr:M=true->p.okL r=N:=fun h=>by rw [<-hinv,h];rfl
  clear hinv;refine rS_ Tryz.func68 ?_;simp only [go_sem,seval,hlt,j5 hxi]
  repeat' (first
   | ((refine D5 (fun hq=>?_) (fun hq=>?_))<;>(try simp only [go_sem,seval,hb1,hb3,hz,hq]))
   | (simp (disch:=omega) only [j6])
   | (refine hnext () _ ?_ I4)
   | ((first
    | (refine (ak7 _ _).calls rfl ?_)
    | (refine (Z0 _ sd).calls rfl ?_)
    | (refine (U9 _ _ _).calls rfl ?_)
    | (refine (bd4 _ _ _ sd).calls rfl ?_)
    | (refine (aJ4 _ sd).calls rfl ?_))<;>(try simp only [go_sem,seval,hb1,hb3,hz]))
   | fail)
  all_goals clear hnext hz
  all_goals first
   | (rw [hfl (fun h=>by obtain ⟨m1,m2,m3,m4,m5,m6,m7,m8⟩:=hM.1 h;have hg:=hgo.2 ⟨by omega,m6⟩;have hs2:=hsh.2 ⟨m6,m5⟩;have hf2:=hfi.2 ⟨hg,m7,m8⟩;have hz2:=hz1 hg;clear hcs hgo hsh hfi hM hfl htr hz1;first | omega | simp_all)];done)
   | (refine htr (hM.2 ?_);have hs1:=hsh.1 (by omega);exact ⟨by assumption,by assumption,by omega,by omega,hs1.2,hs1.1,by assumption,by assumption⟩)
   | (refine htr (hM.2 ?_);obtain ⟨f1,f2,f3⟩:=hfi.1 (by assumption);obtain ⟨g1,g2⟩:=hgo.1 f1;have hz2:=hz1 f1;exact ⟨by assumption,by assumption,by omega,by omega,by omega,g2,f2,f3⟩)
   | skip
 ·simp only [Pg.okL] at hinv
  refine rS_ Tryz.func68 ?_;simp only [go_sem,seval];rw [hinv]
theorem ar9 (p:Pg) (s:List UInt8) (hw:wtL p.enc<=1048576):Gives Tryz.prog 46 [.agg p.enc,.str s] (.d (.int .i64 (if X6 p then p.find s else -1))):=by
 refine aE_ Tryz.func46 ?_;refine rS_ Tryz.func46 ?_;simp only [go_sem,seval]
 repeat' (first
  | ((refine D5 (fun hq=>?_) (fun hq=>?_))<;>(try simp only [go_sem,seval,hq]))
  | ((first
   | (refine (K5 _ sd).calls rfl ?_)
   | (refine (ak7 _ _).calls rfl ?_))<;>(try simp only [go_sem,seval]))
  | fail)
 all_goals simp [*]
theorem bH5 (k:Int):Gives Tryz.prog 156 [.int .i64 k] (.d (.bool (decide (k=10)))):=by
 refine aE_ Tryz.func156 ?_;refine rS_ Tryz.func156 ?_;simp only [go_sem,seval]
theorem bJ2 (gb:List D) (f:FuncId) (q:Int->Bool) (hgo:isGo Tryz.prog f=true) (hf:∀k,Gives Tryz.prog f [.int .i64 k] (.d (.bool (q k)))):Clo Tryz.prog 170 [.ptr 2 0,.ptr 1 0] 3 (fun x:Gl=>D.agg x.enc) (fun b:Bool=>[.box (gb.map .d),.box [.fn f []],.box [.d (.bool b)]]) (fun _=>True) (fun b x=>b || q x.kind):=by
 refine ⟨by kernel_rfl,rfl,fun _=>rfl,fun a=>by simp only [f_,g_,O.refsLt,l8,C.refsLt,C.refsLt1];rfl,fun a x _=>?_⟩;refine aE_ Tryz.func170 ?_;refine rS_ Tryz.func170 ?_;simp only [go_sem,seval,hgo]
 repeat' (first
  | ((refine D5 (fun hq=>?_) (fun hq=>?_))<;>(try simp only [go_sem,seval,hgo,hq]))
  | ((refine (hf _).calls rfl ?_)<;>(try simp only [go_sem,seval,hgo]))
  | fail)
 all_goals simp only [l8,Bool.false_or,Bool.true_or]
theorem be4 (g:Gl) (f:FuncId) (q:Int->Bool) (hgo:isGo Tryz.prog f=true) (hf:∀k,Gives Tryz.prog f [.int .i64 k] (.d (.bool (q k)))):ACalls Tryz.prog 155 [.d (.agg g.enc),.fn f []] [] (fun c H'=>c=.d (.bool (g.subs.any fun x=>q x.kind))/\H'=[]):=by
 have e1:=af5 (bJ2 g.enc f q hgo hf) g false (fun _ _=>trivial);rw [aL9,Bool.false_or] at e1;generalize (g.subs.any fun x=>q x.kind)=N at e1 |-;refine aE_ Tryz.func155 ?_;refine rS_ Tryz.func155 ?_;simp only [go_sem,seval]
 repeat' (first
  | ((refine ACalls.mono e1 ?_<;>(rintro c H' ⟨rfl,rfl⟩))<;>(try simp only [go_sem,seval]))
  | fail)
theorem aP9 (g:Gl):Gives Tryz.prog 127 [.agg g.enc] (.d (.bool (!g.only false))):=by
 rw [<-Gl.only_neg];have e1:=be4 g 156 (fun k=>decide (k=10)) (by kernel_rfl) bH5;generalize (g.subs.any fun x=>decide (x.kind=10))=N at e1 |-;refine aE_ Tryz.func127 ?_;refine rS_ Tryz.func127 ?_;simp only [go_sem,seval]
 repeat' (first
  | ((refine e1.frame (X:=[_]) rfl rfl ?_<;>(rintro c H' ⟨rfl,rfl⟩ _))<;>(try simp only [go_sem,seval]))
  | fail)
theorem aP4 (p:Pg):Gives Tryz.prog 86 [.agg p.enc] (.d (.bool (p.rels.all fun r=>r.body.only false))):=by
 refine aE_ Tryz.func86 ?_;refine rS_ Tryz.func86 ?_;simp only [go_sem,seval];refine AW.rng p.rels [6,7] 8 6 (fun _:Unit=>[]) (fun H _=>H) (fun r _=>(r.all fun r=>r.body.only false)=p.rels.all fun r=>r.body.only false) () rfl (by simp) rfl I4 (fun i x r acc hxi hdr hlt hm hinv hnext=>?_) (fun acc hinv=>?_)
 ·rw [f_] at hinv
  refine rS_ Tryz.func86 ?_;simp only [go_sem,seval,hlt,j5 hxi]
  repeat' (first
   | ((refine D5 (fun hq=>?_) (fun hq=>?_))<;>(try simp only [go_sem,seval,hq]))
   | (simp (disch:=omega) only [j6])
   | (refine hnext () _ ?_ I4)
   | ((refine (aP9 _).calls rfl ?_)<;>(try simp only [go_sem,seval]))
   | fail)
  all_goals clear hnext
  all_goals (rw [<-hinv];simp_all;done)
 ·rw [g_] at hinv
  refine rS_ Tryz.func86 ?_;simp only [go_sem,seval];rw [<-hinv]
theorem ax8 (p:Pg) (hw:wtL p.enc<=1048576):Gives Tryz.prog 54 [.agg p.enc] (.d (.bool (p.all false))):=by
 have hp:p.all false=(X6 p && p.rels.all fun r=>r.body.only false):=rfl;rw [hp];refine aE_ Tryz.func54 ?_;refine rS_ Tryz.func54 ?_;simp only [go_sem,seval]
 repeat' (first
  | ((refine D5 (fun hq=>?_) (fun hq=>?_))<;>(try simp only [go_sem,seval,hq]))
  | ((first
   | (refine (aF3 _ sd).calls rfl ?_)
   | (refine (aP4 _).calls rfl ?_))<;>(try simp only [go_sem,seval]))
  | fail)
 all_goals simp [*]
theorem bd3 (pu:Bool):∀(t:Gl),Gives Tryz.prog 105 [.agg t.enc,.bool pu] (.d (.bool (t.only pu))):=by
 intro t;induction t using Gl.ind' with
 | h t ih =>
  have h0:=Gl.only_eq pu t;have h1:Gl.onlyK pu t.kind=(decide (t.kind≠10) && !(pu && (decide (3<=t.kind) && decide (t.kind<=6)))):=rfl;rw [h1] at h0;clear h1;generalize t.only pu=N at h0 |-;refine aE_ Tryz.func105 ?_;refine rS_ Tryz.func105 ?_;simp only [go_sem,seval];refine AW.rng t.goals [1,2,8,9] 10 8 (fun _:Unit=>[]) (fun H _=>H) (fun r _=>r.all (Gl.only pu)=t.goals.all (Gl.only pu)) () rfl (by simp) rfl I4 (fun i x r acc hxi hdr hlt hm hinv hnext=>?_) (fun acc hinv=>?_)
  ·have ihx:=ih x (c_ hxi)
   rw [f_] at hinv;refine rS_ Tryz.func105 ?_;simp only [go_sem,seval,hlt,j5 hxi]
   repeat' (first
    | ((refine D5 (fun hq=>?_) (fun hq=>?_))<;>(try simp only [go_sem,seval,hq]))
    | (simp (disch:=omega) only [j6])
    | (refine hnext () _ ?_ I4)
    | ((refine ihx.calls rfl ?_)<;>(try simp only [go_sem,seval]))
    | fail)
   all_goals clear hnext ihx ih
   all_goals first | (rw [h0,<-hinv];simp [*];done) | (rw [<-hinv];simp [*];done)
  ·rw [g_] at hinv
   rw [<-hinv,n_] at h0;clear hinv ih;refine rS_ Tryz.func105 ?_;simp only [go_sem,seval]
   repeat' (first
    | ((refine D5 (fun hq=>?_) (fun hq=>?_))<;>(try simp only [go_sem,seval,hq]))
    | ((refine (U9 _ _ _).calls rfl ?_)<;>(try simp only [go_sem,seval]))
    | fail)
   all_goals (rw [h0];clear h0;simp_all)
theorem bn8 (pu:Bool) (p:Pg) (hw:wtL p.enc<=1048576):Gives Tryz.prog 67 [.agg p.enc,.bool pu] (.d (.bool (p.all pu))):=by
 have hp:p.all pu=(X6 p && p.rels.all fun r=>r.body.only pu):=rfl;rw [hp];by_cases hok:X6 p=true
 ·rw [hok,n_]
  refine aE_ Tryz.func67 ?_;refine rS_ Tryz.func67 ?_;simp only [go_sem,seval,hok]
  repeat' (first
   | ((refine (K5 _ sd).calls rfl ?_)<;>(try simp only [go_sem,seval,hok]))
   | fail)
  refine AW.rng p.rels [1,11,12] 13 11 (fun _:Unit=>[]) (fun H _=>H) (fun r _=>(r.all fun r=>r.body.only pu)=p.rels.all fun r=>r.body.only pu) () rfl (by simp) rfl I4 (fun i x r acc hxi hdr hlt hm hinv hnext=>?_) (fun acc hinv=>?_)
  ·rw [f_] at hinv
   refine rS_ Tryz.func67 ?_;simp only [go_sem,seval,hlt,j5 hxi]
   repeat' (first
    | ((refine D5 (fun hq=>?_) (fun hq=>?_))<;>(try simp only [go_sem,seval,hq]))
    | (simp (disch:=omega) only [j6])
    | (refine hnext () _ ?_ I4)
    | ((refine (bd3 _ _).calls rfl ?_)<;>(try simp only [go_sem,seval]))
    | fail)
   all_goals clear hnext
   all_goals (rw [<-hinv];simp_all;done)
  ·rw [g_] at hinv
   refine rS_ Tryz.func67 ?_;simp only [go_sem,seval];rw [<-hinv]
 ·simp only [o_] at hok
  rw [hok];refine aE_ Tryz.func67 ?_;refine rS_ Tryz.func67 ?_;simp only [go_sem,seval,hok]
  repeat' (first
   | ((refine (K5 _ sd).calls rfl ?_)<;>(try simp only [go_sem,seval,hok]))
   | fail)
theorem ax4 (p:Pg) (hw:wtL p.enc<=1048576):Gives Tryz.prog 43 [.agg p.enc] (.d (.bool (p.all false))):=by
 refine aE_ Tryz.func43 ?_;refine rS_ Tryz.func43 ?_;simp only [go_sem,seval]
 repeat' (first
  | ((refine (bn8 _ _ sd).calls rfl ?_)<;>(try simp only [go_sem,seval]))
  | fail)
theorem bJ0 (gb:List D):Clo Tryz.prog 157 [.ptr 1 0] 2 (fun n:Int=>D.int .i64 n) (fun b:Bool=>[.box (gb.map .d),.box [.d (.bool b)]]) (fun _=>True) (fun b _=>false):=by
 refine ⟨by kernel_rfl,rfl,fun _=>rfl,fun a=>by simp only [f_,g_,O.refsLt,l8,C.refsLt,C.refsLt1];rfl,fun a x _=>?_⟩;refine aE_ Tryz.func157 ?_;refine rS_ Tryz.func157 ?_;simp only [go_sem,seval];all_goals simp only [l8]
theorem aR2 (v:V):Gives Tryz.prog 128 [.agg v.enc] (.d (.bool (decide (v.vars=[])))):=by
 have e1:=aB1 (bJ0 v.enc) v true;have hN:v.vars.foldl (fun (b:Bool) (_:Int)=>false) true=decide (v.vars=[]):=by
  cases v.vars with
  | nil=>rfl
  | cons x r =>
   have:∀(l:List Int),l.foldl (fun (b:Bool) (_:Int)=>false) false=false:=by
    intro l;induction l with
    | nil=>rfl
    | cons y q ih=>exact ih
   rw [F_,this];rfl
 rw [hN] at e1;generalize decide (v.vars=[])=N at e1 |-;refine aE_ Tryz.func128 ?_;refine rS_ Tryz.func128 ?_;simp only [go_sem,seval]
 repeat' (first
  | ((refine ACalls.mono e1 ?_<;>(rintro c H' ⟨rfl,rfl⟩))<;>(try simp only [go_sem,seval]))
  | fail)
theorem aL6 (t:Tm) (hw:wtL t.enc<=1048576):Gives Tryz.prog 87 [.agg t.enc] (.d (.bool t.ground)):=by
 have hg:t.ground=(L9 t && decide (t.vars=[])):=rfl;rw [hg];by_cases hok:L9 t=true
 ·have e1:=aR2 t.V
  rw [<-Tm.vars_V hok,<-Tm.enc_V hok] at e1;rw [hok,n_];generalize decide (t.vars=[])=N at e1 |-;refine aE_ Tryz.func87 ?_;refine rS_ Tryz.func87 ?_;simp only [go_sem,seval,hok]
  repeat' (first
   | ((first
    | (refine e1.calls rfl ?_)
    | (refine (ad6 _ sd).calls rfl ?_))<;>(try simp only [go_sem,seval,hok]))
   | fail)
 ·simp only [o_] at hok
  rw [hok];refine aE_ Tryz.func87 ?_;refine rS_ Tryz.func87 ?_;simp only [go_sem,seval,hok]
  repeat' (first
   | ((refine (ad6 _ sd).calls rfl ?_)<;>(try simp only [go_sem,seval,hok]))
   | fail)
theorem ab1 (t:Tm) (hw:wtL t.enc<=1048576):Gives Tryz.prog 47 [.agg t.enc] (.d (.bool t.ground)):=by
 have hg:t.ground=(L9 t && decide (t.vars=[])):=rfl;have hvw:=Tm.vars_wt t;have hasc:Asc []:=by simp [Asc]
 have hnil:(t.vars.foldl aa5 [])=O7 t.vars:=rfl;have hlen:(O7 t.vars).length=0↔t.vars=[]:=by rw [List.length_eq_zero_iff];exact aG6
 have hN:decide (t.vars=[])=decide (((O7 t.vars).length:Int)=0):=by
  rw [Bool.eq_iff_iff,decide_eq_true_eq,decide_eq_true_eq,<-hlen];omega
 rw [hg,hN];clear hg hN hlen;by_cases hok:L9 t=true
 ·rw [hok]
  refine aE_ Tryz.func47 ?_;refine rS_ Tryz.func47 ?_;simp only [go_sem,seval,hok]
  repeat' (first
   | ((first
    | (refine (aA4 t [] hasc (by simp;omega)).calls rfl ?_)
    | (refine (aj8 _ sd).calls rfl ?_))<;>(try simp only [go_sem,seval,hnil,hok]))
   | fail)
 ·simp only [o_] at hok
  rw [hok];refine aE_ Tryz.func47 ?_;refine rS_ Tryz.func47 ?_;simp only [go_sem,seval,hok]
  repeat' (first
   | ((refine (aj8 _ sd).calls rfl ?_)<;>(try simp only [go_sem,seval,hok]))
   | fail)
theorem ba3 (p:Pg) (f:Fc) (hwp:wtL p.enc<=1048576) (hw:wtL f.enc<=1048576):Gives Tryz.prog 24 [.agg p.enc,.agg f.enc] (.d (.bool (X6 p && p.factFits f))):=by
 have h2:=fun h=>Pg.factFits_neg (p:=p) (f:=f) h;have h3:=fun h r hr=>Pg.factFits_at (p:=p) (f:=f) h (r:=r) hr;have hr:=Pg.find_range p f.rel;have hwa:∀x,x∈f.args->wtL x.enc<=1048576:=fun x hx=>by
  have:=G7 (f.args.map Tm.enc) x.enc (List.mem_map.2 ⟨x,hx,rfl⟩);simp only [Fc.enc_eq,wtL,D.wt] at hw;omega
 by_cases hok:X6 p=true
 ·rw [hok,n_]
  generalize p.factFits f=N at h2 h3 |-;refine aE_ Tryz.func24 ?_;refine rS_ Tryz.func24 ?_;simp only [go_sem,seval,hok]
  repeat' (first
   | ((first | (refine D5 (fun hq=>?_) (fun hq=>?_)) | (refine y9 (fun x hx=>have hq:=hx;?_)))<;>(try simp only [go_sem,seval,hok,hq]))
   | ((first
    | (refine (ar9 _ _ sd).calls rfl ?_)
    | (refine ⟨sd,?_⟩))<;>(try simp only [go_sem,seval,hok]))
   | fail)
  ·rw [h3 (by assumption) _ hx,decide_eq_false (by omega)];rfl
  ·simp only [<-hq]
   have hN:=h3 (by assumption) _ hx;rw [decide_eq_true (by omega),n_] at hN;refine AW.rng f.args [27,28] 29 27 (fun _:Unit=>[]) (fun H _=>H) (fun r _=>r.all Tm.ground=N) () rfl (by simp) hN.symm I4 (fun i x r acc hxi hdr hlt hm hinv hnext=>?_) (fun acc hinv=>?_)
   ·have hwx:=hwa x (c_ hxi)
    rw [f_] at hinv;refine rS_ Tryz.func24 ?_;simp only [go_sem,seval,hlt,j5 hxi]
    repeat' (first
     | ((refine D5 (fun hq=>?_) (fun hq=>?_))<;>(try simp only [go_sem,seval,hq]))
     | (simp (disch:=omega) only [j6])
     | (refine hnext () _ ?_ I4)
     | ((refine (ab1 _ sd).calls rfl ?_)<;>(try simp only [go_sem,seval]))
     | fail)
    all_goals clear hnext
    all_goals (rw [<-hinv];simp [*];done)
   ·rw [g_] at hinv
    refine rS_ Tryz.func24 ?_;simp only [go_sem,seval];rw [hinv]
  ·rw [h2 (by assumption)]
 ·simp only [o_] at hok
  rw [hok];refine aE_ Tryz.func24 ?_;refine rS_ Tryz.func24 ?_;simp only [go_sem,seval,hok]
  repeat' (first
   | ((refine (ar9 _ _ sd).calls rfl ?_)<;>(try simp only [go_sem,seval,hok]))
   | fail)
end Go.Proofs.YtancdeoodnpimaaGreatDoor
