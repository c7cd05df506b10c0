import Derived.Test.YtehgpkadkdekmaaGreatDoorJ6
open List renaming getElem?_eq_some_iff->a_,getElem?_eq_getElem->c_,getElem?_append_left->e_,getElem?_toArray->g_,getElem?_append_right->i_,getElem?_set_self->l_,getElem?_set_ne->n_,length_append->o_,getElem?_take->p_,getElem?_eq_none->q_,getElem?_map->r_,mem_of_getElem?->v_,getD_eq_getElem?_getD->x_,append_assoc->z_,all_eq_true->B_,mem_range->G_,getElem?_range->H_,getElem?_drop->I_,length_cons->K_,eq_nil_of_length_eq_zero->L_,map_cons->O_,getElem?_replicate->P_,mem_map->Q_,mem_iff_getElem?->R_,length_replicate->S_
open Array renaming getD_eq_getD_getElem?->b_,getElem?_eq_some_iff->h_,getElem?_eq_none->k_,getElem?_toList->m_,getElem?_append_left->u_,getElem?_eq_getElem->y_,toList_inj->A_,getElem?_setIfInBounds_ne->J_,getElem?_append_right->M_,setIfInBounds_comm->N_
open Nat renaming le_refl->d_,lt_irrefl->s_,add_mul->t_,mul_le_mul_right->w_,zero_add->D_,lt_or_ge->E_
open Bool renaming and_eq_true->f_,or_eq_true->F_
open Option renaming map_eq_some_iff->j_,map_some->C_
set_option linter.unusedSimpArgs false
set_option linter.unusedVariables false
namespace Go.Abs
section
variable {P:Program} {f:FuncId} {n n0:Nat} {R:C->List O->Prop}
def Env.freezeSet (E:Env) (B:Nat->Prop):Env:={ E with S:=fun b i=>E.S b i\/B b }
end
def bQ8 (H:List O):List C->Option (List C)
 | []=>some []
 | c :: r=>(bor H c).bind fun d=>(bQ8 H r).map (.d d :: ·)
def frz (H:List O):C->Option C
 | .tup cs=>(bQ8 H cs).map .tup
 | c=>(bor H c).map .d
theorem bv7 {H:List O}:∀{cs rs:List C},bQ8 H cs=some rs->rs.length=cs.length/\∀(i:Nat) (c r:C),cs[i]? = some c->rs[i]? = some r->∃d,bor H c=some d/\r=.d d
 | [],rs,h=>by simp[bQ8] at h;subst h;exact⟨rfl,fun i c r hc=>by simp at hc⟩
 | c :: r,rs,h=>by
  simp only[bQ8,Option.bind_eq_some_iff,j_] at h;obtain⟨d,h1,rs',h2,rfl⟩:=h;obtain⟨g1,g2⟩:=bv7 h2;refine⟨by simp[g1],fun i c' r' hc hr=>?_⟩;cases i with
  | zero=>simp at hc hr;subst hc hr;exact⟨d,h1,rfl⟩
  | succ i=>exact g2 i c' r' (by simpa using hc) (by simpa using hr)
theorem ACalls.frozen {P:Program} {f:FuncId} {ds:List D} {m:Nat} {R:C->List O->Prop} (h:ACalls P f (ds.map .d) (List.replicate m .hole) R) {r:C}
  (hk:∀c H',R c H'->H'.length=m->frz H' c=some r):Gives P f ds r:=by
 intro E vs hH hs ha;let E0:Env:={ E with N:=m,τ:=fun _=>(0,undef),pv:=fun _=>False }
 have hrep:∀{r:Nat} {o:O},(List.replicate m O.hole)[r]? = some o->o=.hole/\r<m:=fun ho=>by
  rw[P_] at ho;split at ho
  ·cases ho;exact⟨rfl,by assumption⟩
  ·cases ho
 have hE0:RepH E0 (List.replicate m .hole):=by
  refine⟨by simp[E0],fun r o ho=>?_,fun r o b ho hb=>?_,fun r o b ho hb=>?_,fun r r' o o' b ho ho' hb hb'=>?_,hH.Slt⟩
  ·obtain⟨rfl,hr⟩:=hrep ho;rfl
  ·obtain⟨rfl,_⟩:=hrep ho;exact hb.elim
  ·obtain⟨rfl,_⟩:=hrep ho;exact hb.elim
  ·obtain⟨rfl,_⟩:=hrep ho;exact hb.elim
 refine(h E0 vs hE0 hs (fun i c v hc hv=>?_)).mono ?_
 ·have hr:=ha i c v hc hv
  simp only[r_,j_] at hc;obtain⟨d,hd,rfl⟩:=hc;cases hr with
  | d _ _ hd'=>exact .d _ _ hd'
 ·rintro ex w' ⟨v,c,E',H',rfl,rfl,h3,h4,h5,h6,h7⟩
  rw[S_] at h6;have k1:=hk c H' h7 h6;let E2:Env:={ E with w:=E'.w,S:=aR3 E' H' }
  have hfresh:∀b,E'.pv b->E.w.heap.size<=b:=fun b hp=>by
   rcases h4.newP b hp with h' | h'
   ·exact h'.elim
   ·exact h'
  have hl:Le E E2:=by
   refine⟨h4.os,h4.tape,h4.output,h4.size,d_ _,fun _ _=>rfl,fun x hx=>⟨d_ _,fun _=>rfl⟩,fun b i hs=>.inl (h4.S b i hs),fun b i hs=>h4.cell b i hs,fun b hb hp=>h4.blk b hb (fun h=>h),fun b i hs=>?_,fun b hp=>.inl hp,h4.map⟩;rcases hs with hs | ⟨r,q,z,e,xs,B,ho,hb⟩
   ·rcases h4.newS b i hs with h' | h' | h'
    ·exact .inl h'
    ·exact .inr (.inl h')
    ·exact h'.elim
   ·exact .inr (.inl (hfresh b (h3.pv r _ b ho hb)))
  have hH2:RepH E2 []:=by
   refine⟨hH.N,fun r o ho=>by simp at ho,fun r o b ho=>by simp at ho,fun r o b ho=>by simp at ho,fun r r' o o' b ho=>by simp at ho,fun b i hs=>?_⟩;rcases hs with hs | ⟨r,q,z,e,xs,B,ho,hb⟩
   ·exact h3.Slt b i hs
   ·exact h3.lt r _ b ho hb
  have one:∀{c:C} {d:D} {v:Value},bor H' c=some d->Rd E' c v->Rd E2 (.d d) v:=fun hb hr=>.d _ _ (bK3 h3 hb hr);refine⟨v,r,E2,[],rfl,rfl,hH2,hl,?_,rfl,rfl⟩;cases h5 with
  | tup cs us hl hr =>
   simp only[frz,j_] at k1;obtain⟨rs,k2,rfl⟩:=k1;obtain⟨k3,k4⟩:=bv7 k2;refine .tup _ _ (by omega) (fun i c v hci hvi=>?_);have hi:i<cs.length:=by rw[<-k3];exact(a_.1 hci).1
   obtain⟨d,g1,rfl⟩:=k4 i _ c (c_ hi) hci;exact one g1 (hr i _ v (c_ hi) hvi)
  | agg cs us hl h1 hr =>
   simp only[frz,j_] at k1;obtain⟨d,k2,rfl⟩:=k1;exact one k2 (.agg cs us hl h1 hr)
  | d _ _ hd =>
   simp only[frz,j_] at k1;obtain⟨d,k2,rfl⟩:=k1;exact one k2 (.d _ _ hd)
  | nil0 a =>
   simp only[frz,j_] at k1;obtain⟨d,k2,rfl⟩:=k1;exact one k2 (.nil0 a)
  | own i q _ hi h1 hq hv =>
   simp only[frz,j_] at k1;obtain⟨d,k2,rfl⟩:=k1;exact one k2 (.own i q _ hi h1 hq hv)
  | _=>simp[frz,bor,bS1] at k1
attribute [go_sem] frz.eq_def bQ8.eq_1 bQ8.eq_2
set_option maxHeartbeats 2000000
section
variable {P:Program}
theorem bw0 {w:World} {S:Nat->Nat->Prop} {z:Nat} {ys:List (List D)} {L:List Value} (hL:Cells w S z ys L) (hf:∀y,y∈ys->∀d,d∈y->d.flat=true):Kids w z ys L.toArray (fun _=>False) none:=by
 refine⟨fun i j=>L.getD (i * z+j) undef,fun _ _ _=>False,fun i j x c hi hj=>?_,fun _ _ _ hb=>hb,fun _ _ _ _ _ hb=>hb.elim⟩;obtain⟨u,h1,h2,h3⟩:=hL.rd i j x c hi hj;have e1:L.getD (i * z+j) undef=u:=by rw[x_,h1];rfl
 simp only[e1];refine⟨by rw[g_];exact h1,h2,fun _=>bv9 (hf x (v_ hi) c (v_ hj)) h3⟩
theorem av6 {w:World} {z:Nat} {xs ys:List (List D)} {La Lb:List Value} {arr:Array Value} {B B2:Nat->Prop} (hz:0<z) (ha:Kids w z xs La.toArray B none) (hb:Kids w z ys Lb.toArray B2 none)
  (hla:La.length=xs.length * z) (hxz:∀x,x∈xs->x.length=z) (hyz:∀x,x∈ys->x.length=z) (hdis:∀b,B2 b->¬B b)
  (h1:∀k,k<La.length->arr[k]? = La[k]?) (h2:∀k,k<Lb.length->arr[La.length+k]? = Lb[k]?):Kids w z (xs++ys) arr (fun b=>B b\/B2 b) none:=by
 obtain⟨va,Ba,a1,a2,a3⟩:=ha;obtain⟨vb,Bb,b1,b2,b3⟩:=hb;refine⟨fun i j=>if i<xs.length then va i j else vb (i - xs.length) j,fun i j=>if i<xs.length then Ba i j else Bb (i - xs.length) j,fun i j x c hi hj=>?_,fun i j b hb=>?_,fun i j i' j' b hb hb'=>?_⟩
 ·by_cases hlt:i<xs.length
  ·rw[e_ hlt] at hi
   simp only[if_pos hlt];obtain⟨k1,k2,k3⟩:=a1 i j x c hi hj;have hk:i * z+j<La.length:=by rw[g_] at k1;exact(a_.1 k1).1
   exact⟨by rw[h1 _ hk];rw[g_] at k1;exact k1,k2,k3⟩
  ·rw[i_ (by omega)] at hi
   simp only[if_neg hlt];obtain⟨k1,k2,k3⟩:=b1 _ j x c hi hj;rw[g_] at k1;have hk:=(a_.1 k1).1;have e1:i * z+j=La.length+((i - xs.length) * z+j):=by
    have:(i - xs.length+xs.length) * z=(i - xs.length) * z+xs.length * z:=t_ _ _ _;rw[Nat.sub_add_cancel (by omega)] at this;omega
   exact⟨by rw[e1,h2 _ hk];exact k1,k2,fun hl=>k3 (fun h=>h)⟩
 ·simp only at hb
  split at hb
  ·exact .inl (a2 _ _ _ hb)
  ·exact .inr (b2 _ _ _ hb)
 ·simp only at hb hb'
  split at hb<;>split at hb'
  ·exact a3 _ _ _ _ _ hb hb'
  ·exact absurd (a2 _ _ _ hb) (hdis _ (b2 _ _ _ hb'))
  ·exact absurd (a2 _ _ _ hb') (hdis _ (b2 _ _ _ hb))
  ·have:=b3 _ _ _ _ _ hb hb'
   omega
theorem Root.cells {w:World} {z e:Nat} {xs:List (List D)} {v:Value} {B:Nat->Prop} (hz:0<z) (hxz:∀x,x∈xs->x.length=z) (h:Root w z e xs v B) :
  ∃(L:List Value) (base:Option Addr) (cap:Nat),L.length=xs.length * z/\Kids w z xs L.toArray B none/\(∀u,u∈L->u.oneCell'=true)/\v=.slice base xs.length cap /\
   (∀w':World,w'.heap=w.heap->(Builtin.firstCells z xs.length v).run P w'=.ok L.toArray w'):=by
 rcases h with ⟨a,rfl,rfl⟩ | ⟨b,cap,arr,rfl,hb,hne,hle,hcm,hsz,hK,hnb⟩
 ·refine⟨[],a,0,by simp,⟨fun _ _=>undef,fun _ _ _=>False,fun i j x c hi=>by simp at hi,fun _ _ _ hb=>hb.elim,fun _ _ _ _ _ hb=>hb.elim⟩,by simp,rfl,fun w' _=>?_⟩
  cases a with
  | none=>simp[Builtin.firstCells]
  | some a=>simp[Builtin.firstCells,loadCells,loadCellsFrom]
 ·have hcz:xs.length * z<=cap * z:=w_ _ hle
  have hL:(arr.toList.take (xs.length * z)).length=xs.length * z:=by simp;omega
  have hat:∀k,k<xs.length * z->(arr.toList.take (xs.length * z))[k]? = arr[k]?:=fun k hk=>by
   rw[p_,if_pos hk,m_]
  have hdiv:∀k,k<xs.length * z->k / z<xs.length/\k % z<z/\k / z * z+k % z=k:=fun k hk=>⟨(Nat.div_lt_iff_lt_mul hz).2 hk,Nat.mod_lt _ hz,Nat.div_add_mod' k z⟩;obtain⟨val,Bs,k1,k2,k3⟩:=hK;refine⟨arr.toList.take (xs.length * z),_,cap,hL,⟨val,Bs,fun i j x c hi hj=>?_,k2,k3⟩,fun u hu=>?_,rfl,fun w' hw'=>?_⟩
  ·have hxi:=(a_.1 hi).1
   have hjz:j<z:=by rw[<-hxz x (v_ hi)];exact(a_.1 hj).1
   have hlt:i * z+j<xs.length * z:=by
    have:(i+1) * z<=xs.length * z:=w_ _ hxi;rw[t_] at this;omega
   obtain⟨g1,g2,g3⟩:=k1 i j x c hi hj;exact⟨by rw[g_,hat _ hlt];exact g1,g2,g3⟩
  ·obtain⟨k,hk⟩:=R_.1 hu
   have hkl:k<xs.length * z:=by rw[<-hL];exact(a_.1 hk).1
   obtain⟨d1,d2,d3⟩:=hdiv k hkl;have hxx:=hxz xs[k / z] (List.getElem_mem _);obtain⟨g1,g2,g3⟩:=k1 (k / z) (k % z) xs[k / z] (xs[k / z][k % z]'(by omega)) (c_ d1) (c_ _);rw[d3] at g1;rw[hat k hkl,g1] at hk;cases hk;exact g2
  ·simp only[Builtin.firstCells]
   have:=run_loadCells_list (P:=P) w' ⟨b,0,none⟩ (arr.toList.take (xs.length * z)) (fun k v hk=>?_)
   ·rw[hL] at this;exact this
   ·have hkl:k<xs.length * z:=by rw[<-hL];exact(a_.1 hk).1
    rw[hat k hkl] at hk;rw[Addr.add_mk,D_,cell_of_row _ _ _ _ _ _ (by rw[hw'];exact hb)];exact hk
def Env.newPriv (E:Env) (w':World):Env:={ E with w:=w',pv:=fun b=>E.pv b\/b=E.w.heap.size }
theorem bS6 {E:Env} {H:List O} (h:RepH E H) {z e by_:Nat} {t u ty:TypeId} {xs ys:List (List D)} {v x:Value} {B B2:Nat->Prop} {L:List Value} (ht:D6 P t=some (e,z,by_)) (hu:Plain P u)
  (l:Loose E H z e xs v B) (hLl:L.length=ys.length * z) (hyz:∀y,y∈ys->y.length=z) (hk:Kids E.w z ys L.toArray B2 none) (hone:∀u,u∈L->u.oneCell'=true)
  (hf:bd8 E H B2) (hdis:∀b,B2 b->¬(ownB v=some b\/B b)) (hlen:∀w,(Builtin.lenOf x).run P w=.ok ys.length w)
  (hx:∀w':World,w'.heap=E.w.heap->(Builtin.firstCells z ys.length x).run P w'=.ok L.toArray w') (hm:xs.length+ys.length<=maxLen) (hby:(xs.length+ys.length) * by_<=140737488355328) :
  ∃v' E1 B',(Builtin.append_ #[t,u] ty #[v,x]).run P E.w=.ok v' E1.w/\Le E E1/\E1.N=E.N/\E1.τ=E.τ/\E1.β=E.β/\RepH E1 H/\Loose E1 H z e (xs++ys) v' B'/\(ys≠[]->∃b cap arr,v'=.slice (some ⟨b,0,none⟩) (xs.length+ys.length) cap/\E1.w.heap[b]? = some (.cells arr e (0,0))/\∀k,k<L.length->arr[xs.length * z+k]? = L[k]?):=by
 obtain⟨hte,hz,i,zv,hi,hzv,hzs,hiz,hib⟩:=J8 ht;obtain⟨hroot,hxz,_,hfree⟩:=l;obtain⟨Lx,base,cap,c1,c2,c3,c4,c5⟩:=hroot.cells (P:=P) hz hxz;have hxyz:∀x,x∈xs++ys->x.length=z:=fun x hx=>(List.mem_append.1 hx).elim (hxz x) (hyz x);have hdisB:∀b,B2 b->¬B b:=fun b hb hb'=>hdis b hb (.inr hb');have hnewcase:cap<xs.length+ys.length->∃v' E1 B',(Builtin.append_ #[t,u] ty #[v,x]).run P E.w=.ok v' E1.w/\Le E E1/\E1.N=E.N/\E1.τ=E.τ/\E1.β=E.β/\RepH E1 H/\Loose E1 H z e (xs++ys) v' B'/\(ys≠[]->∃b cap arr,v'=.slice (some ⟨b,0,none⟩) (xs.length+ys.length) cap/\E1.w.heap[b]? = some (.cells arr e (0,0))/\∀k,k<L.length->arr[xs.length * z+k]? = L[k]?):=by
  intro hg
  have hrun:=V8 (ty:=ty) hte hu hi hzv E.w (base:=base) (sLen:=xs.length) (sCap:=cap) (m:=ys.length) (x:=x)
   (by rw[hiz,<-c4];exact c5 E.w.drew rfl) (hlen _) (by rw[hiz];exact hx E.w.drew rfl) hg hm (by rw[hib];exact hby)
  have hge:=grownCap_ge E.w (xs.length+ys.length) cap e;have hcm:=grownCap_le_maxLen E.w (xs.length+ys.length) cap e hm;generalize hcap:grownCap E.w (xs.length+ys.length) cap e=cap' at hrun hge hcm;generalize hrest:(Builtin.zeroCells zv.cells (cap' - (xs.length+ys.length)))=rest at hrun;have hsz:(Lx.toArray++L.toArray++rest).size=cap' * z:=by
   have hzc:rest.size=(cap' - (xs.length+ys.length)) * z:=by
    rw[<-hrest,size_zeroCells,hzs]
   simp only[Array.size_append,List.size_toArray,hzc,c1,hLl,<-t_];congr 1;omega
  generalize harr:Lx.toArray++L.toArray++rest=arr at hrun hsz;have hg1:∀k,k<Lx.length->arr[k]? = Lx[k]?:=fun k hk=>by
   subst harr;rw[u_ (by simp;omega),u_ (by simpa using hk),g_]
  have hg2:∀k,k<L.length->arr[Lx.length+k]? = L[k]?:=fun k hk=>by
   subst harr;rw[u_ (by simp;omega),M_ (by simp),g_];congr 1;simp
  have hheap:∀b,b<E.w.heap.size->(E.w.drew.alloc (.cells arr e)).heap[b]? = E.w.heap[b]?:=fun b hb=>by first | exact heap_alloc_old E.w.drew _ b hb | exact heap_alloc_old E.w.drew _ hb
  have hl:Le E (E.newPriv (E.w.drew.alloc (.cells arr e))):=by
   refine⟨rfl,rfl,rfl,by simp[Env.newPriv],d_ _,fun _ _=>rfl,fun _ _=>⟨d_ _,fun _=>rfl⟩,fun _ _ hs=>hs,fun b i hs=>?_,fun b hb hp=>hheap b hb,fun b i hs=>.inl hs,fun b hp=>?_,fun b i a n hs hh=>(hheap b (h.Slt b i hs)).trans hh⟩
   ·exact World.cell?_alloc_lt E.w.drew _ _ (h.Slt b i hs)
   ·rcases hp with hp | rfl
    ·exact .inl hp
    ·exact .inr (d_ _)
  have hH1:RepH (E.newPriv (E.w.drew.alloc (.cells arr e))) H:=h.keep hl rfl (fun _ _=>rfl) (fun r o' b ho hb=>⟨hheap b (h.lt r o' b ho hb),fun i hs=>hs⟩) (fun b hb=>.inl hb) (fun b i hs=>by
   have:=h.Slt b i hs;simp only[Env.newPriv,World.size_alloc,World.size_drew];omega)
  by_cases h0:xs++ys=[]
  ·simp only[List.append_eq_nil_iff] at h0
   obtain⟨rfl,rfl⟩:=h0;simp at hg
  refine⟨_,E.newPriv (E.w.drew.alloc (.cells arr e)),fun b=>B b\/B2 b,by rw[c4,hrun];rfl,hl,rfl,rfl,rfl,hH1,?_,fun _=>⟨E.w.heap.size,cap',arr,rfl,heap_alloc_new E.w.drew _,fun k hk=>by rw[<-c1];exact hg2 k hk⟩⟩;refine⟨.inr ⟨E.w.heap.size,cap',arr,by rw[o_],heap_alloc_new E.w.drew _,h0,by rw[o_];exact hge,hcm,hsz,?_,?_⟩,hxyz,hz,fun b hb=>?_⟩
  ·have:=av6 hz c2 hk c1 hxz hyz hdisB hg1 hg2
   refine this.keep (fun b hb=>hheap b ?_);rcases hb with hb | hb
   ·exact(hfree b (.inr hb)).2.1
   ·exact(hf b hb).2.1
  ·rintro (hb | hb)
   ·exact s_ _ (hfree _ (.inr hb)).2.1
   ·exact s_ _ (hf _ hb).2.1
  ·have old:(E.pv b/\b<E.w.heap.size/\(∀i,¬E.S b i)/\∀(r:Nat) (o:O),H[r]? = some o->¬o.block E r b)->_:=fun ⟨g1,g2,g3,g4⟩ =>
    (⟨.inl g1,by simp only[Env.newPriv,World.size_alloc,World.size_drew];omega,g3,g4⟩:(E.newPriv (E.w.drew.alloc (.cells arr e))).pv b/\b<(E.newPriv (E.w.drew.alloc (.cells arr e))).w.heap.size/\(∀i,¬(E.newPriv (E.w.drew.alloc (.cells arr e))).S b i)/\∀(r:Nat) (o:O),H[r]? = some o->¬o.block (E.newPriv (E.w.drew.alloc (.cells arr e))) r b)
   rcases hb with hb | hb | hb
   ·have hb':b=E.w.heap.size:=by
     simp only[ownB] at hb;split at hb
     ·cases hb
     ·simpa using hb.symm
    subst hb';refine⟨.inr rfl,by simp[Env.newPriv],fun i hs=>s_ _ (h.Slt _ i hs),fun r o ho hb=>s_ _ (h.lt r o _ ho hb)⟩
   ·exact old (hfree b (.inr hb))
   ·exact old (hf b hb)
 by_cases hroom:xs.length+ys.length<=cap
 ·rcases hroot with ⟨a,rfl,rfl⟩ | ⟨b,cap0,arr,rfl,hb,hne,hle,hcm,hsz,hK,hnb⟩
  ·obtain⟨e1,_,e3⟩:=Value.slice.inj c4
   subst e1 e3;have h0:ys.length=0:=by simp only[List.length_nil] at hroom;omega
   have hy:ys=[]:=L_ h0;subst hy;have hL0:L=[]:=L_ (by rw[hLl];simp);subst hL0;refine⟨.slice a 0 0,E,B,?_,Le.refl E,rfl,rfl,rfl,h,⟨.inl ⟨a,rfl,rfl⟩,hxyz,hz,hfree⟩,fun h=>absurd rfl h⟩;have:=I9 (P:=P) (t:=t) (u:=u) (ty:=ty) hte hu hi E.w (base:=a) (sLen:=0) (sCap:=0) (m:=0) (x:=x) (news:=#[]) (hlen _) (by rw[hiz];exact hx E.w rfl) (by omega) (w':=E.w) (fun _ _=>rfl) (fun _=>rfl);simpa using this
  ·obtain⟨e1,_,e3⟩:=Value.slice.inj c4
   subst e1 e3;have hxl:=List.length_pos_iff.2 hne;have hc0:0<cap0:=by omega
   have hown:ownB (.slice (some ⟨b,0,none⟩) xs.length cap0)=some b:=by simp[ownB];omega
   obtain⟨p1,p2,p3,p4⟩:=hfree b (.inl hown);have hadd:(⟨b,0,none⟩:Addr).add (xs.length * i.size)=⟨b,xs.length * z,none⟩:=by rw[Addr.add_mk,hiz,D_]
   have hcz:(xs.length+ys.length) * z<=cap0 * z:=w_ _ hroom;rw[t_] at hcz;have hst:=run_storeCells_at P b (xs.length * z) e L 0 arr E.w hb (by simp;omega) hone;simp only[Nat.add_zero] at hst;have hrun:=I9 (P:=P) (t:=t) (u:=u) (ty:=ty) hte hu hi E.w (base:=some ⟨b,0,none⟩) (sLen:=xs.length) (sCap:=cap0) (m:=ys.length) (x:=x) (news:=L.toArray) (hlen _) (by rw[hiz];exact hx E.w rfl) hroom (fun a ha=>by
    cases ha;rw[hadd];exact hst) (fun h'=>by cases h')
   generalize hnew:(arr.toList.take (xs.length * z)++L++arr.toList.drop (xs.length * z+L.length)).toArray=arr' at hrun hst;have hget:∀i,i<xs.length * z->arr'[i]? = arr[i]?:=fun i hi=>by
    subst hnew;rw[g_,z_,e_ (by simp;omega),p_,if_pos hi,m_]
   have hgetL:∀i,i<L.length->arr'[xs.length * z+i]? = L[i]?:=fun i hi=>by
    subst hnew;rw[g_,z_,i_ (by simp;omega),e_ (by simp;omega)];congr 1;simp;omega
   have hsz':arr'.size=cap0 * z:=by
    subst hnew;simp;omega
   have hl:Le E (E.setRow b arr'):=R7 p1 p3;have hother:∀b',b'≠b->(E.setRow b arr').w.heap[b']? = E.w.heap[b']?:=fun b' hb'=>setRow_other E.w b b' _ hb';have hH1:RepH (E.setRow b arr') H:=h.keep hl rfl (fun _ _=>rfl) (fun r o' b' ho hb'=>⟨hother b' (fun e=>p4 r o' ho (by rw[<-e];exact hb')),fun i hs=>hs⟩) (fun b hb=>hb) (fun b' i hs=>by
    have:=h.Slt b' i hs;simpa[Env.setRow] using this)
   refine⟨.slice (some ⟨b,0,none⟩) (xs++ys).length cap0,E.setRow b arr',fun b=>B b\/B2 b,by rw[hrun,o_];rfl,hl,rfl,rfl,rfl,hH1,?_,fun _=>⟨b,cap0,arr',by rw[o_],setRow_heap _ _ _ _ _ _ hb,hgetL⟩⟩;refine⟨.inr ⟨b,cap0,arr',rfl,setRow_heap _ _ _ _ _ _ hb,by simp[hne],by rw[o_];exact hroom,hcm,hsz',?_,?_⟩,hxyz,hz,fun b' hb'=>?_⟩
   ·have hLx:∀k,k<Lx.length->Lx[k]? = arr[k]?:=fun k hk=>by
     have r1:=c5 E.w rfl;have r2:=run_loadCells_list (P:=P) E.w ⟨b,0,none⟩ (arr.toList.take (xs.length * z)) (fun k v hk=>by
      have hkl:k<xs.length * z:=by have:=(a_.1 hk).1;simp at this;omega
      rw[p_,if_pos hkl,m_] at hk;rw[Addr.add_mk,D_,cell_of_row _ _ _ _ _ _ hb];exact hk)
     simp only[Builtin.firstCells] at r1;have hln:(arr.toList.take (xs.length * z)).length=xs.length * z:=by simp;omega
     rw[hln] at r2;rw[r1] at r2;have e3:Lx=arr.toList.take (xs.length * z):=by
      have:=Result.ok.inj r2;exact List.toArray_inj this.1
     rw[e3,p_,if_pos (by rw[e3,hln] at hk;exact hk),m_]
    have:=av6 (arr:=arr') hz c2 hk c1 hxz hyz hdisB (fun k hk=>by rw[hget k (by omega),hLx k hk]) (fun k hk=>by rw[c1];exact hgetL k hk);refine this.keep (fun b' hb'=>hother b' (fun e=>?_));subst e;rcases hb' with hb' | hb'
    ·exact hnb hb'
    ·exact hdis _ hb' (.inl hown)
   ·rintro (hb' | hb')
    ·exact hnb hb'
    ·exact hdis _ hb' (.inl hown)
   ·have old:(E.pv b'/\b'<E.w.heap.size/\(∀i,¬E.S b' i)/\∀(r:Nat) (o:O),H[r]? = some o->¬o.block E r b')->_:=fun ⟨g1,g2,g3,g4⟩ =>
     (⟨g1,by simpa[Env.setRow] using g2,g3,g4⟩:(E.setRow b arr').pv b'/\b'<(E.setRow b arr').w.heap.size/\(∀i,¬(E.setRow b arr').S b' i)/\∀(r:Nat) (o:O),H[r]? = some o->¬o.block (E.setRow b arr') r b')
    rcases hb' with hb' | hb' | hb'
    ·have e:b'=b:=by
      simp only[ownB] at hb';split at hb'
      ·cases hb'
      ·simpa using hb'.symm
     subst e;exact old ⟨p1,p2,p3,p4⟩
    ·exact old (hfree b' (.inr hb'))
    ·exact old (hf b' hb')
 ·exact hnewcase (by omega)
theorem aW8 {E:Env} {H:List O} (h:RepH E H) {z e by_:Nat} {t u ty:TypeId} {xs ys:List (List D)} {v x:Value} {B B2:Nat->Prop} {L:List Value} (ht:D6 P t=some (e,z,by_)) (hu:Plain P u)
  (l:Loose E H z e xs v B) (hLl:L.length=ys.length * z) (hyz:∀y,y∈ys->y.length=z) (hk:Kids E.w z ys L.toArray B2 none) (hone:∀u,u∈L->u.oneCell'=true)
  (hf:bd8 E H B2) (hdis:∀b,B2 b->¬(ownB v=some b\/B b)) (hlen:∀w,(Builtin.lenOf x).run P w=.ok ys.length w)
  (hx:∀w':World,w'.heap=E.w.heap->(Builtin.firstCells z ys.length x).run P w'=.ok L.toArray w') (hm:xs.length+ys.length<=maxLen) (hby:(xs.length+ys.length) * by_<=140737488355328) :
  ∃v' E1 B',(Builtin.append_ #[t,u] ty #[v,x]).run P E.w=.ok v' E1.w/\Le E E1/\E1.N=E.N/\E1.τ=E.τ/\E1.β=E.β/\RepH E1 H/\Loose E1 H z e (xs++ys) v' B':=by
 obtain⟨v',E1,B',g1,g2,g3,g4,g5,g6,g7,_⟩:=bS6 (ty:=ty) h ht hu l hLl hyz hk hone hf hdis hlen hx hm hby;exact⟨v',E1,B',g1,g2,g3,g4,g5,g6,g7⟩
theorem RepH.fillD {E:Env} {H:List O} (h:RepH E H) {r q z e:Nat} {xs:List (List D)} {v:Value} {B:Nat->Prop} (hr:H[r]? = some .dead) (hq:(E.τ r).1<q) (l:Loose E H z e xs v B) :
  Le E (E.rename r q v)/\RepH (E.rename r q v) (H.set r (.tree q z e xs B none)):=by
 have hl:Le E (E.rename r q v):=by
  refine⟨rfl,rfl,rfl,d_ _,d_ _,fun _ _=>rfl,fun r' hr'=>?_,fun _ _ hs=>hs,fun _ _ _=>rfl,fun _ _ _=>rfl,fun _ _ hs=>.inl hs,fun _ hp=>.inl hp,fun _ _ _ _ _ hh=>hh⟩;simp only[Env.rename];by_cases er:r'=r
  ·subst er;rw[if_pos rfl];exact⟨by simp only;omega,fun e=>by simp only at e;omega⟩
  ·rw[if_neg er];exact⟨d_ _,fun _=>rfl⟩
 have hτ:(E.rename r q v).τ r=(q,v):=by simp[Env.rename]
 refine⟨hl,h.turn (r0:=r) (o0:=.tree q z e xs B none) hl (by simp[Env.rename,h.N]) (fun r' hr'=>?_) (fun o ho=>?_) (fun r' hr' _=>?_) (fun r' o b hr' ho hb=>⟨rfl,fun i hs=>hs⟩) (fun b hb=>hb) (fun b i hs=>h.Slt b i hs) (l.rep rfl rfl hτ) (fun b hb=>?_)⟩
 ·rw[n_ (fun e=>hr' e.symm)]
 ·rw[l_ (a_.1 hr).1] at ho
  exact(Option.some.inj ho).symm
 ·simp only[Env.rename];rw[if_neg hr']
 ·simp only[O.block,hτ] at hb
  obtain⟨k1,k2,k3,k4⟩:=l.free b hb;exact⟨k1,k2,fun r' o hr' ho=>k4 r' o ho⟩
end
def aL7 (s:St):C->C
 | .nil0=>.nil0
 | c=>norm s c
def C.nilD:C->C
 | .nil0=>.d (.sl [])
 | c=>c
def C.isNil:C->Bool
 | .nil0=>true
 | _=>false
def aU6:List (Nat×Operand)->Nat->Bool
 | [],_=>true
 | p :: r,k=>p.1 == k && aU6 r (k+1)
def ah6 (s:St):List (Nat×Operand)->Bool
 | []=>false
 | p :: r=>(match G9 s (ev s p.2) with | some _=>false | none=>true) || ah6 s r
def Q8 (s:St) (l:List (Nat×Operand)):Option (List Operand):=if aU6 l 0 && ah6 s l then some (l.map (·.2)) else none
def F4 (s:St):List Operand->List C
 | []=>[]
 | x :: r=>cellsOf (ev s x)++F4 s r
def aj7 (s:St) (z:Nat):List Operand->Prop
 | []=>True
 | x :: r=>l5 x=true/\N9 (ev s x)=true/\(cellsOf (ev s x)).length=z/\aj7 s z r
def rowsOf (z:Nat):List D->Nat->List (List D)
 | _,0=>[]
 | ds,n+1=>ds.take z :: rowsOf z (ds.drop z) n
def cc0 (s:St) (x y:C):Bool:=match x with
 | .own r _=>(match s.H[r]? with | some (.tree ..)=>true | some (.que ..)=>true | _=>false)
 | .nil0=>(match y with | .own r _=>(match s.H[r]? with | some (.tree ..)=>true | _=>false) | _=>false)
 | _=>false
def aJ5 (P:Program) (s:St) (t u:TypeId) (x y:C) (K:C->List O->Prop):Prop:=
 match D6 P t with
 | some (e,z,by_)=>q9 P u=true /\
  (match x with
  | .own r q =>
   (match s.H[r]? with
   | some (.tree q' z' e' xs _ none)=>q=q'/\z=z'/\e=e' /\
    (match y with
    | .own r2 q2 =>
     (match s.H[r2]? with
     | some (.tree q2' z2 _ ys _ none)=>r≠r2/\q2=q2'/\z2=z/\xs.length+ys.length<=maxLen/\(xs.length+ys.length) * by_<=140737488355328 /\
       ∀B,K (.own r (q+1)) ((s.H.set r2 .dead).set r (.tree (q+1) z e (xs++ys) B none))
     | _=>False)
    | y =>
     (match J3 s y with
     | .d (.sl ys)=>(∀y',y'∈ys->y'.length=z)/\(∀y',y'∈ys->∀d,d∈y'->d.flat=true)/\xs.length+ys.length<=maxLen/\(xs.length+ys.length) * by_<=140737488355328 /\
       ∀B,K (.own r (q+1)) (s.H.set r (.tree (q+1) z e (xs++ys) B none))
     | _=>False))
   | _=>False)
  | .nil0 =>
   (match y with
   | .own r2 q2 =>
    (match s.H[r2]? with
    | some (.tree q2' z2 _ ys _ none)=>q2=q2'/\z2=z/\ys.length<=maxLen/\ys.length * by_<=140737488355328 /\
      ∀B,K (.own s.H.length 1) ((s.H.set r2 .dead)++[.tree 1 z e ys B none])
    | _=>False)
   | _=>False)
  | _=>False)
 | none=>False
def aI9 (P:Program) (s:St) (t:TypeId) (r q z i off:Nat) (K:C->List O->Prop):Prop:=
 match s.H[r]?,D9 P t with
 | some (.tree q' z' e xs _ none),some n=>q=q'/\z=z'/\i<xs.length/\off+n<=z/\0<n /\
   idx xs i (fun x=>∀B',K (.d (.agg ((x.drop off).take n))) (s.H.set r (.tree q z e (xs.set i (x.take off++List.replicate n .any++x.drop (off+n))) B' none)))
 | _,_=>False
def Q7 (P:Program) (s:St) (o:Oper) (K:C->List O->Prop):Prop:=
 match o.op with
 | .buildSlice t n ps =>
  (match Q8 s ps.toList with
  | some xs=>(match D6 P t with
   | some (e,z,_)=>xs.length=n/\0<n/\n * z<=16777216/\aj7 s z xs /\
    (match F3 s.H (F4 s xs) with
    | some (ds,H1)=>∀B,K (.own s.H.length 0) (H1++[.tree 0 z e (rowsOf z ds n) B none])
    | none=>False)
   | none=>False)
  | none=>K8 P s o K)
 | .call c =>
  (match c.callee with
  | .builtin .append=>(match c.args.toList,c.argTypes.toList with
   | [x,y],[t,u]=>(match cc0 s (ev s x) (ev s y) with
    | true=>l5 x=true/\l5 y=true/\aJ5 P s t u (ev s x) (ev s y) K
    | false=>K8 P s o K)
   | _,_=>False)
  | .builtin .len=>(match c.args.toList,c.argTypes.toList with
   | [x],[t]=>(match ev s x with
    | .own r q=>(match s.H[r]? with
     | some (.buf q' _ _ xs)=>l5 x=true/\q9 P t=true/\q=q'/\K (.d (.int .i64 xs.length)) s.H
     | _=>K8 P s o K)
    | _=>K8 P s o K)
   | _,_=>False)
  | .value f=>l5 f=true/\(c.args.all l5)=true/\(match ev s f with
   | .fn g caps=>isGo P g=true/\ACalls P g (c.args.toList.map (fun x=>aL7 s (ev s x))++caps) s.H K
   | _=>False)
  | _=>K8 P s o K)
 | .load t x=>(match ev s x with
  | .tptr r q z i off=>(match s.H[r]? with
   | some (.buf q' z' e xs)=>l5 x=true/\bL6 P t q q' z z' i off xs (fun c=>K c s.H)
   | _=>(match tAgg P t with
    | some true=>l5 x=true/\aI9 P s t r q z i off K
    | _=>K8 P s o K))
  | _=>K8 P s o K)
 | .indexAddr t x i=>(match ev s x with
  | .own r q=>(match s.H[r]? with
   | some (.buf q' z e xs)=>l5 x=true/\l5 i=true/\aX2 P t r q q' z xs (ev s i) (fun c=>K c s.H)
   | _=>K8 P s o K)
  | _=>K8 P s o K)
 | .store t p x=>(match ev s p with
  | .tptr r q z i off=>(match s.H[r]? with
   | some (.buf q' z' e xs)=>l5 p=true/\l5 x=true/\bn1 P s t r q q' z z' e i off xs (ev s x) (K .top)
   | _=>K8 P s o K)
  | _=>K8 P s o K)
 | _=>K8 P s o K
section
variable {P:Program}
theorem bj6 {s:St} {o:Oper} {K:C->List O->Prop} {t:TypeId} {x:Operand} {r q z i off:Nat} (ho:o.op=.load t x) (hx:l5 x=true) (hp:ev s x=.tptr r q z i off) (hag:tAgg P t=some true)
  (h:aI9 P s t r q z i off K):G6 P s o K:=by
 unfold aI9 at h;split at h
 ·rename_i q' z' e xs B n hr hn
  obtain⟨rfl,rfl,hi,hoff,hn0,h⟩:=h;intro E ns a hst;have hpv:=o9 hst x hx;rw[hp] at hpv;generalize hg:a.eval x=pv at hpv;obtain⟨h1,h2,h3,h4,h5⟩:=hst.heap.obj r _ hr;have hxi:xs[i]? = some xs[i]:=c_ hi;have hxl:xs[i].length=z:=h2 _ (List.getElem_mem _);have h:=h _ hxi;rcases h5 with ⟨ad,_,rfl⟩ | ⟨b,cap,arr,k1,k2,k3,k4,k5,k6,k7,k8,k9,_⟩
  ·simp at hi
  obtain⟨val,Bs,m1,m2,m3⟩:=k7;let Fz:Nat->Prop:=fun b'=>∃j,off<=j/\j<off+n/\Bs i j b'
  have hFB:∀b',Fz b'->B b':=fun b' ⟨j,_,_,hb⟩=>m2 i j b' hb;have hblkF:∀b',Fz b'->(O.tree q z e xs B none).block E r b':=fun b' hb=>.inr (hFB b' hb);have hroot:(O.tree q z e xs B none).block E r b:=.inl (by
   have:=List.length_pos_iff.2 k3;rw[k1];simp[ownB];omega)
  have hl:Le E (E.freezeSet Fz):=by
   refine⟨rfl,rfl,rfl,d_ _,d_ _,fun _ _=>rfl,fun _ _=>⟨d_ _,fun _=>rfl⟩,fun _ _ hs=>.inl hs,fun _ _ _=>rfl,fun _ _ _=>rfl,fun b i hs=>?_,fun _ hp=>.inl hp,fun _ _ _ _ _ hh=>hh⟩;rcases hs with hs | hs
   ·exact .inl hs
   ·exact .inr (.inr (hst.heap.pv r _ _ hr (hblkF _ hs)))
  have hcell:∀j,j<n->∃c,xs[i][off+j]? = some c/\arr[i * z+off+j]? = some (val i (off+j))/\(val i (off+j)).oneCell'=true/\RdD E.w (E.freezeSet Fz).S c (val i (off+j)):=fun j hj=>by
   have hc:xs[i][off+j]? = some (xs[i][off+j]'(by omega)):=c_ _;obtain⟨n1,n2,n3⟩:=m1 i (off+j) _ _ hxi hc;refine⟨_,hc,by rw[Nat.add_assoc];exact n1,n2,(n3 (fun h=>h)).rdD (fun b' hb' i'=>.inr ⟨off+j,by omega,by omega,hb'⟩)⟩
  have hsz:i * z+off+n<=arr.size:=by
   obtain⟨c,_,hv,_⟩:=hcell (n - 1) (by omega);have:=(h_.1 hv).1;omega
  cases hpv with
  | tptr _ _ _ _ _ b' hrN hq hv =>
   obtain⟨n',cap',e1⟩:=hv h1.symm;rw[k1] at e1;cases e1;have hld:=O3 (P:=P) k2 hsz;have hrun:=O0 hag hn hld;generalize hvs:((List.range n).map _).toArray=vs at hrun;have hrun':(Instr.loadAt t (.pointer (some ⟨b,i * z+off,none⟩))).run P E.w=.ok (.agg vs) E.w:=by
    simp only[Instr.loadAt,Instr.sureAddr,Sem.run_bind,Sem.run_pure,Result.andThen_ok];exact hrun
   let B':Nat->Prop:=fun b'=>B b'/\¬Fz b'
   have hH:RepH (E.freezeSet Fz) (s.H.set r (.tree q z e (xs.set i (xs[i].take off++List.replicate n .any++xs[i].drop (off+n))) B' none)):=by
    refine hst.heap.turn (r0:=r) (o0:=.tree q z e (xs.set i (xs[i].take off++List.replicate n .any++xs[i].drop (off+n))) B' none) hl (by simp[Env.freezeSet,hst.heap.N]) (fun r' hr'=>?_) (fun o' ho'=>?_) (fun _ _ _=>rfl) (fun r' o' b hr' ho' hb=>⟨rfl,fun i hs=>?_⟩) (fun _ hb=>hb) (fun b i hs=>?_) ?_ (fun b2 hb2=>?_)
    ·rw[n_ (fun e=>hr' e.symm)]
    ·rw[l_ (a_.1 hr).1] at ho'
     exact(Option.some.inj ho').symm
    ·rcases hs with hs | hs
     ·exact hs
     ·exact absurd (hst.heap.apart r' r o' _ _ ho' hr hb (hblkF _ hs)) hr'
    ·rcases hs with hs | hs
     ·exact hst.heap.Slt b i hs
     ·exact hst.heap.lt r _ _ hr (hblkF _ hs)
    ·have hlen':(xs[i].take off++List.replicate n D.any++xs[i].drop (off+n)).length=z:=by simp;omega
     refine⟨h1,fun x hx=>?_,h3,fun b' hb' i' hs=>?_,.inr ⟨b,cap,arr,by rw[List.length_set];exact k1,k2,by intro e;apply k3;simpa using e,by simpa using k4,k5,k6,⟨val,fun i' j' b'=>Bs i' j' b'/\¬(i'=i/\off<=j'/\j'<off+n),fun i' j' x' c hx' hc'=>?_,fun i' j' b' hb'=>?_,fun i1 j1 i2 j2 b' hb1 hb2=>m3 i1 j1 i2 j2 b' hb1.1 hb2.1⟩,fun hb=>k8 hb.1,fun i' hs=>?_,trivial⟩⟩
     ·rcases List.mem_or_eq_of_mem_set hx with hx | rfl
      ·exact h2 x hx
      ·exact hlen'
     ·rcases hs with hs | hs
      ·exact h4 b' hb'.1 i' hs
      ·exact hb'.2 hs
     ·have hi'l:i'<xs.length:=by have:=(a_.1 hx').1;simpa using this
      by_cases e:i'=i
      ·subst e
       rw[l_ hi'l] at hx';cases hx';have hj':j'<z:=by rw[<-hlen'];exact(a_.1 hc').1
       have hcj:xs[i'][j']? = some (xs[i'][j']'(by omega)):=c_ _;obtain⟨n1,n2,n3⟩:=m1 i' j' _ _ hxi hcj;refine⟨n1,n2,fun _=>?_⟩;by_cases hj:off<=j'/\j'<off+n
       ·have hd:c=.any:=by
         rw[z_,i_ (by simp;omega),e_ (by simp;omega)] at hc';rw[P_] at hc';split at hc'
         ·exact(Option.some.inj hc').symm
         ·cases hc'
        subst hd;have hF:(fun b'=>Bs i' j' b'/\¬(i'=i'/\off<=j'/\j'<off+n))=fun _=>False:=by
         funext b';simp;exact fun _=>⟨hj.1,hj.2⟩
        show Tr _ _ _ (fun b'=>Bs i' j' b'/\¬(i'=i'/\off<=j'/\j'<off+n));rw[hF];exact .any _
       ·have hF:(fun b'=>Bs i' j' b'/\¬(i'=i'/\off<=j'/\j'<off+n))=Bs i' j':=by
         funext b'
         exact propext ⟨fun h=>h.1,fun h=>⟨h,fun ⟨_,h2⟩=>hj h2⟩⟩
        show Tr _ _ _ (fun b'=>Bs i' j' b'/\¬(i'=i'/\off<=j'/\j'<off+n));rw[hF];have hce:c=xs[i'][j']'(by omega):=by
         by_cases hjo:j'<off
         ·rw[z_,e_ (by simp;omega),p_,if_pos hjo,hcj] at hc'
          exact(Option.some.inj hc').symm
         ·rw[i_ (by simp;omega),I_] at hc'
          simp only[o_,List.length_take,S_] at hc';rw[show off+n+(j' - (min off xs[i'].length+n))=j' by omega,hcj] at hc';exact(Option.some.inj hc').symm
        rw[hce];exact n3 (fun h=>h)
      ·rw[n_ (fun e2=>e e2.symm)] at hx'
       obtain⟨n1,n2,n3⟩:=m1 i' j' _ _ hx' hc';refine⟨n1,n2,fun _=>?_⟩;have hF:(fun b'=>Bs i' j' b'/\¬(i'=i/\off<=j'/\j'<off+n))=Bs i' j':=by
        funext b'
        exact propext ⟨fun h=>h.1,fun h=>⟨h,fun ⟨h2,_⟩=>e h2⟩⟩
       show Tr _ _ _ (fun b'=>Bs i' j' b'/\¬(i'=i/\off<=j'/\j'<off+n));rw[hF];exact n3 (fun h=>h)
     ·refine⟨m2 i' j' b' hb'.1,fun ⟨j,g1,g2,g3⟩=>?_⟩
      obtain⟨rfl,rfl⟩:=m3 i' j' i j b' hb'.1 g3;exact hb'.2 ⟨rfl,g1,g2⟩
     ·rcases hs with hs | hs
      ·exact k9 i' hs
      ·exact k8 (hFB _ hs)
    ·have hb2':(O.tree q z e xs B none).block E r b2:=by
      rcases hb2 with hb2 | hb2
      ·exact .inl hb2
      ·exact .inr hb2.1
     exact⟨hst.heap.pv r _ b2 hr hb2',hst.heap.lt r _ b2 hr hb2',fun r' o' hr' ho' hb3=>hr' (hst.heap.apart r' r o' _ b2 ho' hr hb3 hb2')⟩
   unfold Oper.wp execOp;simp only[ho,hg,Sem.run_bind,hrun',Result.andThen_ok,Sem.run_pure,Oper.upon];refine⟨_,E.freezeSet Fz,_,_,rfl,rfl,?_,hH,hl,h B'⟩;refine .d _ _ (.agg _ _ ?_ (fun j v hv=>?_) (fun j c v hc hv=>?_))
   ·rw[<-hvs];simp;omega
   ·rw[<-hvs] at hv
    simp only[g_,r_] at hv;by_cases hj:j<n
    ·rw[H_ hj] at hv
     simp only[C_,Option.some.injEq] at hv;subst hv;obtain⟨c,_,g1,g2,_⟩:=hcell j hj;rw[b_,g1];exact g2
    ·rw[q_ (by simpa using hj)] at hv;simp at hv
   ·rw[<-hvs] at hv
    simp only[g_,r_] at hv;by_cases hj:j<n
    ·rw[H_ hj] at hv
     simp only[C_,Option.some.injEq] at hv;subst hv;obtain⟨c',g0,g1,g2,g3⟩:=hcell j hj;rw[p_,if_pos hj,I_,g0] at hc;cases hc;rw[b_,g1];exact g3
    ·rw[q_ (by simpa using hj)] at hv;simp at hv
 ·exact h.elim
theorem bC9 {E:Env} {n:Nat} {s:St} {a:Act} (h:RepSt E n s a) {c:C} {v:Value} (hr:Rd E c v):Rd E (aL7 s c) v:=by
 unfold aL7;split
 ·exact hr
 ·exact ag0 h hr
theorem aV4 {s:St} {o:Oper} {K:C->List O->Prop} {c:Call} {f:Operand} (ho:o.op=.call c) (hcal:c.callee=.value f) (hf:l5 f=true) (ha:c.args.all l5=true)
  (h:match ev s f with
   | .fn g caps=>isGo P g=true/\ACalls P g (c.args.toList.map (fun x=>aL7 s (ev s x))++caps) s.H K
   | _=>False):G6 P s o K:=by
 split at h
 ·rename_i g caps hev
  obtain⟨hgo,hcall⟩:=h;intro E ns a hst;have hvf:=o9 hst f hf;rw[hev] at hvf;generalize hg:a.eval f=v at hvf;cases hvf with
  | fn _ _ vs hl hr =>
   unfold isGo at hgo;split at hgo
   ·rename_i fn hfn
    simp only[f_,Bool.not_eq_true'] at hgo;obtain⟨hb,hname⟩:=hgo;have hnone:¬fn.body=none:=fun hbb=>by simp[hbb] at hb
    have hname':¬fn.name = "runtime.NumGoroutine":=by simpa using hname
    have hc:=hcall E (c.args.map a.eval++vs) hst.heap (by simp[hl]) (fun i cc vv hi hv=>by
     by_cases hlt:i<c.args.size
     ·rw[e_ (by simpa using hlt)] at hi
      rw[u_ (by simpa using hlt)] at hv;simp only[r_,m_,j_] at hi;obtain⟨x,hx,rfl⟩:=hi;simp only[Array.getElem?_map,hx,C_,Option.some.injEq] at hv;subst hv;refine bC9 hst (o9 hst x ?_);simp only[Array.all_eq_true] at ha;obtain⟨hlt',rfl⟩:=h_.1 hx;exact ha i hlt'
     ·rw[i_ (by simp;omega)] at hi
      rw[M_ (by simp;omega)] at hv;simp only[List.length_map,Array.length_toList] at hi;simp only[Array.size_map] at hv;exact hr _ cc vv hi hv)
    unfold Oper.wp execOp;simp only[ho,resolve,hcal,hg,Deferred.ofValue];simp[invoke,callFunc,hfn,hname',hnone,Oper.upon];refine hc.mono ?_;rintro e w' ⟨v,r,E',H',rfl,h2,h3,h4,h5,h6,h7⟩;exact⟨v,rfl,E',h2,r,h5,H',h3,h4,h7⟩
   ·simp at hgo
 ·exact h.elim
theorem aG6:∀(l:List (Nat×Operand)) (k:Nat),aU6 l k=true->l=((l.map (·.2)).zipIdx k).map fun p=>(p.2,p.1)
 | [],_,_=>rfl
 | p :: r,k,h=>by
  simp only[aU6,f_,beq_iff_eq] at h;simp only[O_,List.zipIdx_cons];rw[<-aG6 r (k+1) h.2,<-h.1]
theorem aB5 {s:St} {z:Nat}:∀{xs:List Operand},aj7 s z xs->∀x,x∈xs->l5 x=true/\N9 (ev s x)=true/\(cellsOf (ev s x)).length=z
 | y :: r,h,x,hx=>by
  rcases List.mem_cons.1 hx with rfl | hx
  ·exact⟨h.1,h.2.1,h.2.2.1⟩
  ·exact aB5 h.2.2.2 x hx
def M6 (a:Act):List Operand->List Value
 | []=>[]
 | x :: r=>(a.eval x).cells.toList++M6 a r
theorem bd3 {E:Env} {s:St} {a:Act}:∀(xs:List Operand),(∀x,x∈xs->(a.eval x).cells.size=(cellsOf (ev s x)).length/\∀(i:Nat) (c:C) (v:Value),(cellsOf (ev s x))[i]? = some c->(a.eval x).cells[i]? = some v->Rd E c v/\v.oneCell'=true) ->
  (M6 a xs).length=(F4 s xs).length/\∀(i:Nat) (c:C) (v:Value),(F4 s xs)[i]? = some c->(M6 a xs)[i]? = some v->Rd E c v/\v.oneCell'=true
 | [],_=>⟨rfl,fun i c v hc=>by simp[F4] at hc⟩
 | x :: r,h=>by
  obtain⟨k1,k2⟩:=h x (by simp);obtain⟨j1,j2⟩:=bd3 r (fun y hy=>h y (by simp[hy]));refine⟨by simp[M6,F4,k1,j1],fun i c v hc hv=>?_⟩;simp only[M6,F4] at hc hv;by_cases hi:i<(cellsOf (ev s x)).length
  ·rw[e_ hi] at hc
   rw[e_ (by simpa[k1] using hi)] at hv;exact k2 i c v hc (by simpa using hv)
  ·rw[i_ (by omega)] at hc
   rw[i_ (by simp[k1];omega)] at hv;exact j2 _ c v hc (by simpa[k1] using hv)
theorem aD0 {a:Act} {z:Nat}:∀(xs:List Operand) (i j:Nat) (x:Operand),(∀x,x∈xs->(a.eval x).cells.size=z)->xs[i]? = some x->j<z->(M6 a xs)[i * z+j]? = (a.eval x).cells[j]?
 | [],i,j,x,_,h,_=>by simp at h
 | y :: r,0,j,x,hz,h,hj=>by
  simp at h;subst h;have:=hz y (by simp);simp only[M6,Nat.zero_mul,D_];rw[e_ (by simp;omega),m_]
 | y :: r,i+1,j,x,hz,h,hj=>by
  have:=hz y (by simp);simp only[M6];rw[i_ (by simp[this,t_];omega)];rw[<-aD0 r i j x (fun x hx=>hz x (by simp[hx])) (by simpa using h) hj];congr 1;simp[this,t_];omega
theorem aA8 (z:Nat):∀(n:Nat) (ds:List D),(rowsOf z ds n).length=n
 | 0,_=>rfl
 | n+1,ds=>by simp[rowsOf,aA8 z n]
theorem au1 {z:Nat}:∀(n:Nat) (ds:List D),ds.length=n * z->∀x,x∈rowsOf z ds n->x.length=z
 | 0,_,_,x,hx=>by simp[rowsOf] at hx
 | n+1,ds,h,x,hx=>by
  rw[t_,Nat.one_mul] at h;simp only[rowsOf,List.mem_cons] at hx;rcases hx with rfl | hx
  ·simp;omega
  ·exact au1 n _ (by simp;omega) x hx
theorem aK9 {z:Nat}:∀(n:Nat) (ds:List D) (i j:Nat) (x:List D) (c:D),(rowsOf z ds n)[i]? = some x->x[j]? = some c->j<z->ds[i * z+j]? = some c
 | 0,ds,i,j,x,c,h,_,_=>by simp[rowsOf] at h
 | n+1,ds,0,j,x,c,h,hc,hj=>by
  simp[rowsOf] at h;subst h;rw[p_] at hc;simpa[hj] using hc
 | n+1,ds,i+1,j,x,c,h,hc,hj=>by
  simp only[rowsOf,List.getElem?_cons_succ] at h;have:=aK9 n (ds.drop z) i j x c h hc hj;rw[I_] at this;rw[<-this];congr 1;rw[t_];omega
theorem ap1 {s:St} {o:Oper} {K:C->List O->Prop} {t:TypeId} {n:Nat} {ps:Array (Nat×Operand)} {xs:List Operand} (ho:o.op=.buildSlice t n ps) (hps:ps.toList=(xs.zipIdx 0).map fun p=>(p.2,p.1)) {e z by_:Nat} (ht:D6 P t=some (e,z,by_)) (hn:xs.length=n) (hn0:0<n) (hbig:n * z<=16777216)
  (hok:aj7 s z xs) {ds:List D} {H1:List O} (hm:F3 s.H (F4 s xs)=some (ds,H1)) (hk:∀B,K (.own s.H.length 0) (H1++[.tree 0 z e (rowsOf z ds n) B none])):G6 P s o K:=by
 intro E ns a hst;obtain⟨hte,hz,i,zv,hi,hzv,hzs,hiz,hib⟩:=J8 ht;have hall:=aB5 hok;have hfx:=fun x (hx:x∈xs)=>Q6 (o9 hst x (hall x hx).1) (hall x hx).2.1;have hcz:∀x,x∈xs->(a.eval x).cells.size=z:=fun x hx=>by rw[(hfx x hx).1];exact(hall x hx).2.2
 obtain⟨c1,c2⟩:=bd3 (E:=E) (s:=s) (a:=a) xs hfx;obtain⟨g1,g2,g3,g4,Bk,g5,g6,g7⟩:=ab2 (E:=E) (F4 s xs) s.H ds H1 (M6 a xs) hst.heap hm c1 c2;have hcl:∀l:List Operand,(∀x,x∈l->(cellsOf (ev s x)).length=z)->(F4 s l).length=l.length * z:=fun l=>by
  induction l with
  | nil=>intro _;simp[F4]
  | cons x r ih=>intro h;simp only[F4,o_,K_,h x (by simp),ih (fun y hy=>h y (by simp[hy])),t_];omega
 have hdl:ds.length=n * z:=by rw[g3,hcl xs (fun x hx=>(hall x hx).2.2),hn]
 generalize hbase:(Array.range (n * z)).map (zv.cells[· % zv.cells.size]!)=base0;have hbs:base0.size=n * z:=by subst hbase;simp
 have hvm:∀v,v∈xs.map a.eval->v.cells.size=z:=fun v hv=>by
  obtain⟨x,hx,rfl⟩:=Q_.1 hv;exact hcz x hx
 obtain⟨arr',h1,h2,h3,_⟩:=ae1 hz (xs.map a.eval) 0 base0 hvm (by simp[hbs,hn]);have hparts:(ps.map fun (i,x)=>(i,a.eval x)).toList=((xs.map a.eval).zipIdx 0).map fun x=>(x.2,x.1):=by
  rw[Array.toList_map,hps,List.zipIdx_map,List.map_map,List.map_map];rfl
 have hnz:0<n * z:=Nat.mul_pos hn0 hz;have hrun:(Instr.buildSlice t n (ps.map fun (i,x)=>(i,a.eval x))).run P E.w=.ok (.slice (some ⟨E.w.heap.size,0,none⟩) n n) (E.w.alloc (.cells arr' e)):=by
  have hne:¬(n * i.size=0):=by rw[hiz];omega
  have hbigN:¬(n * i.size > 2 ^ 24):=by rw[hiz];omega
  have hb2:Array.map (fun x=>zv.cells[x % zv.cells.size]!) (Array.range (n * i.size))=base0:=by rw[hiz];exact hbase
  have h1':Instr.fill (fun j=>some (j * i.size,i.size)) base0 (ps.map fun (i,x)=>(i,a.eval x)).toList=some arr':=by rw[hiz,hparts];exact h1
  unfold Instr.buildSlice;simp only[Sem.run_bind,run_underlying hte,Result.andThen_ok,sizeOf,typeInfo,run_program,hi,Sem.run_pure,Sem.run_ite,if_neg hbigN,if_neg hne,zeroValue,hzv,hb2,h1',newRow,run_newObj];rfl
 have hat:∀i j,i<n->j<z->arr'[i * z+j]? = (M6 a xs)[i * z+j]?:=fun i j hi hj=>by
  have hx:xs[i]? = some (xs[i]'(by omega)):=c_ _;rw[aD0 xs i j _ hcz hx hj];have:=h3 i j (a.eval (xs[i]'(by omega))) (by rw[r_,hx];rfl) hj;simpa using this
 have hsz:arr'.size=n * z:=by rw[h2,hbs]
 have hheap:∀b,b<E.w.heap.size->(E.w.alloc (.cells arr' e)).heap[b]? = E.w.heap[b]?:=fun b hb=>by first | exact heap_alloc_old E.w _ b hb | exact heap_alloc_old E.w _ hb
 have hle:Le E (E.newPriv (E.w.alloc (.cells arr' e))):=by
  refine⟨rfl,rfl,rfl,by simp[Env.newPriv],d_ _,fun _ _=>rfl,fun _ _=>⟨d_ _,fun _=>rfl⟩,fun _ _ hs=>hs,fun b i hs=>?_,fun b hb hp=>hheap b hb,fun b i hs=>.inl hs,fun b hp=>?_,fun b i a n hs hh=>(hheap b (hst.heap.Slt b i hs)).trans hh⟩
  ·exact World.cell?_alloc_lt E.w _ _ (hst.heap.Slt b i hs)
  ·rcases hp with hp | rfl
   ·exact .inl hp
   ·exact .inr (d_ _)
 have hH1:RepH (E.newPriv (E.w.alloc (.cells arr' e))) H1:=g1.keep hle rfl (fun _ _=>rfl) (fun r o' b ho hb=>⟨hheap b (g1.lt r o' b ho hb),fun i hs=>hs⟩) (fun b hb=>.inl hb) (fun b i hs=>by
  have:=g1.Slt b i hs;simp only[Env.newPriv,World.size_alloc];omega)
 have hvl:(M6 a xs).length=n * z:=by rw[c1,<-g3,hdl]
 have hij:∀i j,i<n->j<z->i * z+j<n * z:=fun i j hi hj=>by
  have:(i+1) * z<=n * z:=w_ _ hi;rw[t_] at this;omega
 have hdk:∀k (hk:k<n * z),∃d v,ds[k]? = some d/\(M6 a xs)[k]? = some v/\CellT E H1 d v (Bk k):=fun k hk=>by
  have e1:ds[k]? = some (ds[k]'(by omega)):=c_ _;have e2:(M6 a xs)[k]? = some ((M6 a xs)[k]'(by omega)):=c_ _;exact⟨_,_,e1,e2,g5 k _ _ e1 e2⟩
 have hrl:=aA8 z n ds;have hrz:=au1 n ds hdl;have hL:Loose (E.newPriv (E.w.alloc (.cells arr' e))) H1 z e (rowsOf z ds n) (.slice (some ⟨E.w.heap.size,0,none⟩) n n) (fun b=>∃k,k<n * z/\Bk k b):=by
  have hold:∀b,(∃k,k<n * z/\Bk k b)->E.pv b/\b<E.w.heap.size/\(∀i,¬E.S b i)/\∀(r:Nat) (o:O),H1[r]? = some o->¬o.block E r b:=fun b ⟨k,hk,hb⟩=>by
   obtain⟨d,v,_,_,hc⟩:=hdk k hk;exact hc.free b hb
  refine⟨.inr ⟨E.w.heap.size,n,arr',by rw[hrl],by first | exact heap_alloc_new E.w _ | (simp;done),fun e0=>by rw[e0] at hrl;simp at hrl;omega,by rw[hrl];exact d_ _,by have:n<=n * z:=Nat.le_mul_of_pos_right n hz;simp only[maxLen];omega,hsz,?_,fun hb=>s_ _ (hold _ hb).2.1⟩,hrz,hz,fun b hb=>?_⟩
  ·refine⟨fun i j=>arr'.getD (i * z+j) undef,fun i j b=>j<z/\i<n/\Bk (i * z+j) b,fun i j y c hy hc=>?_,fun i j b hb=>⟨i * z+j,hij i j hb.2.1 hb.1,hb.2.2⟩,fun i j i' j' b hb hb'=>?_⟩
   ·have hi:i<n:=by rw[<-hrl];exact(a_.1 hy).1
    have hj:j<z:=by rw[<-hrz y (v_ hy)];exact(a_.1 hc).1
    have e0:=aK9 n ds i j y c hy hc hj;obtain⟨d,v,e1,e2,e3⟩:=hdk (i * z+j) (hij i j hi hj);rw[e0] at e1;cases e1;have e4:arr'[i * z+j]? = some v:=by rw[hat i j hi hj];exact e2
    have e5:arr'.getD (i * z+j) undef=v:=by rw[b_,e4];rfl
    simp only[e5];refine⟨e4,e3.one,fun _=>?_⟩;have e6:(fun b=>j<z/\i<n/\Bk (i * z+j) b)=Bk (i * z+j):=by funext b;simp[hj,hi]
    rw[e6];exact e3.tr.keep (fun b hb=>hheap b (e3.free b hb).2.1)
   ·have:=g6 _ _ b hb.2.2 hb'.2.2
    exact aL0 hb.1 hb'.1 this
  ·rcases hb with hb | hb
   ·have hb':b=E.w.heap.size:=by
     simp only[ownB] at hb;split at hb
     ·cases hb
     ·simpa using hb.symm
    subst hb';refine⟨.inr rfl,by simp[Env.newPriv],fun i hs=>s_ _ (hst.heap.Slt _ i hs),fun r o ho hb=>s_ _ (g1.lt r o _ ho hb)⟩
   ·obtain⟨p1,p2,p3,p4⟩:=hold b hb
    exact⟨.inl p1,by simp only[Env.newPriv,World.size_alloc];omega,p3,p4⟩
 obtain⟨k1,k2⟩:=hH1.giveT (q:=0) hL;unfold Oper.wp execOp;simp only[ho,Sem.run_bind,hrun,Result.andThen_ok,Sem.run_pure,Oper.upon];have hNN:(E.newPriv (E.w.alloc (.cells arr' e))).N=s.H.length:=hst.heap.N;refine⟨_,_,.own s.H.length 0,_,rfl,rfl,?_,k2,hle.trans k1,hk _⟩;have hτ:((E.newPriv (E.w.alloc (.cells arr' e))).named 0 (.slice (some ⟨E.w.heap.size,0,none⟩) n n)).τ s.H.length=(0,.slice (some ⟨E.w.heap.size,0,none⟩) n n):=by simp[Env.named,hNN]
 exact .own _ _ _ (by simp[Env.named,hNN]) rfl (by rw[hτ];exact d_ _) (fun _=>by rw[hτ])
theorem Z5 {o:Oper} {x y:Operand} {t u:TypeId} {E:Env} {a:Act} {v':Value} {w':World} {Q:Act->World->Prop} {Q2:Exit->Act->World->Prop} (ho:o.op=.call { callee:=.builtin .append,args:=#[x,y],argTypes:=#[t,u] })
  (hrun:(Builtin.append_ #[t,u] o.type #[a.eval x,a.eval y]).run P E.w=.ok v' w') (h:Q (a.put o.dst v') w'):o.wp P a E.w Q Q2:=by
 unfold Oper.wp execOp;simp only[ho,resolve,invoke,builtin,Sem.run_bind,Sem.run_pure,Result.andThen_ok,List.map_toArray,O_,List.map_nil,hrun,Oper.upon];exact h
theorem bk6 {s:St} {o:Oper} {K:C->List O->Prop} {x y:Operand} {t u:TypeId} (ho:o.op=.call { callee:=.builtin .append,args:=#[x,y],argTypes:=#[t,u] })
  (hx:l5 x=true) (hy:l5 y=true) (h:aJ5 P s t u (ev s x) (ev s y) K):G6 P s o K:=by
 unfold aJ5 at h;split at h
 ·rename_i e z by_ ht
  obtain⟨hu,h⟩:=h;have hz:0<z:=(J8 ht).2.1;intro E ns a hst;have hvx:=o9 hst x hx;have hvy:=o9 hst y hy;have lens:∀{m:Nat} {b:Option Addr} {cap:Nat},∀w,(Builtin.lenOf (.slice b m cap)).run P w=.ok m w:=fun w=>by simp[Builtin.lenOf]
  split at h
  ·rename_i r q hev
   split at h
   ·rename_i q' z' e' xs B hr
    obtain⟨rfl,rfl,rfl,h⟩:=h;rw[hev] at hvx;have hver:=(hst.heap.obj r _ hr).1;have hvalx:a.eval x=(E.τ r).2:=by
     generalize a.eval x=v at hvx;cases hvx with
     | own _ _ _ _ _ _ hv=>exact hv hver.symm
    obtain⟨k1,k2⟩:=hst.heap.takeT hr;have hrl:=(a_.1 hr).1;split at h
    ·rename_i r2 q2 hev2
     split at h
     ·rename_i q2' z2 e2 ys B2 hr2
      obtain⟨hne,rfl,rfl,hm,hby,hk⟩:=h;rw[hev2] at hvy;have hver2:=(hst.heap.obj r2 _ hr2).1;have hvaly:a.eval y=(E.τ r2).2:=by
       generalize a.eval y=v at hvy;cases hvy with
       | own _ _ _ _ _ _ hv=>exact hv hver2.symm
      have hr2':(s.H.set r .dead)[r2]? = some (.tree q2 z2 e2 ys B2 none):=by rw[n_ hne];exact hr2
      obtain⟨j1,j2⟩:=k1.takeT hr2';obtain⟨Ly,base,cap,c1,c2,c3,c4,c5⟩:=j2.root.cells (P:=P) j2.z0 j2.hz;have hl1:Loose E ((s.H.set r .dead).set r2 .dead) z2 e xs (E.τ r).2 B:=⟨k2.root,k2.hz,k2.z0,aO4 k2.free r2⟩;obtain⟨v',E1,B',g1,g2,g3,g4,g5,g6,g7⟩:=aW8 (P:=P) (ty:=o.type) (x:=(E.τ r2).2) j1 ht (aF7 hu) hl1 c1 j2.hz c2 c3 (j2.free.mono (fun b hb=>.inr hb)) (fun b hb hb'=>by
       have f1:=(k2.free b hb').2.2.2 r2 _ hr2';exact f1 (.inr hb)) (by rw[c4];exact lens) c5 hm hby
      have hdead:((s.H.set r .dead).set r2 .dead)[r]? = some .dead:=by
       rw[n_ (Ne.symm hne),l_ hrl]
      obtain⟨f1,f2⟩:=g6.fillD (q:=q+1) hdead (by rw[g4,hver];omega) g7;have hH:((s.H.set r .dead).set r2 .dead).set r (.tree (q+1) z2 e (xs++ys) B' none)=(s.H.set r2 .dead).set r (.tree (q+1) z2 e (xs++ys) B' none):=by
       rw[List.set_comm _ _ hne,List.set_set]
      refine Z5 ho (v':=v') (w':=E1.w) (by rw[hvalx,hvaly];exact g1) ⟨v',E1.rename r (q+1) v',.own r (q+1),_,rfl,rfl,?_,by rw[<-hH];exact f2,g2.trans f1,hk B'⟩;have hτ:(E1.rename r (q+1) v').τ r=(q+1,v'):=by simp[Env.rename]
      exact .own _ _ _ (by show r<E1.N;rw[g3,hst.heap.N];exact hrl) g7.root.one (by rw[hτ];exact d_ _) (fun _=>by rw[hτ])
     ·exact h.elim
    ·split at h
     ·rename_i ys hys
      obtain⟨hyz,hflat,hm,hby,hk⟩:=h;have hvy':=q8 hst hvy;rw[hys] at hvy';generalize hgy:a.eval y=vy at hvy';cases hvy' with
      | d _ _ hd =>
       have hs:=bp0 (P:=P) (E:=E) (u:=u) hu hyz hd;obtain⟨L,hL,hfx⟩:=hs.cells
       obtain⟨v',E1,B',g1,g2,g3,g4,g5,g6,g7⟩:=aW8 (P:=P) (ty:=o.type) (x:=vy) k1 ht hs.plain k2 hL.len hL.each (bw0 hL hflat) hL.one (fun b hb=>hb.elim) (fun b hb=>hb.elim) hs.len
        (fun w' hw'=>hfx w' (fun b i _=>by simp only[World.cell?,hw'])) hm hby
       have hdead:(s.H.set r .dead)[r]? = some .dead:=l_ hrl;obtain⟨f1,f2⟩:=g6.fillD (q:=q+1) hdead (by rw[g4,hver];omega) g7;refine Z5 ho (v':=v') (w':=E1.w) (by rw[hvalx,hgy];exact g1) ⟨v',E1.rename r (q+1) v',.own r (q+1),_,rfl,rfl,?_,by rw[List.set_set] at f2;exact f2,g2.trans f1,hk B'⟩;have hτ:(E1.rename r (q+1) v').τ r=(q+1,v'):=by simp[Env.rename]
       exact .own _ _ _ (by show r<E1.N;rw[g3,hst.heap.N];exact hrl) g7.root.one (by rw[hτ];exact d_ _) (fun _=>by rw[hτ])
     ·exact h.elim
   ·exact h.elim
  ·rename_i hev
   rw[hev] at hvx;split at h
   ·rename_i r2 q2 hev2
    split at h
    ·rename_i q2' z2 e2 ys B2 hr2
     obtain⟨rfl,rfl,hm,hby,hk⟩:=h;rw[hev2] at hvy;have hver2:=(hst.heap.obj r2 _ hr2).1;have hvaly:a.eval y=(E.τ r2).2:=by
      generalize a.eval y=v at hvy;cases hvy with
      | own _ _ _ _ _ _ hv=>exact hv hver2.symm
     obtain⟨j1,j2⟩:=hst.heap.takeT hr2;obtain⟨Ly,base,cap,c1,c2,c3,c4,c5⟩:=j2.root.cells (P:=P) j2.z0 j2.hz;generalize hgx:a.eval x=vx at hvx;cases hvx with
     | nil0 ad =>
      have hl1:Loose E (s.H.set r2 .dead) z2 e [] (.slice ad 0 0) (fun _=>False):=by
       refine⟨.inl ⟨ad,rfl,rfl⟩,fun x hx=>by simp at hx,hz,fun b hb=>?_⟩;rcases hb with hb | hb
       ·cases ad<;>simp[ownB] at hb
       ·exact hb.elim
      obtain⟨v',E1,B',g1,g2,g3,g4,g5,g6,g7⟩:=aW8 (P:=P) (ty:=o.type) (x:=(E.τ r2).2) j1 ht (aF7 hu) hl1 c1 j2.hz c2 c3 (j2.free.mono (fun b hb=>.inr hb)) (fun b hb hb'=>by
       rcases hb' with hb' | hb'
       ·cases ad<;>simp[ownB] at hb'
       ·exact hb'.elim) (by rw[c4];exact lens) c5 (by simpa using hm) (by simpa using hby)
      obtain⟨f1,f2⟩:=g6.giveT (q:=1) g7;have hNN:E1.N=s.H.length:=by rw[g3,hst.heap.N]
      refine Z5 ho (v':=v') (w':=E1.w) (by rw[hgx,hvaly];exact g1) ⟨v',E1.named 1 v',.own s.H.length 1,_,rfl,rfl,?_,by simpa using f2,g2.trans f1,hk B'⟩;have hτ:(E1.named 1 v').τ s.H.length=(1,v'):=by simp[Env.named,hNN]
      exact .own _ _ _ (by simp[Env.named,hNN]) g7.root.one (by rw[hτ];exact d_ _) (fun _=>by rw[hτ])
    ·exact h.elim
   ·exact h.elim
  ·exact h.elim
 ·exact h.elim
theorem G7 {s:St} {o:Oper} {K:C->List O->Prop} (h:Q7 P s o K):G6 P s o K:=by
 unfold Q7 at h;split at h
 ·rename_i t n ps ho
  split at h
  ·rename_i xs hx
   have hps:ps.toList=(xs.zipIdx 0).map fun p=>(p.2,p.1):=by
    unfold Q8 at hx;split at hx
    ·rename_i hc
     simp only[f_] at hc;cases hx;exact aG6 _ _ hc.1
    ·cases hx
   split at h
   ·rename_i e z by_ ht
    obtain⟨h1,h2,h3,h4,h⟩:=h;split at h
    ·rename_i ds H1 hm
     exact ap1 ho hps ht h1 h2 h3 h4 hm h
    ·exact h.elim
   ·exact h.elim
  ·exact u7 h
 ·rename_i c ho
  obtain⟨callee,args,argTypes⟩:=c;dsimp only at h;split at h
  ·split at h
   ·rename_i x y t u hargs hts
    have e1:args=#[x,y]:=A_.1 (by simpa using hargs);have e2:argTypes=#[t,u]:=A_.1 (by simpa using hts);subst e1 e2;split at h
    ·exact bk6 ho h.1 h.2.1 h.2.2
    ·exact u7 h
   ·exact h.elim
  ·split at h
   ·rename_i x t hargs hts
    have e1:args=#[x]:=A_.1 (by simpa using hargs);have e2:argTypes=#[t]:=A_.1 (by simpa using hts);subst e1 e2;split at h
    ·rename_i r q hp
     split at h
     ·rename_i q' z e xs hr
      exact bk0 ho h.1 hp hr h.2.1 h.2.2.1 h.2.2.2
     ·exact u7 h
    ·exact u7 h
   ·exact h.elim
  ·rename_i f
   exact aV4 ho rfl h.1 h.2.1 h.2.2
  ·exact u7 h
 ·rename_i t x ho
  split at h
  ·rename_i r q z i off hp
   split at h
   ·rename_i q' z' e xs hr
    exact bw9 ho h.1 hp hr h.2
   ·split at h
    ·rename_i hag
     exact bj6 ho h.1 hp hag h.2
    ·exact u7 h
  ·exact u7 h
 ·rename_i t x i ho
  split at h
  ·rename_i r q hp
   split at h
   ·rename_i q' z e xs hr
    exact bk4 ho h.1 h.2.1 hp hr h.2.2
   ·exact u7 h
  ·exact u7 h
 ·rename_i t p x ho
  split at h
  ·rename_i r q z i off hp
   split at h
   ·rename_i q' z' e xs hr
    exact bw8 ho h.1 h.2.1 hp hr h.2.2
   ·exact u7 h
  ·exact u7 h
 ·exact u7 h
end
section
variable {P:Program}
theorem al0 {s s':St} (hH:s.H=s'.H):∀(l:List (Nat×Operand)),(∀p,p∈l->ev s p.2=ev s' p.2)->ah6 s l=ah6 s' l
 | [],_=>rfl
 | p :: r,h=>by
  have n3:=M5 hH;simp only[ah6,h p (by simp),n3,al0 hH r (fun q hq=>h q (by simp[hq]))]
theorem as3 {s s':St} (hH:s.H=s'.H) (l:List (Nat×Operand)) (h:∀p,p∈l->ev s p.2=ev s' p.2):Q8 s l=Q8 s' l:=by
 unfold Q8;rw[al0 hH l h]
theorem ae8 {s s':St}:∀(l:List Operand),(∀x,x∈l->ev s x=ev s' x)->F4 s l=F4 s' l
 | [],_=>rfl
 | x :: r,h=>by simp only[F4,h x (by simp),ae8 r (fun q hq=>h q (by simp[hq]))]
theorem ao2 {s s':St} {z:Nat}:∀(l:List Operand),(∀x,x∈l->ev s x=ev s' x)->aj7 s z l->aj7 s' z l
 | [],_,h=>h
 | x :: r,h,hk=>by
  have e:=h x (by simp);obtain⟨h1,h2,h3,h4⟩:=hk;exact⟨h1,by rw[<-e];exact h2,by rw[<-e];exact h3,ao2 r (fun q hq=>h q (by simp[hq])) h4⟩
theorem aR0 {s s':St} {o:Oper} {K:C->List O->Prop} (hH:s.H=s'.H) (he:∀x,x∈o.op.operands->ev s x=ev s' x) (h:Q7 P s o K):Q7 P s' o K:=by
 have n1:=R5 hH;have n2:=am2 hH;have n3:=M5 hH;unfold Q7 at h |-;split at h
 ·rename_i t n ps ho
  have hps:∀p,p∈ps.toList->ev s p.2=ev s' p.2:=fun p hp=>he p.2 (by rw[ho];simp only[Op.operands,List.mem_toArray,Q_];exact⟨p,hp,rfl⟩);rw[<-as3 hH _ hps];split at h
  ·rename_i xs hx
   have hex:∀x,x∈xs->ev s x=ev s' x:=by
    unfold Q8 at hx;split at hx
    ·cases hx
     intro x hx;obtain⟨p,hp,rfl⟩:=Q_.1 hx;exact hps p hp
    ·cases hx
   split at h
   ·obtain⟨h1,h2,h3,h4,h5⟩:=h
    refine⟨h1,h2,h3,ao2 _ hex h4,?_⟩;rw[<-ae8 _ hex,<-hH];exact h5
   ·exact h.elim
  ·exact C9 hH he h
 ·rename_i c ho
  obtain⟨callee,args,argTypes⟩:=c;have hargs:∀x,x∈args.toList->ev s x=ev s' x:=fun x hx=>he x (by
   rw[ho];simp only[Op.operands,Call.operands,Array.mem_append];exact .inr (by simpa using hx))
  dsimp only at h |-;split at h
  ·split at h
   ·rename_i x y t u hxy hts
    have ex:=hargs x (by rw[hxy];simp);have ey:=hargs y (by rw[hxy];simp);have ea:cc0 s (ev s x) (ev s y)=cc0 s' (ev s' x) (ev s' y):=by rw[ex,ey];unfold cc0;rw[hH]
    rw[<-ea];split at h
    ·rename_i hap
     refine⟨h.1,h.2.1,?_⟩;have h3:=h.2.2;rw[ex,ey] at h3;unfold aJ5 at h3 |-;rw[<-hH,<-n1];exact h3
    ·rename_i hap
     exact C9 hH he h
   ·exact h.elim
  ·split at h
   ·rename_i x t hxy hts
    have ex:=hargs x (by rw[hxy];simp);rw[<-ex,<-hH];split at h
    ·split at h
     ·exact h
     ·exact C9 hH he h
    ·exact C9 hH he h
   ·exact h.elim
  ·rename_i f
   have ef:ev s f=ev s' f:=he f (by rw[ho];simp[Op.operands,Call.operands]);have e1:args.toList.map (fun x=>aL7 s (ev s x))=args.toList.map (fun x=>aL7 s' (ev s' x)):=List.map_congr_left fun x hx=>by
    rw[hargs x hx];unfold aL7;rw[n2]
   rw[<-ef,<-e1,<-hH];exact h
  ·exact C9 hH he h
 ·rename_i t x ho
  have ex:ev s x=ev s' x:=he x (by rw[ho];simp[Op.operands]);rw[<-ex,<-hH];split at h
  ·split at h
   ·exact h
   ·split at h
    ·refine⟨h.1,?_⟩
     have h2:=h.2;unfold aI9 at h2 |-;rw[<-hH];exact h2
    ·exact C9 hH he h
  ·exact C9 hH he h
 ·rename_i t x i ho
  have ex:ev s x=ev s' x:=he x (by rw[ho];simp[Op.operands]);have ei:ev s i=ev s' i:=he i (by rw[ho];simp[Op.operands]);rw[<-ex,<-ei,<-hH];split at h
  ·split at h
   ·exact h
   ·exact C9 hH he h
  ·exact C9 hH he h
 ·rename_i t p x ho
  have ep:ev s p=ev s' p:=he p (by rw[ho];simp[Op.operands]);have ex:ev s x=ev s' x:=he x (by rw[ho];simp[Op.operands]);rw[<-ep,<-hH];split at h
  ·split at h
   ·refine⟨h.1,h.2.1,?_⟩
    have h2:=h.2.2;unfold bn1 at h2 |-;rw[<-n3,<-ex,<-hH];exact h2
   ·exact C9 hH he h
  ·exact C9 hH he h
 ·exact C9 hH he h
def bT7 (P:Program) (n:Nat) (K:St->Prop):List Oper->St->Prop
 | [],⟨σ,H⟩=>K ⟨σ,H⟩
 | o :: rest,⟨σ,H⟩=>H9 n o=true/\o.guard=none/\Q7 P ⟨σ,H⟩ o (kR (bT7 P n K rest) ⟨σ,H⟩ o.dst)
theorem af1 {n:Nat} {ops:Array Oper} {Q:Exit->Act->World->Prop} {i:Nat} {o:Oper} {K:Act->World->Prop} {a:Act} {w:World} (hi:ops[i]? = some o) (hg:o.guard=none) (h:o.wp P a w K Q):wpOp P ops Q i K a w:=by
 unfold wpOp;simp only[hi];have hw:Region.wanted o (yielded ops a.tmps)=true:=by simp[Region.wanted,hg]
 rw[if_pos hw];exact .inl h
theorem G6.run {s:St} {o:Oper} {K:C->List O->Prop} (h:G6 P s o K) {E:Env} {n:Nat} {a:Act} (hst:RepSt E n s a) {Q:Act->World->Prop} {Q2:Exit->Act->World->Prop}
  (hk:∀v E' c H',Rd E' c v->RepH E' H'->Le E E'->K c H'->Q (a.put o.dst v) E'.w):o.wp P a E.w Q Q2:=by
 have hw:=h E n a hst;unfold Oper.wp at hw |-;generalize (execOp a.eval o).run P E.w=r at hw |-;have key:∀a' w',(∃v E' c H',a'=a.put o.dst v/\E'.w=w'/\Rd E' c v/\RepH E' H'/\Le E E'/\K c H')->Q a' w':=by
  rintro a' w' ⟨v,E',c,H',rfl,rfl,h1,h2,h3,h4⟩;exact hk v E' c H' h1 h2 h3 h4
 cases r with
 | ok x w' =>
  cases x<;>simp only[Oper.upon] at hw |-<;>first
   | exact key _ _ hw
   | exact Calls.mono hw (fun e w'' he=>by cases e<;>first | exact key _ _ he | exact he.elim | obtain⟨_,_,h⟩:=he;exact h.elim)
   | exact Rows.mono hw (fun _ _ he=>key _ _ he)
   | exact hw
 | halt x w'=>cases x<;>simp only[Oper.upon] at hw
theorem G6.mono {s:St} {o:Oper} {K K':C->List O->Prop} (h:G6 P s o K) (hk:∀c H,K c H->K' c H):G6 P s o K':=by
 intro E n a hst;exact h.run hst (fun v E' c H' h1 h2 h3 h4=>⟨v,E',c,H',rfl,rfl,h1,h2,h3,hk _ _ h4⟩)
theorem az8 {n:Nat} {K:St->Prop} {ops:Array Oper} {E0:Env}:∀(os:List Oper) (l:List Nat) (s:St) (E:Env) (a:Act),l.map (ops[·]?)=os.map some->RepSt E n s a->Le E0 E->bT7 P n K os s ->
  wpOps P ops (Behind n E0 K) l a E.w
 | [],l,s,E,a,hl,hst,hle,h=>by
  have:l=[]:=by simpa using hl
  subst this;exact⟨rfl,E,s,rfl,hst,hle,h⟩
 | o :: os,l,s,E,a,hl,hst,hle,h=>by
  cases l with
  | nil=>simp at hl
  | cons i l =>
   simp only[O_,List.cons.injEq] at hl;obtain⟨ho,hl⟩:=hl;unfold bT7 at h;obtain⟨hd,hg,h⟩:=h;have hdst:∀d,o.dst=some d->d<n:=fun d hd'=>by
    unfold H9 at hd;rw[hd'] at hd;simpa using hd
   rw[wpOps_cons];refine af1 (n:=n) ho hg ((G7 h).run hst (fun v E' c H' h1 h2 h3 h4=>?_));exact az8 os l _ E' _ hl (hst.put h3 h2 hdst h1) (hle.trans h3) h4
theorem AW.regT {f:FuncId} {n n0:Nat} {R:C->List O->Prop} {id:Nat} {ops:Array Oper} {k:List Item} {s:St} (h:bT7 P n (AW P f n n0 R k) ops.toList s):AW P f n n0 R (.code (.region id ops false) :: k) s:=by
 refine AW.of_behind (k':=k) fun _ E a b cs hst=>?_;have hw:=az8 (ops:=ops) ops.toList (List.range ops.size) s E a (by
  apply List.ext_getElem?;intro j;simp only[r_];by_cases hj:j<ops.size
  ·rw[H_ hj]
   simp[hj]
  ·rw[q_ (by simpa using hj),q_ (by simpa using hj)]
   rfl) hst (Le.refl E) h
 obtain⟨e,a',w',⟨rfl,E',s',rfl,h1,h2,h3⟩,harr⟩:=wp_region (id:=id) hw b k cs;exact⟨a',E',s',harr,h1,h2,h3⟩
def H8:Op->Option TypeId
 | .alloc e=>some e
 | _=>none
def aT4:List (Nat×O)->Nat->Option O
 | [],_=>none
 | p :: r,i=>if p.1=i then some p.2 else aT4 r i
def ae6 (F:List (Nat×O)) (H:List O):Prop:=∀i o,aT4 F i=some o->H[i]? = some o
def D8:List (Nat×O)->List O->Prop
 | [],_=>True
 | p :: r,H=>H[p.1]? = some p.2/\D8 r H
theorem aH0:∀{F:List (Nat×O)} {H:List O},D8 F H->ae6 F H
 | [],H,h=>fun i o ho=>by simp[aT4] at ho
 | p :: r,H,h=>fun i o ho=>by
  unfold aT4 at ho;split at ho
  ·rename_i e;cases ho;rw[<-e];exact h.1
  ·exact aH0 h.2 i o ho
def bz3 (P:Program) (F:List (Nat×O)) (s:St) (op:Op) (K:C->Prop):Prop:=
 match op with
 | .move x | .assign x=>l5 x=true/\K (ev s x)
 | .fieldAddr t x f=>l5 x=true/\I1 P t f (ev s x) K
 | .load t x=>l5 x=true/\(match ev s x with
  | .ptr r off=>(match aT4 F r with | some (.box cs)=>X4 P cs off t K | _=>False)
  | .cptr cs=>O4 P s t (.cptr cs) K
  | _=>False)
 | .build t ps=>(match R3 P t with
  | some (z,places)=>S9 places s (cf6 K) ps.toList (z.map cv1)
  | none=>False)
 | .indexAddr t x i=>l5 x=true/\l5 i=true/\(match ev s x with | .d d=>F6 P s t (.d d) (ev s i) K | _=>False)
 | .binOp op t x y _=>l5 x=true/\l5 y=true/\(match ev s x,ev s y with | .d a,.d b=>aD9 P s op t (.d a) (.d b) K | _,_=>False)
 | .extract x i=>l5 x=true/\(match ev s x with | .tup cs=>i<cs.length/\K (cs.getD i .top) | _=>False)
 | .call ⟨.builtin .len,args,ts⟩=>(match args.toList,ts.toList with
  | [x],[t]=>l5 x=true/\(match ev s x with | .d d=>ay3 P s t (.d d) K | _=>False)
  | _,_=>False)
 | .pick c x y=>l5 c=true/\l5 x=true/\l5 y=true/\(match ev s c with | .d (.bool b)=>K (if b then ev s x else ev s y) | _=>False)
 | _=>False
theorem bw3 {places:List (Nat×Nat)} {σ:List (Nat×C)} {H H':List O} {K:List C->Prop}:∀(ps:List (Nat×Operand)) (cs:List C),S9 places ⟨σ,H⟩ K ps cs->S9 places ⟨σ,H'⟩ K ps cs
 | [],cs,h=>h
 | (i,x) :: r,cs,h=>by
  have ex:ev ⟨σ,H⟩ x=ev ⟨σ,H'⟩ x:=by cases x<;>rfl
  unfold S9 at h |-;rw[<-ex];split at h
  ·exact⟨h.1,h.2.1,h.2.2.1,h.2.2.2.1,bw3 r _ h.2.2.2.2⟩
  ·exact h.elim
theorem aJ2 {F:List (Nat×O)} {σ:List (Nat×C)} {H H':List O} {op:Op} {K:C->Prop} (hF:ae6 F H') (h:bz3 P F ⟨σ,H⟩ op K):o6 P ⟨σ,H'⟩ op K:=by
 have hev:∀x,ev ⟨σ,H⟩ x=ev ⟨σ,H'⟩ x:=fun x=>by cases x<;>rfl
 unfold bz3 at h;split at h
 ·rename_i x;unfold o6;simp only[<-hev];exact h
 ·rename_i x;unfold o6;simp only[<-hev];exact h
 ·unfold o6;simp only[<-hev];exact h
 ·rename_i t x
  obtain⟨h1,h⟩:=h;unfold o6;refine⟨h1,?_⟩;rw[<-hev];split at h
  ·rename_i r off he
   rw[he];split at h
   ·rename_i cs hl
    simp only[O4,hF r _ hl];exact h
   ·exact h.elim
  ·rename_i cs he
   rw[he];simp only[O4] at h |-;exact h
  ·exact h.elim
 ·rename_i t ps
  unfold o6;split at h
  ·rename_i heq
   simp only[heq];exact bw3 _ _ h
  ·exact h.elim
 ·rename_i t x i
  obtain⟨h1,h2,h⟩:=h;unfold o6;refine⟨h1,h2,?_⟩;rw[<-hev,<-hev];split at h
  ·rename_i d he
   rw[he];simp only[F6,J3] at h |-;cases d<;>exact h
  ·exact h.elim
 ·obtain⟨h1,h2,h⟩:=h
  unfold o6;refine⟨h1,h2,?_⟩;rw[<-hev,<-hev];split at h
  ·rename_i a b he1 he2
   rw[he1,he2];exact h
  ·exact h.elim
 ·unfold o6;simp only[<-hev];exact h
 ·split at h
  ·rename_i x t hx ht
   obtain⟨h1,h⟩:=h;unfold o6;simp only[hx,ht];refine⟨h1,?_⟩;rw[<-hev];split at h
   ·rename_i d he
    rw[he];simp only[ay3,J3] at h |-;cases d<;>exact h
   ·exact h.elim
  ·exact h.elim
 ·unfold o6;simp only[<-hev];exact h
 ·exact h.elim
def PA (P:Program) (F:List (Nat×O)) (σ:Nat->C) (o:Oper) (c:C):Prop:=
 ∀H,ae6 F H->∀E n a,RepSt E n (at5 σ H (tmpsOf o.op)) a->Yields P E a o c
theorem bA4 {F:List (Nat×O)} {s:St} {op:Op} {K:C->Prop} (hF:ae6 F s.H) (h:bz3 P F s op K):∃c,bz3 P F s op (·=c)/\K c:=by
 obtain⟨c,h1,h2⟩:=al6 (aJ2 (σ:=s.σ) (H:=s.H) hF h);refine⟨c,?_,h2⟩;unfold bz3 at h |-;split at h
 ·simp only[o6] at h1;exact h1
 ·simp only[o6] at h1;exact h1
 ·simp only[o6] at h1;exact h1
 ·simp only[o6] at h1
  refine⟨h1.1,?_⟩;have h3:=h1.2;have h4:=h.2;split at h4
  ·rename_i r off he
   split at h4
   ·rename_i cs hl
    rw[he] at h3;simp only[O4,hF r _ hl] at h3;exact h3
   ·exact h4.elim
  ·rename_i cs he
   rw[he] at h3;exact h3
  ·exact h4.elim
 ·simp only[o6] at h1
  split at h
  ·rename_i heq
   simp only[heq] at h1;exact h1
  ·exact h.elim
 ·simp only[o6] at h1
  refine⟨h1.1,h1.2.1,?_⟩;have h3:=h1.2.2;have h4:=h.2.2;split at h4
  ·rename_i d he
   rw[he] at h3;exact h3
  ·exact h4.elim
 ·simp only[o6] at h1
  refine⟨h1.1,h1.2.1,?_⟩;have h3:=h1.2.2;have h4:=h.2.2;split at h4
  ·rename_i a b he1 he2
   rw[he1,he2] at h3;exact h3
  ·exact h4.elim
 ·simp only[o6] at h1;exact h1
 ·split at h
  ·rename_i x t hx ht
   simp only[o6,hx,ht] at h1;refine⟨h1.1,?_⟩;have h3:=h1.2;have h4:=h.2;split at h4
   ·rename_i d he
    rw[he] at h3;exact h3
   ·exact h4.elim
  ·exact h.elim
 ·simp only[o6] at h1;exact h1
 ·exact h.elim
theorem co2 {F:List (Nat×O)} {s:St} {o:Oper} {K:C->Prop} (hF:ae6 F s.H) (h:bz3 P F s o.op K):∃c,PA P F (get s.σ) o c/\K c:=by
 obtain⟨c,hq,hk⟩:=bA4 hF h;obtain⟨σ,H⟩:=s;refine⟨c,fun H' hF' E n a hst=>?_,hk⟩;have h3:o6 P (at5 (get σ) H' (tmpsOf o.op)) o.op (·=c):=by
  refine U5 (s:=⟨σ,H'⟩) rfl (fun x hx=>?_) (aJ2 hF' hq);cases x with
  | tmp t =>
   show get σ t=get (at5 (get σ) H' (tmpsOf o.op)).σ t;rw[aa3,if_pos];exact List.mem_filterMap.2 ⟨.tmp t,by simpa using hx,rfl⟩
  | _=>rfl
 obtain⟨c1,e,hall⟩:=an6 (o:=o) h3;subst e;exact hall E n a hst
end
section
variable {P:Program} {n:Nat} {md:Region.Mode} {ops:Array Oper} {LA:Array Bool} {F:List (Nat×O)}
def gOk (ops:Array Oper) (σ:Nat->C) (o:Oper):Prop:=
 match o.guard with
 | none=>True
 | some (j,want)=>∃t,(ops[j]?).bind (·.dst)=some t/\σ t=.d (.bool want)
def cf7 (ops:Array Oper) (σ:List (Nat×C)) (o:Oper):Prop:=
 match o.guard with
 | none=>True
 | some (j,want)=>match (ops[j]?).bind (·.dst) with
  | some t=>get σ t=.d (.bool want)
  | none=>False
theorem bF4 {ops:Array Oper} {σ:Nat->C} {o:Oper} (h:o.guard=none):gOk ops σ o:=by unfold gOk;rw[h];trivial
theorem bF5 {ops:Array Oper} {σ:List (Nat×C)} {o:Oper} (h:cf7 ops σ o):gOk ops (get σ) o:=by
 unfold cf7 at h;unfold gOk;cases hg:o.guard with
 | none=>trivial
 | some jw =>
  rw[hg] at h;obtain⟨j,want⟩:=jw;dsimp only at h |-;cases ht:(ops[j]?).bind (·.dst) with
  | none=>rw[ht] at h;exact h.elim
  | some t=>rw[ht] at h;exact⟨t,rfl,h⟩
theorem bb6 {ops:Array Oper} {o:Oper} {j:Nat} {want:Bool} {t:Tmp} (hg:o.guard=some (j,want)) (ht:(ops[j]?).bind (·.dst)=some t):t∈o.looksAt ops:=by
 unfold Oper.looksAt;simp[hg,ht]
theorem bQ7 {ops:Array Oper} {σ:Nat->C} {o:Oper} {x:Option Tmp} {d:C} (h:gOk ops σ o) (hx:∀k,x=some k->k∉o.looksAt ops):gOk ops (upd σ x d) o:=by
 unfold gOk at h |-;cases hg:o.guard with
 | none=>trivial
 | some jw =>
  rw[hg] at h;obtain⟨j,want⟩:=jw;obtain⟨t,ht,hs⟩:=h;refine⟨t,ht,?_⟩;cases x with
  | none=>exact hs
  | some k =>
   have hne:k≠t:=fun e=>hx k rfl (by rw[e];exact bb6 hg ht);simp only[upd];first | rw[if_neg hne];exact hs | rw[if_neg hne.symm];exact hs
theorem aC6 {ops:Array Oper} {σ:Nat->C} {o:Oper} {x:Option Tmp} {d:C} (h:gOk ops (upd σ x d) o) (hx:∀k,x=some k->k∉o.looksAt ops):gOk ops σ o:=by
 unfold gOk at h |-;cases hg:o.guard with
 | none=>trivial
 | some jw =>
  rw[hg] at h;obtain⟨j,want⟩:=jw;obtain⟨t,ht,hs⟩:=h;refine⟨t,ht,?_⟩;cases x with
  | none=>exact hs
  | some k =>
   have hne:k≠t:=fun e=>hx k rfl (by rw[e];exact bb6 hg ht);simp only[upd] at hs;first | rw[if_neg hne] at hs;exact hs | rw[if_neg hne.symm] at hs;exact hs
def bOp (P:Program) (n:Nat) (ops:Array Oper) (i:Nat) (K:(Nat->C)->List O->Prop) (σ:Nat->C) (H:List O):Prop:=
 match ops[i]? with
 | none=>False
 | some o=>H9 n o=true/\gOk ops σ o /\
  (match H8 o.op with
  | some _=>K (upd σ o.dst .top) H
  | none=>G6 P (at5 σ H (tmpsOf o.op)) o (fun c H'=>K (upd σ o.dst c) H'))
def aw5:Op->Bool
 | .extract (.tmp _) _=>true
 | _=>false
def bV0 (σ:Nat->C) (o:Oper) (c:C):Prop:=∃x k cs,o.op=.extract (.tmp x) k/\σ x=.tup cs/\k<cs.length/\c=cs.getD k .top
def bK9 (n:Nat) (md:Region.Mode) (ops:Array Oper) (listed:Array Bool) (i:Nat) (oi:Oper):Prop:=
 ops[i]? = some oi/\H9 n oi=true/\oi.guard=none/\Region.noSelect ops=true/\Region.free md ops listed i=true/\i∈Region.ready md ops listed
def aQ8 (P:Program) (n:Nat) (md:Region.Mode) (ops:Array Oper) (LA:Array Bool) (F:List (Nat×O)) (Q:(Nat->C)->List O->Prop):Nat->Array Bool->(Nat->C)->List O->Prop
 | 0,listed,σ,H=>ae6 F H/\listed=LA/\Q σ H
 | f+1,listed,σ,H=>ae6 F H/\((Region.ready md ops listed≠[]/\∀i∈Region.ready md ops listed,bOp P n ops i (aQ8 P n md ops LA F Q f (listed.setIfInBounds i true)) σ H) \/
   ∃i oi c,bK9 n md ops listed i oi/\bV0 σ oi c/\aQ8 P n md ops LA F Q f (listed.setIfInBounds i true) (upd σ oi.dst c) H)
theorem bd7 {Q:(Nat->C)->List O->Prop} {f:Nat} {listed:Array Bool} {σ:Nat->C} {H:List O} (h:aQ8 P n md ops LA F Q f listed σ H):ae6 F H:=by
 cases f with
 | zero=>exact h.1
 | succ f=>exact h.1
def bH9 (P:Program) (F:List (Nat×O)) (σ:Nat->C) (o:Oper) (c:C):Prop:=
 match H8 o.op with
 | some _=>c=.top
 | none=>PA P F σ o c
theorem aE6 {σ:Nat->C} {H:List O} {x:Option Tmp} {d:C} {ts:List Nat} (h:∀k,x=some k->k∉ts):at5 (upd σ x d) H ts=at5 σ H ts:=by
 unfold at5;congr 1;apply List.map_congr_left;intro t ht;cases x with
 | none=>rfl
 | some k =>
  have hk:=h k rfl;have hne:k≠t:=fun e=>by subst e;exact hk ht
  simp[upd,hne]
theorem ae4 {o:Oper} {k:Nat} (h:k∉o.looksAt ops):k∉tmpsOf o.op:=fun hk=>h (by unfold Oper.looksAt;exact List.mem_append_left _ hk)
theorem bH9.upd {σ:Nat->C} {o:Oper} {c d:C} {x:Option Tmp} (h:bH9 P F σ o c) (hx:∀k,x=some k->k∉o.looksAt ops):bH9 P F (upd σ x d) o c:=by
 unfold bH9 at h |-;split
 ·rename_i e he;simp only[he] at h;exact h
 ·rename_i he
  simp only[he] at h;intro H hF E n a hst;rw[aE6 (fun k hk=>ae4 (hx k hk))] at hst;exact h H hF E n a hst
def bR3 (md:Region.Mode) (ops:Array Oper):Nat->Oper->Nat->Bool
 | 0,_,_=>false
 | f+1,o,i=>o.after.any (fun e=>Region.binds md e && e.on == i) || o.after.any (fun e=>Region.binds md e && (match ops[e.on]? with | some o'=>bR3 md ops f o' i | none=>false))
def an5 (md:Region.Mode) (ops:Array Oper) (listed:Array Bool):Prop:=∀k ok,ops[k]? = some ok->listed.getD k true=true->∀e∈ok.after,Region.binds md e=true->listed.getD e.on true=true
theorem ah3 {listed:Array Bool} (hc:an5 md ops listed):∀(f:Nat) (o:Oper) (i:Nat),(∀e∈o.after,Region.binds md e=true->listed.getD e.on true=true)->bR3 md ops f o i=true->listed.getD i true=true
 | 0,_,_,_,h=>by simp[bR3] at h
 | f+1,o,i,ha,h=>by
  unfold bR3 at h;rw[F_] at h;rcases h with h | h
  ·obtain⟨e,he,hb⟩:=Array.any_eq_true'.1 h
   simp only[f_,beq_iff_eq] at hb;rw[<-hb.2];exact ha e he hb.1
  ·obtain⟨e,he,hb⟩:=Array.any_eq_true'.1 h
   simp only[f_] at hb;have hl:=ha e he hb.1;cases ho:ops[e.on]? with
   | none=>simp[ho] at hb
   | some o' =>
    simp only[ho] at hb;exact ah3 hc f o' i (hc e.on o' ho hl) hb.2
theorem an5.set {listed:Array Bool} (hc:an5 md ops listed) {j:Nat} (hj:j∈Region.ready md ops listed):an5 md ops (listed.setIfInBounds j true):=by
 have hup:∀x,listed.getD x true=true->(listed.setIfInBounds j true).getD x true=true:=fun x hx=>by
  by_cases hjx:j=x
  ·subst hjx
   by_cases h':j<listed.size
   ·simp[b_,h']
   ·simp[b_,k_,h']
  ·rw[getD_set_ne true hjx];exact hx
 obtain⟨hjun,oj,hoj,hall⟩:=mem_ready.1 hj;intro k ok hk hl e he hb;by_cases hjk:j=k
 ·subst hjk
  rw[hoj] at hk;cases hk;have h1:=hall e he hb;refine hup _ ?_;rcases E_ e.on listed.size with h' | h'
  ·simp[h'] at h1 |-;exact h1
  ·simp[k_ h']
 ·rw[getD_set_ne true hjk] at hl
  exact hup _ (hc k ok hk hl e he hb)
theorem ae5 (x k:Nat):tmpsOf (.extract (.tmp x) k)=[x]:=by simp[tmpsOf,Op.operands]
theorem bV0.upd {σ:Nat->C} {o:Oper} {c d:C} {x:Option Tmp} (h:bV0 σ o c) (hx:∀k,x=some k->k∉o.looksAt ops):bV0 (upd σ x d) o c:=by
 obtain⟨y,k,cs,h1,h2,h3,h4⟩:=h;refine⟨y,k,cs,h1,?_,h3,h4⟩;cases x with
 | none=>exact h2
 | some t =>
  have hne:t≠y:=fun e=>by
   subst e;exact ae4 (hx t rfl) (by rw[h1,ae5];simp)
  simp only[Abs.upd,if_neg hne.symm];first | exact h2 | rw[if_neg hne];exact h2
theorem aP0 {i:Nat} {oi:Oper} {c:C} {σ:Nat->C} {H:List O} {K:(Nat->C)->List O->Prop} (hi:ops[i]? = some oi) (hd:H9 n oi=true) (hg:oi.guard=none) (h:bV0 σ oi c) (hk:K (upd σ oi.dst c) H):bOp P n ops i K σ H:=by
 obtain⟨x,k,cs,h1,h2,h3,rfl⟩:=h;unfold bOp;simp only[hi];refine⟨hd,bF4 hg,?_⟩;have ha:H8 oi.op=none:=by rw[h1];rfl
 simp only[ha];refine Q4 ?_;rw[h1];unfold o6 kAt;refine⟨rfl,?_⟩;have he:ev (at5 σ H (tmpsOf (.extract (.tmp x) k))) (.tmp x)=.tup cs:=by
  show get (at5 σ H (tmpsOf (.extract (.tmp x) k))).σ x=_;rw[ae5,aa3,if_pos (by simp)];exact h2
 rw[he];exact⟨h3,hk⟩
theorem bv8 {i j:Nat} {listed:Array Bool} (h:Region.free md ops listed i=true):Region.free md ops (listed.setIfInBounds j true) i=true:=by
 unfold Region.free at h |-;cases ho:ops[i]? with
 | none=>simp only[ho] at h;cases h
 | some oi =>
  simp only[ho,B_,G_,F_] at h |-;intro k hk;rcases h k hk with (h1 | h1) | h1
  ·exact .inl (.inl h1)
  ·refine .inl (.inr ?_)
   by_cases hjk:j=k
   ·subst hjk
    by_cases h':j<listed.size
    ·simp[b_,h']
    ·simp[b_,k_,h']
   ·rw[getD_set_ne true hjk];exact h1
  ·exact .inr h1
theorem be3 {Q:(Nat->C)->List O->Prop}:∀(f:Nat) (listed:Array Bool) (σ:Nat->C) (H:List O) (t:Nat) (ot:Oper) (c:C),bK9 n md ops listed t ot->bV0 σ ot c ->
  aQ8 P n md ops LA F Q f (listed.setIfInBounds t true) (upd σ ot.dst c) H->∀j,j∈Region.ready md ops listed->j≠t->LA.getD j true=true->bOp P n ops j (aQ8 P n md ops LA F Q f (listed.setIfInBounds j true)) σ H:=by
 intro f;induction f with
 | zero =>
  intro listed σ H t ot c hk hf Hh j hj hjt hLA;exfalso;have h1:=Hh.2.1;obtain⟨hjun,_⟩:=mem_ready.1 hj;rw[<-h1,getD_set_ne true hjt.symm,hjun] at hLA;cases hLA
 | succ f ih =>
  intro listed σ H t ot c hk hf Hh j hj hjt hLA;obtain⟨k1,k2,k3,k4,k5,k6⟩:=hk;obtain⟨hjun,oj,hoj,hall⟩:=mem_ready.1 hj;have hnot:∀e∈oj.after,Region.binds md e=true->e.on≠t:=fun e he hb heq=>by
   have h1:=hall e he hb;have h0:=(mem_ready.1 k6).1;rw[heq] at h1;rcases E_ t listed.size with h' | h'
   ·simp[h'] at h0 h1;rw[h0] at h1;cases h1
   ·simp[k_ h'] at h1
  obtain⟨p1,p2,p3⟩:=Oper.apart_spec (Region.free_spec k1 k5 j oj hoj hjt hjun hnot);have hF:=bd7 Hh;have next:∀(d:C) (H':List O),aQ8 P n md ops LA F Q f ((listed.setIfInBounds t true).setIfInBounds j true) (upd (upd σ ot.dst c) oj.dst d) H'->aQ8 P n md ops LA F Q (f+1) (listed.setIfInBounds j true) (upd σ oj.dst d) H':=fun d H' hh=>by
   refine⟨bd7 hh,.inr ⟨t,ot,c,⟨k1,k2,k3,k4,bv8 k5,ready_mono k6 (Ne.symm hjt)⟩,hf.upd (ops:=ops) p3,?_⟩⟩;rw[N_ _ _ hjt,<-aE0 σ c d p2];exact hh
  have h1:bOp P n ops j (aQ8 P n md ops LA F Q f ((listed.setIfInBounds t true).setIfInBounds j true)) (upd σ ot.dst c) H:=by
   rcases Hh.2 with ⟨_,hl⟩ | ⟨t2,ot2,c2,hk2,hf2,hh⟩
   ·exact hl j (ready_mono hj hjt)
   ·by_cases hj2:j=t2
    ·subst hj2
     exact aP0 hk2.1 hk2.2.1 hk2.2.2.1 hf2 hh
    ·exact ih _ _ _ t2 ot2 c2 hk2 hf2 hh j (ready_mono hj hjt) hj2 hLA
  unfold bOp at h1 |-;simp only[hoj] at h1 |-;obtain⟨q1,q2,q3⟩:=h1;refine⟨q1,aC6 q2 p1,?_⟩;split
  ·rename_i e he
   simp only[he] at q3;exact next .top H q3
  ·rename_i he
   simp only[he] at q3;rw[aE6 (fun k hk=>ae4 (p1 k hk))] at q3;exact q3.mono (fun d H' hh=>next d H' hh)
theorem aD4 {Q:(Nat->C)->List O->Prop} {i:Nat} {oi:Oper} {c:C} (hi:ops[i]? = some oi) (hd:H9 n oi=true) (hiA:LA.getD i false=true)
  (hbar:∀j,LA.getD j true=false->∀o,ops[j]? = some o->bR3 md ops 9 o i=true) :
  ∀(f:Nat) (listed:Array Bool) (σ:Nat->C) (H:List O),an5 md ops listed ->
   (∀j oj,ops[j]? = some oj->j≠i->listed.getD j true=false->(∀e∈oj.after,Region.binds md e=true->e.on≠i)->oi.apart ops oj=true) ->
   i∈Region.ready md ops listed->gOk ops σ oi->bH9 P F σ oi c ->
   aQ8 P n md ops LA F Q f (listed.setIfInBounds i true) (upd σ oi.dst c) H->aQ8 P n md ops LA F Q (f+1) listed σ H:=by
 intro f;induction f with
 | zero =>
  intro listed σ H hcl hfree hr hg hq Hh;have hF:=bd7 Hh;refine⟨hF,.inl ⟨fun h=>(by rw[h] at hr;cases hr),fun j hj=>?_⟩⟩;by_cases hji:j=i
  ·subst hji
   unfold bOp;simp only[hi];refine⟨hd,hg,?_⟩;unfold bH9 at hq;split
   ·rename_i e he;simp only[he] at hq;subst hq;exact Hh
   ·rename_i he
    simp only[he] at hq;intro E n' a hst;obtain⟨v,h1,h2⟩:=hq H hF E n' a hst;unfold Oper.wp;rw[h1];exact⟨v,E,c,H,rfl,rfl,h2,hst.heap,Le.refl E,Hh⟩
  ·exfalso
   obtain⟨hjun,oj,hoj,hall⟩:=mem_ready.1 hj;obtain⟨hiun,_⟩:=mem_ready.1 hr;have hLA:=Hh.2.1;have hjLA:LA.getD j true=false:=by rw[<-hLA,getD_set_ne true (Ne.symm hji)];exact hjun
   have h1:=ah3 hcl 9 oj i (fun e he hb=>by
    have h1:=hall e he hb;rcases E_ e.on listed.size with h' | h'
    ·simp[h'] at h1 |-;exact h1
    ·simp[k_ h']) (hbar j hjLA oj hoj)
   rw[hiun] at h1;cases h1
 | succ f ih =>
  intro listed σ H hcl hfree hr hg hq Hh;have hF:=bd7 Hh;refine⟨hF,.inl ⟨fun h=>(by rw[h] at hr;cases hr),fun j hj=>?_⟩⟩;by_cases hji:j=i
  ·subst hji
   unfold bOp;simp only[hi];refine⟨hd,hg,?_⟩;unfold bH9 at hq;split
   ·rename_i e he;simp only[he] at hq;subst hq;exact Hh
   ·rename_i he
    simp only[he] at hq;intro E n' a hst;obtain⟨v,h1,h2⟩:=hq H hF E n' a hst;unfold Oper.wp;rw[h1];exact⟨v,E,c,H,rfl,rfl,h2,hst.heap,Le.refl E,Hh⟩
  ·obtain⟨hjun,oj,hoj,hall⟩:=mem_ready.1 hj
   have hjLA:LA.getD j true=true:=by
    cases hL:LA.getD j true with
    | true=>rfl
    | false =>
     exfalso;have h1:=ah3 hcl 9 oj i (fun e he hb=>by
      have h1:=hall e he hb;rcases E_ e.on listed.size with h' | h'
      ·simp[h'] at h1 |-;exact h1
      ·simp[k_ h']) (hbar j hL oj hoj)
     rw[(mem_ready.1 hr).1] at h1;cases h1
   have h1:bOp P n ops j (aQ8 P n md ops LA F Q f ((listed.setIfInBounds i true).setIfInBounds j true)) (Abs.upd σ oi.dst c) H:=by
    rcases Hh.2 with ⟨_,hl⟩ | ⟨t,ot,ct,hk,hf,hh⟩
    ·exact hl j (ready_mono hj hji)
    ·by_cases hjt:j=t
     ·subst hjt
      exact aP0 hk.1 hk.2.1 hk.2.2.1 hf hh
     ·exact be3 f _ _ _ t ot ct hk hf hh j (ready_mono hj hji) hjt hjLA
   have hnot:∀e∈oj.after,Region.binds md e=true->e.on≠i:=fun e he hb heq=>by
    have h1:=hall e he hb;have h0:=(mem_ready.1 hr).1;rw[heq] at h1;rcases E_ i listed.size with h' | h'
    ·simp[h'] at h0 h1;rw[h0] at h1;cases h1
    ·simp[k_ h'] at h1
   obtain⟨p1,p2,p3⟩:=Oper.apart_spec (hfree j oj hoj hji hjun hnot);have hfree':∀k ok,ops[k]? = some ok->k≠i->(listed.setIfInBounds j true).getD k true=false ->
     (∀e∈ok.after,Region.binds md e=true->e.on≠i)->oi.apart ops ok=true:=fun k ok hk hki hun hno=>by
    refine hfree k ok hk hki ?_ hno;by_cases hjk:j=k
    ·subst hjk;exact hjun
    ·rw[getD_set_ne true hjk] at hun;exact hun
   have next:∀(d:C) (H':List O),aQ8 P n md ops LA F Q f ((listed.setIfInBounds i true).setIfInBounds j true) (upd (upd σ oi.dst c) oj.dst d) H'->aQ8 P n md ops LA F Q (f+1) (listed.setIfInBounds j true) (upd σ oj.dst d) H':=fun d H' hh=>by
    refine ih (listed.setIfInBounds j true) (upd σ oj.dst d) H' (hcl.set hj) hfree' (ready_mono hr (Ne.symm hji)) (bQ7 hg p3) (hq.upd (ops:=ops) p3) ?_;rw[N_ _ _ hji,<-aE0 σ c d p2];exact hh
   unfold bOp at h1 |-;simp only[hoj] at h1 |-;obtain⟨q1,q2,q3⟩:=h1;refine⟨q1,aC6 q2 p1,?_⟩;split
   ·rename_i e he
    simp only[he] at q3;exact next .top H q3
   ·rename_i he
    simp only[he] at q3;rw[aE6 (fun k hk=>ae4 (p1 k hk))] at q3;exact q3.mono (fun d H' hh=>next d H' hh)
theorem bz1 {Q:(Nat->C)->List O->Prop} {i f:Nat} {listed:Array Bool} {σ:Nat->C} {H:List O} (hF:ae6 F H) (hr:Region.ready md ops listed=[i])
  (h:bOp P n ops i (aQ8 P n md ops LA F Q f (listed.setIfInBounds i true)) σ H):aQ8 P n md ops LA F Q (f+1) listed σ H:=
 ⟨hF,.inl ⟨by rw[hr];simp,fun j hj=>by rw[hr] at hj;simp at hj;subst hj;exact h⟩⟩
def bU9 (E0 E:Env) (a:Act) (d:Tmp) (e:TypeId) (zc:Array Value):Prop:=
 ∃b,a.tmps.getD d undef=.pointer (some ⟨b,0,none⟩)/\E.w.heap[b]? = some (.cells zc e (0,0))/\E0.w.heap.size<=b/\b<E.w.heap.size/\¬E.pv b/\∀i,¬E.S b i
theorem bU9.le {E0 E E':Env} {a:Act} {d:Tmp} {e:TypeId} {zc:Array Value} (h:bU9 E0 E a d e zc) (hl:Le E E') {x:Option Tmp} (hx:x≠some d) (v:Value):bU9 E0 E' (a.put x v) d e zc:=by
 obtain⟨b,h1,h2,h3,h4,h5,h6⟩:=h;refine⟨b,?_,by rw[hl.blk b h4 h5];exact h2,h3,Nat.lt_of_lt_of_le h4 hl.size,fun hp=>?_,fun i hs=>?_⟩
 ·cases x with
  | none=>exact h1
  | some t =>
   have hne:t≠d:=fun e=>hx (by rw[e]);simp only[Act.put];rw[b_,J_ hne,<-b_];exact h1
 ·rcases hl.newP b hp with hp | hp
  ·exact h5 hp
  ·omega
 ·rcases hl.newS b i hs with hs | hs | hs
  ·exact h6 i hs
  ·omega
  ·exact h5 hs
theorem bp9 {o:Oper} {t:TypeId} {zl:List Value} (ho:o.op=.alloc t) (hz:N8 P t=some zl) {w:World} {a:Act} {Q:Act->World->Prop} {Q2:Exit->Act->World->Prop}
  (hk:Q (a.put o.dst (.pointer (some ⟨w.heap.size,0,none⟩))) (w.alloc (.cells zl.toArray t))):o.wp P a w Q Q2:=by
 unfold N8 at hz;cases hi:P.info? t with
 | none=>simp[hi] at hz
 | some i =>
  cases hv:i.zero with
  | none=>simp[hi,hv] at hz
  | some zv =>
   simp only[hi,hv,Option.bind_some] at hz;split at hz
   ·simp only[Option.some.injEq] at hz
    subst hz;unfold Oper.wp execOp;simp only[ho,Instr.alloc,zeroValue,typeInfo,run_program,hi,hv,newVar,newRow,Sem.run_bind,run_newObj,Result.andThen_ok,Sem.run_pure,Oper.upon];simpa using hk
   ·simp at hz
theorem bo2 {t:TypeId} {zl:List Value} (hz:N8 P t=some zl):∀v,v∈zl->v.oneCell'=true:=by
 unfold N8 at hz;cases hi:(P.info? t).bind (·.zero) with
 | none=>simp[hi] at hz
 | some zv =>
  simp only[hi,Option.bind_some] at hz;split at hz
  ·rename_i hone
   simp only[Option.some.injEq] at hz;subst hz;intro v hv;simp only[Array.all_eq_true] at hone;obtain⟨k,hk⟩:=R_.1 hv;rw[m_] at hk;obtain⟨hlt,rfl⟩:=h_.1 hk;exact hone k hlt
  ·simp at hz
def Env.trim (E:Env):Env:={ E with pv:=fun b=>E.pv b/\b<E.w.heap.size }
theorem bC5 {E:Env} {H:List O} (h:RepH E H):Le E E.trim/\RepH E.trim H:=by
 have hl:Le E E.trim:=⟨rfl,rfl,rfl,d_ _,d_ _,fun _ _=>rfl,fun _ _=>⟨d_ _,fun _=>rfl⟩,fun _ _ hs=>hs,fun _ _ _=>rfl,fun _ _ _=>rfl,fun _ _ hs=>.inl hs,fun _ hp=>.inl hp.1,fun _ _ _ _ _ hh=>hh⟩;refine⟨hl,h.N,fun r o ho=>?_,fun r o b ho hb=>⟨h.pv r o b ho hb,h.lt r o b ho hb⟩,h.lt,h.apart,h.Slt⟩;exact(h.obj r o ho).keep hl (by rw[h.N];exact(a_.1 ho).1) rfl (fun b hb=>⟨rfl,fun i hs=>hs⟩)
def Env.junk (E:Env) (o:Obj):Env:={ E.trim with w:=E.w.alloc o }
theorem bC6 {E:Env} {H:List O} (h:RepH E H) (o:Obj):Le E (E.junk o)/\RepH (E.junk o) H:=by
 obtain⟨t1,t2⟩:=bC5 h;have hheap:∀b,b<E.w.heap.size->(E.w.alloc o).heap[b]? = E.w.heap[b]?:=fun b hb=>by first | exact heap_alloc_old E.w _ b hb | exact heap_alloc_old E.w _ hb
 have hl:Le E.trim (E.junk o):=⟨rfl,rfl,rfl,by simp[Env.junk,Env.trim],d_ _,fun _ _=>rfl,fun _ _=>⟨d_ _,fun _=>rfl⟩,fun _ _ hs=>hs,fun b i hs=>World.cell?_alloc_lt E.w _ _ (h.Slt b i hs),fun b hb hp=>hheap b hb,fun b i hs=>.inl hs,fun b hp=>.inl hp,fun b i a n hs hh=>(hheap b (h.Slt b i hs)).trans hh⟩;exact⟨t1.trans hl,t2.keep hl rfl (fun _ _=>rfl) (fun r o' b ho hb=>⟨hheap b (h.lt r o' b ho hb),fun i hs=>hs⟩) (fun b hb=>hb) (fun b i hs=>by
  have:=h.Slt b i hs;simp only[Env.junk,World.size_alloc];omega)⟩
theorem RepF.putH {E E':Env} {H H':List O} {σ:Nat->C} {a:Act} (h:RepF E n H σ a) (hl:Le E E') (hH:RepH E' H') {dst:Option Tmp} {c:C} {v:Value}
  (hd:∀d,dst=some d->d<n) (hv:Rd E' c v):RepF E' n H' (Abs.upd σ dst c) (a.put dst v):=by
 cases dst with
 | none=>exact⟨h.size,h.defers,hH,fun t=>(h.slot t).le hl⟩
 | some d =>
  refine⟨by simp[Act.put,h.size],h.defers,hH,fun t=>?_⟩;have hdn:=hd d rfl;have hs:=h.size;by_cases e:d=t
  ·subst e
   simp only[Abs.upd,if_pos,Act.put];have:d<a.tmps.size:=by rw[hs];exact hdn
   simpa[b_,this] using hv
  ·simp only[Abs.upd,if_neg e,Act.put]
   rw[b_,J_ e,<-b_];exact(h.slot t).le hl
structure AllocAt (P:Program) (ops:Array Oper) (ia:Nat) (d:Tmp) (e:TypeId) (zl:List Value):Prop where
 one:∀(i:Nat) (o:Oper) (e':TypeId),ops[i]? = some o->H8 o.op=some e'->i=ia/\o.dst=some d/\e'=e
 oth:∀(i:Nat) (o:Oper),ops[i]? = some o->H8 o.op=none->i≠ia/\o.dst≠some d
 zero:∀(i:Nat) (o:Oper) (e':TypeId),ops[i]? = some o->H8 o.op=some e'->N8 P e=some zl
theorem bA2 {Q:Exit->Act->World->Prop} {i:Nat} {o:Oper} {K:Act->World->Prop} {E:Env} {σ:Nat->C} {H:List O} {a:Act} {w:World} (hi:ops[i]? = some o) (hst:RepF E n H σ a) (hg:gOk ops σ o) (h:o.wp P a w K Q):wpOp P ops Q i K a w:=by
 unfold wpOp;simp only[hi];have hw:Region.wanted o (yielded ops a.tmps)=true:=by
  unfold gOk at hg;cases hgu:o.guard with
  | none=>simp[Region.wanted,hgu]
  | some jw =>
   obtain⟨j,want⟩:=jw;rw[hgu] at hg;obtain⟨t,ht,hs⟩:=hg;rw[az6 hst hgu ht hs];simp
 rw[if_pos hw];exact .inl h
theorem Y6 {Q:(Nat->C)->List O->Prop} {E0:Env} {ia:Nat} {d:Tmp} {e:TypeId} {zl:List Value} (hal:AllocAt P ops ia d e zl) {Post:Exit->Act->World->Prop} {fB:Nat}
  (hpan:∀c a w,¬Post (.panic c) a w) (hQ:∀σ H E a,Q σ H->RepF E n H σ a->Le E0 E->(LA.getD ia false=true->bU9 E0 E a d e zl.toArray)->wpAny P md ops Post fB LA a E.w) :
  ∀(f:Nat) (listed:Array Bool) (σ:Nat->C) (H:List O) (E:Env) (a:Act),aQ8 P n md ops LA F Q f listed σ H->RepF E n H σ a->Le E0 E->(listed.getD ia false=true->bU9 E0 E a d e zl.toArray) ->
   wpAny P md ops Post (f+fB) listed a E.w
 | 0,listed,σ,H,E,a,h,hst,hl,hg=>by
  obtain⟨_,rfl,hq⟩:=h;rw[D_];exact hQ σ H E a hq hst hl hg
 | f + 1,listed,σ,H,E,a,h,hst,hl,hg=>by
  rw[show f+1+fB=(f+fB)+1 by omega];rcases h.2 with h | ⟨i,oi,c,⟨k1,k2,k3,k4,k5,k6⟩,⟨x,k,cs,f1,f2,f3,rfl⟩,hh⟩
  case inr =>
   have hv:=hst.slot x;rw[f2] at hv;generalize hval:a.tmps.getD x undef=vv at hv;cases hv with
   | tup _ vs hl2 hr2 =>
    have hvs:vs[k]? = some (vs[k]'(by omega)):=y_ _;have hrc:=hr2 k (cs.getD k .top) _ (by rw[x_,c_ f3];rfl) hvs;have hdst:∀t,oi.dst=some t->t<n:=fun t hd'=>by
     unfold H9 at k2;rw[hd'] at k2;simpa using k2
    have hy:Go.Yields P ops oi (vs[k]'(by omega)) a:=by
     refine .inl ⟨by unfold Region.wanted;rw[k3],fun w=>?_⟩;simp[execOp,f1,Instr.extract,Act.eval,hval,hvs]
    obtain⟨o1,o2⟩:=hal.oth i oi k1 (by rw[f1];rfl);refine wpAny_take k1 k4 k5 (by simpa using k6) (fun c a' w hq=>absurd hq (hpan _ _ _)) hy ?_;refine Y6 hal hpan hQ f _ _ H E _ hh (hst.putH (Le.refl E) hst.heap hdst hrc) hl (fun hlist=>?_);rw[getD_set_ne false o1] at hlist;exact(hg hlist).le (Le.refl E) o2 _
  refine⟨fun h0=>absurd h0 h.1,fun i hi=>?_⟩;have hop:=h.2 i hi;unfold bOp at hop;cases ho:ops[i]? with
  | none=>simp only[ho] at hop
  | some o =>
   simp only[ho] at hop;obtain⟨hd,hgd,hop⟩:=hop;have hdst:∀t,o.dst=some t->t<n:=fun t hd'=>by
    unfold H9 at hd;rw[hd'] at hd;simpa using hd
   refine bA2 (H:=H) ho hst hgd ?_;cases hao:H8 o.op with
   | some e' =>
    simp only[hao] at hop;obtain⟨h1,h2,h3⟩:=hal.one i o e' ho hao;have hz:=hal.zero i o e' ho hao;subst h1 h3;have hdn:=hdst d h2;have hopa:o.op=.alloc e':=by
     unfold H8 at hao;split at hao
     ·cases hao;assumption
     ·cases hao
    refine bp9 hopa hz ?_;obtain⟨k1,k2⟩:=bC6 hst.heap (.cells zl.toArray e');have hst':RepF (E.junk (.cells zl.toArray e')) n H (upd σ o.dst .top) (a.put o.dst (.pointer (some ⟨E.w.heap.size,0,none⟩))):=hst.put k1 k2 hdst (.top _);refine Y6 hal hpan hQ f _ _ H (E.junk (.cells zl.toArray e')) _ hop hst' (hl.trans k1) (fun _=>?_);refine⟨E.w.heap.size,?_,by first | exact heap_alloc_new E.w _ | (simp[Env.junk];done),hl.size,by simp[Env.junk],fun hp=>s_ _ hp.2,fun j hs=>s_ _ (hst.heap.Slt _ j hs)⟩;rw[h2];have hsz:=hst.size;simp[Act.put,b_,hsz,hdn]
   | none =>
    simp only[hao] at hop;obtain⟨hia,hne⟩:=hal.oth i o ho hao;refine hop.run (hst.toSt _) (fun v E' c H' h1 h2 h3 h4=>?_);refine Y6 hal hpan hQ f _ _ H' E' _ h4 (hst.putH h3 h2 hdst h1) (hl.trans h3) (fun hlist=>?_);rw[getD_set_ne false hia] at hlist;exact(hg hlist).le h3 hne v
def bJ2:Op->Bool
 | .move _ | .assign _ | .fieldAddr .. | .load .. | .build .. | .indexAddr .. | .binOp .. | .extract .. | .pick ..=>true
 | .call ⟨.builtin .len,_,_⟩=>true
 | _=>false
def au5:List Nat->Nat->Op->Bool
 | [],_,op=>bJ2 op
 | x :: r,i,op=>if x=i then false else au5 r i op
def vcA (P:Program) (n:Nat) (ops:Array Oper) (F:List (Nat×O)) (X:List Nat) (K:St->Prop):List Nat->St->Prop
 | [],⟨σ,H⟩=>K ⟨σ,H⟩
 | i :: r,⟨σ,H⟩=>match ops[i]? with
  | none=>False
  | some o=>H9 n o=true/\cf7 ops σ o /\
   (match H8 o.op with
   | some _=>vcA P n ops F X K r (put ⟨σ,H⟩ o.dst .top)
   | none=>(match au5 X i o.op with
    | true=>bz3 P F ⟨σ,H⟩ o.op (kD (vcA P n ops F X K r) ⟨σ,H⟩ o.dst)
    | false=>Q7 P ⟨σ,H⟩ o (fun c H'=>D8 F H'/\vcA P n ops F X K r (put ⟨σ,H'⟩ o.dst c))))
def bS3 (md:Region.Mode) (ops:Array Oper) (LA:Array Bool) (i:Nat):Bool:=
 (List.range ops.size).all fun j=>LA.getD j true || (match ops[j]? with
  | some o=>bR3 md ops 9 o i
  | none=>true)
def au7 (md:Region.Mode) (ops:Array Oper) (LA:Array Bool) (X:List Nat):List Nat->Array Bool->Bool
 | [],listed=>decide (listed=LA)
 | i :: r,listed=>LA.getD i false && (match ops[i]? with
  | some o=>if (H8 o.op).isSome || au5 X i o.op then (Region.ready md ops listed).contains i && Region.free md ops listed i && (bS3 md ops LA i || aw5 o.op && Region.noSelect ops && o.guard.isNone)
    else decide (Region.ready md ops listed=[i])
  | none=>false) && au7 md ops LA X r (listed.setIfInBounds i true)
theorem aD2 {i:Nat} (h:bS3 md ops LA i=true):∀j,LA.getD j true=false->∀o,ops[j]? = some o->bR3 md ops 9 o i=true:=by
 intro j hj o ho;simp only[bS3,B_,G_] at h;have h1:=h j (h_.1 ho).1;simpa only[hj,Bool.false_or,ho] using h1
theorem as0 {X:List Nat} {K:St->Prop}:∀(π:List Nat) (listed:Array Bool) (s:St),an5 md ops listed->au7 md ops LA X π listed=true->ae6 F s.H->vcA P n ops F X K π s ->
  aQ8 P n md ops LA F (fun σ H=>∃s',get s'.σ=σ/\s'.H=H/\K s') π.length listed (get s.σ) s.H
 | [],listed,s,_,hB,hF,h=>⟨hF,by simpa[au7] using hB,s,rfl,rfl,h⟩
 | i :: r,listed,⟨σ,H⟩,hcl,hB,hF,h=>by
  simp only[au7,f_] at hB;obtain⟨⟨hA,hB1⟩,hB2⟩:=hB;unfold vcA at h;cases ho:ops[i]? with
  | none=>simp only[ho] at h
  | some o =>
   simp only[ho] at h hB1;obtain⟨hd,hg,h⟩:=h;have hg':gOk ops (get σ) o:=bF5 hg;simp only[K_];have hgp:∀(c:C) (H':List O),get (put ⟨σ,H'⟩ o.dst c).σ=upd (get σ) o.dst c/\(put ⟨σ,H'⟩ o.dst c).H=H':=fun c H'=>⟨get_put ⟨σ,H'⟩ o.dst c,by cases o.dst<;>rfl⟩;cases hao:H8 o.op with
   | some e =>
    simp only[hao] at h;simp only[hao,Option.isSome_some,Bool.true_or,if_true,f_] at hB1;obtain⟨⟨b1,b2⟩,b3⟩:=hB1;have hnf:aw5 o.op=false:=by
     unfold H8 at hao;split at hao
     ·rename_i hop;rw[hop];rfl
     ·cases hao
    simp only[hnf,Bool.false_and,Bool.or_false] at b3;have:=as0 r (listed.setIfInBounds i true) _ (hcl.set (by simpa using b1)) hB2 (by rw[(hgp .top H).2];exact hF) h;rw[(hgp .top H).1,(hgp .top H).2] at this;exact aD4 ho hd hA (aD2 b3) r.length listed (get σ) H hcl (Region.free_spec ho b2) (by simpa using b1) hg' (by unfold bH9;simp only[hao]) this
   | none =>
    simp only[hao] at h;cases hq:au5 X i o.op with
    | true =>
     simp only[hq] at h;simp only[hq,Bool.or_true,if_true,f_] at hB1;obtain⟨⟨b1,b2⟩,b3⟩:=hB1;obtain⟨c,h1,h2⟩:=co2 (o:=o) hF h;have h2':vcA P n ops F X K r (put ⟨σ,H⟩ o.dst c):=h2;have:=as0 r (listed.setIfInBounds i true) _ (hcl.set (by simpa using b1)) hB2 (by rw[(hgp c H).2];exact hF) h2';rw[(hgp c H).1,(hgp c H).2] at this;rw[F_] at b3;rcases b3 with b3 | b3
     ·exact aD4 ho hd hA (aD2 b3) r.length listed (get σ) H hcl (Region.free_spec ho b2) (by simpa using b1) hg' (by unfold bH9;simp only[hao];exact h1) this
     ·simp only[f_] at b3
      obtain⟨⟨c3,c4⟩,c5⟩:=b3;unfold aw5 at c3;split at c3
      ·rename_i x k hop
       rw[hop] at h;unfold bz3 at h;obtain⟨_,h⟩:=h;split at h
       ·rename_i cs hcs
        obtain⟨hk,hK⟩:=h;have:=as0 r (listed.setIfInBounds i true) _ (hcl.set (by simpa using b1)) hB2 (by rw[(hgp (cs.getD k .top) H).2];exact hF) hK;rw[(hgp (cs.getD k .top) H).1,(hgp (cs.getD k .top) H).2] at this;exact⟨hF,.inr ⟨i,o,cs.getD k .top,⟨ho,hd,by simpa using c5,c4,b2,by simpa using b1⟩,⟨x,k,cs,hop,hcs,hk,rfl⟩,this⟩⟩
       ·exact h.elim
      ·cases c3
    | false =>
     simp only[hq] at h;simp only[hao,hq,Option.isSome_none,Bool.or_self,Bool.false_eq_true,if_false,decide_eq_true_eq] at hB1;refine bz1 hF hB1 ?_;unfold bOp;simp only[ho];refine⟨hd,hg',?_⟩;simp only[hao];have hc:Q7 P (at5 (get σ) H (tmpsOf o.op)) o (fun c H'=>D8 F H'/\vcA P n ops F X K r (put ⟨σ,H'⟩ o.dst c)):=by
      refine aR0 (s:=⟨σ,H⟩) rfl (fun x hx=>?_) h;cases x with
      | tmp t =>
       show get σ t=get (at5 (get σ) H (tmpsOf o.op)).σ t;rw[aa3,if_pos];exact List.mem_filterMap.2 ⟨.tmp t,by simpa using hx,rfl⟩
      | _=>rfl
     refine(G7 hc).mono (fun c H' ⟨k1,k2⟩=>?_);have:=as0 r (listed.setIfInBounds i true) _ (hcl.set (by rw[hB1];simp)) hB2 (by rw[(hgp c H').2];exact aH0 k1) k2;rw[(hgp c H').1,(hgp c H').2] at this;exact this
def aB4 (md:Region.Mode) (ops:Array Oper):List Nat->Array Bool->Bool
 | [],listed=>decide (Region.ready md ops listed=[])
 | i :: r,listed=>(decide (Region.ready md ops listed=[i]) || ((match ops[i]? with | some o=>aw5 o.op | none=>false) && Region.noSelect ops && Region.free md ops listed i && (Region.ready md ops listed).contains i)) && aB4 md ops r (listed.setIfInBounds i true)
def bL3 (P:Program) (n:Nat) (ops:Array Oper) (K:St->Prop):List Nat->St->Prop
 | [],⟨σ,H⟩=>K ⟨σ,H⟩
 | i :: r,⟨σ,H⟩=>match ops[i]? with
  | none=>False
  | some o=>H9 n o=true/\o.guard=none/\Q7 P ⟨σ,H⟩ o (kR (bL3 P n ops K r) ⟨σ,H⟩ o.dst)
theorem al5 {K:St->Prop} {E0:Env}:∀(π:List Nat) (listed:Array Bool) (s:St) (E:Env) (a:Act),aB4 md ops π listed=true->RepSt E n s a->Le E0 E->bL3 P n ops K π s ->
  wpAny P md ops (Behind n E0 K) π.length listed a E.w
 | [],listed,s,E,a,hB,hst,hle,h=>⟨by simpa[aB4] using hB,rfl,E,s,rfl,hst,hle,h⟩
 | i :: r,listed,s,E,a,hB,hst,hle,h=>by
  simp only[aB4,f_,F_,decide_eq_true_eq] at hB;obtain⟨hr,hB⟩:=hB;simp only[K_];unfold bL3 at h;rcases hr with hr | ⟨⟨⟨hf,hsel⟩,hfree⟩,hrd⟩
  ·refine⟨fun h0=>by rw[hr] at h0;simp at h0,fun j hj=>?_⟩
   rw[hr] at hj;simp at hj;subst hj;cases ho:ops[j]? with
   | none=>simp only[ho] at h
   | some o =>
    simp only[ho] at h;obtain⟨hd,hg,h⟩:=h;have hdst:∀d,o.dst=some d->d<n:=fun d hd'=>by
     unfold H9 at hd;rw[hd'] at hd;simpa using hd
    refine af1 (n:=n) ho hg ((G7 h).run hst (fun v E' c H' h1 h2 h3 h4=>?_));exact al5 r _ _ E' _ hB (hst.put h3 h2 hdst h1) (hle.trans h3) h4
  ·cases ho:ops[i]? with
   | none=>simp only[ho] at h
   | some o =>
    simp only[ho] at h hf;obtain⟨hd,hg,h⟩:=h;have hdst:∀d,o.dst=some d->d<n:=fun d hd'=>by
     unfold H9 at hd;rw[hd'] at hd;simpa using hd
    unfold aw5 at hf;split at hf
    ·rename_i x0 k hop
     generalize hx0:Operand.tmp x0=x at hop;have h':=h;unfold Q7 K8 o6 kAt at h';simp only[hop] at h';obtain⟨hx,h2⟩:=h';have hv:=o9 hst x hx;split at h2
     ·rename_i cs hcs
      obtain⟨hk,hK⟩:=h2;rw[hcs] at hv;generalize hval:a.eval x=vv at hv;cases hv with
      | tup _ vs hl hr2 =>
       have hvs:vs[k]? = some (vs[k]'(by omega)):=y_ _;have hrc:=hr2 k (cs.getD k .top) _ (by rw[x_,c_ hk];rfl) hvs;have hy:Go.Yields P ops o (vs[k]'(by omega)) a:=by
        refine .inl ⟨?_,fun w=>?_⟩
        ·unfold Region.wanted;rw[hg]
        ·simp[execOp,hop,Instr.extract,hval,hvs]
       refine wpAny_take ho hsel hfree hrd (fun c a' w hq=>by obtain⟨h0,_⟩:=hq;cases h0) hy ?_;exact al5 r _ _ E _ hB (hst.put (Le.refl E) hst.heap hdst hrc) hle hK
     ·exact h2.elim
    ·cases hf
def adoptV (s:St):Option (Nat×Tmp×TypeId×List Value)->St
 | some (_,d,_,zl)=>⟨(d,.ptr s.H.length 0) :: s.σ,s.H++[.box (zl.map cv1)]⟩
 | none=>s
theorem Rd.pv {E:Env} {p:Nat->Prop} {c:C} {v:Value} (hr:Rd E c v):Rd { E with pv:=p } c v:=by
 induction hr with
 | top v=>exact .top v
 | d x v hd=>exact .d x v hd
 | nil0 a=>exact .nil0 a
 | cptr b off cs val hc hr=>exact .cptr b off cs val hc hr
 | ptr r off hr=>exact .ptr (E:={ E with pv:=p }) r off hr
 | nilp=>exact .nilp
 | own r q v hr h1 hq hv=>exact .own r q v hr h1 hq hv
 | rsl r n hr=>exact .rsl (E:={ E with pv:=p }) r n hr
 | eptr r z i off hr=>exact .eptr (E:={ E with pv:=p }) r z i off hr
 | tptr r q z i off b hr hq hv=>exact .tptr r q z i off b hr hq hv
 | map r hr=>exact .map (E:={ E with pv:=p }) r hr
 | fn f caps vs hl hr ih=>exact .fn f caps vs hl ih
 | agg cs vs hl h1 hr ih=>exact .agg cs vs hl h1 ih
 | tup cs vs hl hr ih=>exact .tup cs vs hl ih
 | ifc t c v hr ih=>exact .ifc t c v ih
 | val v=>exact .val v
 | xfn f caps vs hl hr ih=>exact .xfn f caps vs hl ih
theorem J4.pv {E:Env} {p:Nat->Prop} {r:Nat} {o:O} (h:J4 E r o):J4 { E with pv:=p } r o:=by
 cases o with
 | box cs =>
  obtain⟨arr,e,h1,h2,h3,h4⟩:=h;exact⟨arr,e,h1,h2,fun i c v hc hv=>⟨(h3 i c v hc hv).1.pv,(h3 i c v hc hv).2⟩,h4⟩
 | _=>exact h
theorem RepSt.adopt {E0 E:Env} {s:St} {a:Act} (hst:RepSt E n s a) (hle:Le E0 E) {ia:Nat} {d:Tmp} {e:TypeId} {zl:List Value} (hz:∀v,v∈zl->v.oneCell'=true) (hg:bU9 E0 E a d e zl.toArray) :
  ∃E',E'.w=E.w/\Le E0 E'/\RepSt E' n (Abs.adoptV s (some (ia,d,e,zl))) a:=by
 obtain⟨b,h1,h2,h3,h4,h5,h6⟩:=hg;let E1:Env:={ E with pv:=fun b'=>E.pv b'\/b'=b }
 have hle1:Le E0 E1:=⟨hle.os,hle.tape,hle.output,hle.size,hle.N,hle.β,hle.τ,hle.S,hle.cell,hle.blk,hle.newS,fun b' hp=>by
  rcases hp with hp | rfl
  ·exact hle.newP b' hp
  ·exact .inr h3,hle.map⟩
 have hH1:RepH E1 s.H:=⟨hst.heap.N,fun r o ho=>(hst.heap.obj r o ho).pv,fun r o b' ho hb=>.inl (hst.heap.pv r o b' ho hb),hst.heap.lt,hst.heap.apart,hst.heap.Slt⟩;let E2:Env:={ E1 with N:=E.N+1,β:=fun r=>if r=E.N then b else E.β r }
 have hl:Le E1 E2:=by
  refine⟨rfl,rfl,rfl,d_ _,Nat.le_succ _,fun r hr=>?_,fun _ _=>⟨d_ _,fun _=>rfl⟩,fun _ _ hs=>hs,fun _ _ _=>rfl,fun _ _ _=>rfl,fun _ _ hs=>.inl hs,fun _ hp=>.inl hp,fun _ _ _ _ _ hh=>hh⟩;show (if r=E.N then b else E.β r)=E.β r;rw[if_neg (by have:r<E.N:=hr;omega)]
 have hβ:E2.β s.H.length=b:=by show (if s.H.length=E.N then b else _)=b;rw[if_pos hst.heap.N.symm]
 have hnb:∀(r:Nat) (o:O),s.H[r]? = some o->¬o.block E r b:=fun r o ho hb=>h5 (hst.heap.pv r o b ho hb);have hH2:RepH E2 (s.H++[.box (zl.map cv1)]):=by
  refine hH1.turn (r0:=s.H.length) (o0:=.box (zl.map cv1)) hl (by simp[E2,E1,hst.heap.N]) (fun r hr=>?_) (fun o ho=>?_) (fun r hr hr'=>rfl) (fun r o b' hr ho hb=>⟨rfl,fun i hs=>hs⟩) (fun b' hb=>hb) (fun b' i hs=>hst.heap.Slt b' i hs) ?_ (fun b' hb=>?_)
  ·by_cases hlt:r<s.H.length
   ·rw[e_ hlt]
   ·rw[q_ (by simp;omega),q_ (by omega)]
  ·simpa using ho.symm
  ·refine⟨zl.toArray,e,by rw[hβ];exact h2,by simp,fun i c v hc hv=>?_,fun i hs=>?_⟩
   ·simp only[g_] at hv
    simp only[r_,hv,C_,Option.some.injEq] at hc;subst hc;exact⟨aL3 _ v,hz v (v_ hv)⟩
   ·rw[hβ] at hs;exact h6 i hs
  ·have hb':b'=b:=by
    have:E2.β s.H.length=b':=hb;rw[<-this,hβ]
   subst hb';exact⟨.inr rfl,h4,fun r o hr ho hb=>hnb r o ho hb⟩
 refine⟨E2,rfl,hle1.trans hl,hst.size,hst.defers,hH2,fun t=>?_⟩;show Rd E2 (get ((d,.ptr s.H.length 0) :: s.σ) t) _;simp only[get];split
 ·rename_i et;subst et
  rw[h1,<-hβ];exact .ptr _ _ (by show s.H.length<E.N+1;rw[hst.heap.N];omega)
 ·exact((hst.slot t).pv).le hl
def bs1 (n:Nat) (ops:Array Oper) (LA:Array Bool) (X π πB:List Nat) (al:Option (Nat×Tmp×TypeId×List Value)):Bool:=
 au7 .any ops LA X π (Array.replicate ops.size false) && aB4 .any ops πB LA && decide (π.length+πB.length=ops.size) &&
 (match al with
 | some (ia,d,e,_)=>LA.getD ia false && (List.range ops.size).all (fun i=>match ops[i]? with
  | some o=>(match H8 o.op with
   | some e'=>decide (i=ia) && decide (o.dst=some d) && decide (e'=e)
   | none=>decide (i≠ia) && decide (o.dst≠some d))
  | none=>true)
 | none=>(List.range ops.size).all (fun i=>match ops[i]? with
  | some o=>(H8 o.op).isNone && decide (o.dst≠some n)
  | none=>true) && decide (LA.size=ops.size))
def bI1 (P:Program):Option (Nat×Tmp×TypeId×List Value)->Prop
 | some (_,_,e,zl)=>N8 P e=some zl
 | none=>True
theorem AW.drawG {f:FuncId} {n0:Nat} {R:C->List O->Prop} {id:Nat} {k:List Item} {s:St} (T:St->Prop) (hm:P.follows .mixedOrders=true) (LA:Array Bool) (F:List (Nat×O)) (X π πB:List Nat) (al:Option (Nat×Tmp×TypeId×List Value))
  (hT:∀(s':St) (E0 E:Env) (a:Act),aB4 .any ops πB LA=true->RepSt E n s' a->Le E0 E->T s'->wpAny P .any ops (Behind n E0 (AW P f n n0 R k)) πB.length LA a E.w)
  (hB:bs1 n ops LA X π πB al=true) (hz:bI1 P al) (hF:D8 F s.H) (h:vcA P n ops F X (fun s'=>T (adoptV s' al)) π s) :
  AW P f n n0 R (.code (.region id ops true) :: k) s:=by
 refine AW.of_behind (k':=k) fun _ E a b cs hst=>?_;have hst':RepSt E.drew n s a:=⟨hst.size,hst.defers,aF3 hst.heap,fun t=>(hst.slot t).le (ag4 E)⟩;simp only[bs1,f_,decide_eq_true_eq] at hB;obtain⟨⟨⟨b1,b2⟩,b3⟩,b4⟩:=hB;have hany:=as0 (md:=.any) (LA:=LA) π (Array.replicate ops.size false) s (fun k ok hk hl=>by have:=(h_.1 hk).1;simp[this] at hl) b1 (aH0 hF) h;have hw:wpAny P .any ops (Behind n E (AW P f n n0 R k)) (π.length+πB.length) (Array.replicate ops.size false) a E.drew.w:=by
  cases al with
  | some q =>
   obtain⟨ia,d,e,zl⟩:=q;simp only[f_,B_,G_] at b4;have hall:∀(i:Nat) (o:Oper),ops[i]? = some o->(match H8 o.op with
     | some e'=>decide (i=ia) && decide (o.dst=some d) && decide (e'=e)
     | none=>decide (i≠ia) && decide (o.dst≠some d))=true:=fun i o ho=>by
    have:=b4.2 i (h_.1 ho).1;simpa only[ho] using this
   have hal:AllocAt P ops ia d e zl:=by
    refine⟨fun i o e' ho he=>?_,fun i o ho he=>?_,fun i o e' ho he=>hz⟩
    ·have:=hall i o ho
     simp only[he,f_,decide_eq_true_eq] at this;exact⟨this.1.1,this.1.2,this.2⟩
    ·have:=hall i o ho
     simp only[he,f_,decide_eq_true_eq] at this;exact this
   refine Y6 (E0:=E) hal (fun c a w hq=>by obtain⟨h0,_⟩:=hq;cases h0) (fun σ H E1 a1 hq hst1 hl1 hg1=>?_) π.length _ (get s.σ) s.H E.drew a hany hst'.toF (ag4 E) (fun hh=>?_)
   ·obtain⟨s',hs1,hs2,hk⟩:=hq
    subst hs1 hs2;have hstS:RepSt E1 n s' a1:=⟨hst1.size,hst1.defers,hst1.heap,hst1.slot⟩;obtain⟨E2,hw2,hl2,hst2⟩:=hstS.adopt hl1 (ia:=ia) (bo2 hz) (hg1 b4.1);rw[<-hw2];exact hT _ E E2 a1 b2 hst2 hl2 hk
   ·exfalso
    by_cases hlt:ia<ops.size
    ·simp[hlt] at hh
    ·simp[k_,hlt] at hh
  | none =>
   simp only[f_,B_,G_,decide_eq_true_eq] at b4;have hall:∀(i:Nat) (o:Oper),ops[i]? = some o->H8 o.op=none/\o.dst≠some n:=fun i o ho=>by
    have:=b4.1 i (h_.1 ho).1;simp only[ho,f_,decide_eq_true_eq,Option.isNone_iff_eq_none] at this;exact this
   have hal:AllocAt P ops ops.size n 0 []:=by
    refine⟨fun i o e' ho he=>?_,fun i o ho he=>⟨?_,(hall i o ho).2⟩,fun i o e' ho he=>?_⟩
    ·rw[(hall i o ho).1] at he;cases he
    ·have:=(h_.1 ho).1;omega
    ·rw[(hall i o ho).1] at he;cases he
   refine Y6 (E0:=E) hal (fun c a w hq=>by obtain⟨h0,_⟩:=hq;cases h0) (fun σ H E1 a1 hq hst1 hl1 hg1=>?_) π.length _ (get s.σ) s.H E.drew a hany hst'.toF (ag4 E) (fun hh=>?_)
   ·obtain⟨s',hs1,hs2,hk⟩:=hq
    subst hs1 hs2;exact hT s' E E1 a1 b2 ⟨hst1.size,hst1.defers,hst1.heap,hst1.slot⟩ hl1 hk
   ·exfalso;simp at hh
 rw[b3] at hw;obtain⟨e,a',w',⟨rfl,E',s',rfl,h1,h2,h3⟩,harr⟩:=wp_region_any (id:=id) hm hw b k cs;exact⟨a',E',s',harr,h1,h2,h3⟩
theorem AW.drawA {f:FuncId} {n0:Nat} {R:C->List O->Prop} {id:Nat} {k:List Item} {s:St} (hm:P.follows .mixedOrders=true) (LA:Array Bool) (F:List (Nat×O)) (X π πB:List Nat) (al:Option (Nat×Tmp×TypeId×List Value))
  (hB:bs1 n ops LA X π πB al=true) (hz:bI1 P al) (hF:D8 F s.H) (h:vcA P n ops F X (fun s'=>bL3 P n ops (AW P f n n0 R k) πB (adoptV s' al)) π s) :
  AW P f n n0 R (.code (.region id ops true) :: k) s:=
 AW.drawG (fun s'=>bL3 P n ops (AW P f n n0 R k) πB s') hm LA F X π πB al (fun s' E0 E a hb hst hl h=>al5 πB LA s' E a hb hst hl h) hB hz hF h
end
attribute [go_sem] aL7.eq_def C.nilD.eq_def C.isNil.eq_def Q8.eq_def aU6.eq_1 aU6.eq_2 ah6.eq_1 ah6.eq_2 F4.eq_1 F4.eq_2 aj7.eq_1 aj7.eq_2 rowsOf.eq_1 rowsOf.eq_2 cc0.eq_def aJ5.eq_def aI9.eq_def aX2.eq_def bL6.eq_def bn1.eq_def Q7.eq_def bT7.eq_1 bT7.eq_2 H8.eq_def aT4.eq_1 aT4.eq_2 D8.eq_1 D8.eq_2 bz3.eq_def
attribute [go_sem] cf7.eq_def bJ2.eq_def au5.eq_1 au5.eq_2 vcA.eq_1 vcA.eq_2 bL3.eq_1 bL3.eq_2 adoptV.eq_1 adoptV.eq_2
section
variable {P:Program} {f:FuncId} {n n0:Nat} {R:C->List O->Prop}
theorem AW.adoptTB {k:List Item} {s:St} (rb j z e:Nat) {cs:List C} (hz:0<z) (hb:s.H[rb]? = some (.box cs)) (hj:cs[j]? = some .nil0)
  (h:AW P f n n0 R k ⟨s.σ,(s.H.set rb (.box (cs.set j (.own s.H.length 0))))++[.tree 0 z e [] (fun _=>False) none]⟩):AW P f n n0 R k s:=by
 refine AW.recast (s':=⟨s.σ,(s.H.set rb (.box (cs.set j (.own s.H.length 0))))++[.tree 0 z e [] (fun _=>False) none]⟩) (fun h0 E a hst=>?_);obtain⟨arr,ty,h1,h2,h3,h4⟩:=hst.heap.obj rb _ hb;have hjl:=(a_.1 hj).1;have haj:arr[j]? = some (arr[j]'(by omega)):=y_ _;obtain⟨k1,k2⟩:=h3 j _ _ hj haj;obtain⟨ad,had⟩:∃ad,arr[j]'(by omega)=.slice ad 0 0:=by
  generalize arr[j]'(by omega)=v at k1;cases k1 with
  | nil0 a=>exact⟨a,rfl⟩
 rw[had] at haj;have hL:Loose E s.H z e [] (.slice ad 0 0) (fun _=>False):=by
  refine⟨.inl ⟨ad,rfl,rfl⟩,fun x hx=>by simp at hx,hz,fun b hb=>?_⟩;rcases hb with hb | hb
  ·cases ad<;>simp[ownB] at hb
  ·exact hb.elim
 obtain⟨hl,hH⟩:=hst.heap.giveT (q:=0) hL;have hrl:=(a_.1 hb).1;have hb1:(s.H++[O.tree 0 z e [] (fun _=>False) none])[rb]? = some (.box cs):=by rw[e_ hrl];exact hb
 have hset:(s.H.set rb (.box (cs.set j (.own s.H.length 0))))++[O.tree 0 z e [] (fun _=>False) none]=(s.H++[O.tree 0 z e [] (fun _=>False) none]).set rb (.box (cs.set j (.own s.H.length 0))):=by
  rw[List.set_append_left _ _ hrl]
 obtain⟨arr',ty',g1,g2,g3,g4⟩:=hH.obj rb _ hb1;have harr:arr'=arr:=by
  have hβ:(E.named 0 (.slice ad 0 0)).β rb=E.β rb:=rfl;have hw:(E.named 0 (.slice ad 0 0)).w=E.w:=rfl;rw[hβ,hw,h1] at g1;cases g1;rfl
 subst harr;refine⟨E.named 0 (.slice ad 0 0),rfl,hl,⟨hst.size,hst.defers,?_,fun t=>(hst.slot t).le hl⟩,h⟩;show RepH _ ((s.H.set rb (.box (cs.set j (.own s.H.length 0))))++[O.tree 0 z e [] (fun _=>False) none]);rw[hset];refine hH.turn (r0:=rb) (o0:=.box (cs.set j (.own s.H.length 0))) (Le.refl _) (by rw[List.length_set];exact hH.N) (fun r' hr'=>by rw[n_ (Ne.symm hr')]) (fun o' ho'=>?_) (fun _ _ _=>rfl) (fun r' o' b' hr' ho' hb=>⟨rfl,fun i hs=>hs⟩) (fun _ hb=>hb) (fun b i hs=>hH.Slt b i hs) ?_ (fun b' hbb=>?_)
 ·rw[l_ (a_.1 hb1).1] at ho'
  exact(Option.some.inj ho').symm
 ·refine⟨arr',ty',g1,by simpa using g2,fun i' c v hc hv=>?_,g4⟩
  by_cases ej:j=i'
  ·subst ej
   rw[l_ hjl] at hc;cases hc;rw[haj] at hv;cases hv;have hτ:(E.named 0 (.slice ad 0 0)).τ s.H.length=(0,.slice ad 0 0):=by simp[Env.named,hst.heap.N]
   exact⟨.own _ _ _ (by simp[Env.named,hst.heap.N]) rfl (by rw[hτ];exact d_ _) (fun _=>by rw[hτ]),rfl⟩
  ·rw[n_ ej] at hc
   exact g3 i' c v hc hv
 ·exact⟨hH.pv rb _ b' hb1 hbb,hH.lt rb _ b' hb1 hbb,fun r' o' hr' ho' hb2=>hr' (hH.apart r' rb o' _ b' ho' hb1 hb2 hbb)⟩
end
end Go.Abs
