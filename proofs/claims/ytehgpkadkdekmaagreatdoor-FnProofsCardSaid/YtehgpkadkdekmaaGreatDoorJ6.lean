import Derived.Test.YtehgpkadkdekmaaGreatDoorJ5
import Derived.Sort.OwnSortedInts
open List renaming getElem?_eq_some_iff->a_,getElem?_eq_getElem->b_,getElem?_set_ne->c_,all_eq_true->d_,mem_of_getElem?->f_,getElem?_set_self->h_,getElem?_append_left->j_,getElem?_append_right->k_,getElem?_eq_none->l_,length_pos_iff->m_,length_append->o_,getElem?_map->p_,getElem_mem->q_,getElem?_take->s_
open Nat renaming lt_of_lt_of_le->e_,le_refl->i_,mul_le_mul_right->r_,add_sub_cancel_left->v_,zero_add->x_
open Option renaming map_eq_some_iff->g_,bind_eq_some_iff->u_
open Array renaming getD_eq_getD_getElem?->n_,getElem?_eq_some_iff->t_,getElem?_toList->w_
set_option linter.unusedSimpArgs false
set_option linter.unusedVariables false
namespace Go.Abs
section
variable {E E':Env}
theorem Rd.ext (hw:E'.w=E.w) (hS:E'.S=E.S) (hN:E.N<=E'.N) (hβ:∀r,r<E.N->E'.β r=E.β r) (hτ:∀r,r<E.N->E'.τ r=E.τ r) {c:C} {v:Value} (h:Rd E c v):Rd E' c v:=by
 induction h with
 | top v=>exact .top v
 | d x v hd=>exact .d x v (by rw[hw,hS];exact hd)
 | nil0 a=>exact .nil0 a
 | cptr b off cs val hc hr=>exact .cptr b off cs val (fun j hj=>by rw[hw,hS];exact hc j hj) (fun j c hj=>by rw[hw,hS];exact hr j c hj)
 | ptr r off hr=>rw[<-hβ r hr];exact .ptr r off (e_ hr hN)
 | nilp=>exact .nilp
 | own r q v hr h1 hq hv=>exact .own r q v (e_ hr hN) h1 (by rw[hτ r hr];exact hq) (by rw[hτ r hr];exact hv)
 | rsl r n hr=>rw[<-hβ r hr];exact .rsl r n (e_ hr hN)
 | eptr r z i off hr=>rw[<-hβ r hr];exact .eptr r z i off (e_ hr hN)
 | tptr r q z i off b hr hq hv=>exact .tptr r q z i off b (e_ hr hN) (by rw[hτ r hr];exact hq) (by rw[hτ r hr];exact hv)
 | map r hr=>rw[<-hβ r hr];exact .map r (e_ hr hN)
 | fn f caps vs hl hr ih=>exact .fn f caps vs hl ih
 | agg cs vs hl h1 hr ih=>exact .agg cs vs hl h1 ih
 | tup cs vs hl hr ih=>exact .tup cs vs hl ih
 | ifc t c v hr ih=>exact .ifc t c v ih
 | val v=>exact .val v
 | xfn f caps vs hl hr ih=>exact .xfn f caps vs hl ih
theorem J4.ext (hw:E'.w=E.w) (hS:E'.S=E.S) (hN:E.N<=E'.N) (hβ:∀r,r<E.N->E'.β r=E.β r) (hτ:∀r,r<E.N->E'.τ r=E.τ r) {r:Nat} {o:O} (hr:r<E.N) (h:J4 E r o):J4 E' r o:=by
 cases o with
 | box cs =>
  obtain⟨arr,e,h1,h2,h3,h4⟩:=h;exact⟨arr,e,by rw[hw,hβ r hr];exact h1,h2,fun i c v hc hv=>⟨(h3 i c v hc hv).1.ext hw hS hN hβ hτ,(h3 i c v hc hv).2⟩,by rw[hS,hβ r hr];exact h4⟩
 | grow q z e xs=>simp only[J4] at h |-;rw[hτ r hr,hw,hS];exact h
 | row z e xs=>simp only[J4] at h |-;rw[hw,hS,hβ r hr];exact h
 | map sk es=>simp only[J4] at h |-;rw[hw,hS,hβ r hr];exact h
 | iter m since c0 seen =>
  simp only[J4] at h |-;rw[hw,hS,hβ r hr,hβ m (Nat.lt_trans h.1 hr)];exact h
 | buf q z e xs=>simp only[J4] at h |-;rw[hτ r hr,hw,hS];exact h
 | tree q z e xs B L =>
  cases L with
  | none=>simp only[J4,bL0] at h |-;rw[hτ r hr,hw,hS];exact h
  | some l =>
   obtain⟨i,j,N,qn⟩:=l;simp only[J4,bL0] at h |-;rw[hτ r hr,hw,hS];obtain⟨g1,g2,g3,g4,g5⟩:=h;refine⟨g1,g2,g3,g4,?_⟩;rcases g5 with g5 | ⟨b,cap,arr,k1,k2,k3,k4,k5,k6,k7,k8,k9,k10,k11,k12⟩
   ·exact .inl g5
   ·exact .inr ⟨b,cap,arr,k1,k2,k3,k4,k5,k6,k7,k8,k9,e_ k10 hN,by rw[hτ N k10];exact k11,by rw[hτ N k10];exact k12⟩
 | hole=>simp only[J4] at h |-;rw[hτ r hr];exact h
 | dead=>trivial
 | pb cs=>simp only[J4] at h |-;rw[hτ r hr,hw,hS];exact h
 | mix q z e ys xs B=>simp only[J4] at h |-;rw[hτ r hr,hw,hS];exact h
 | crate L B=>simp only[J4] at h |-;rw[hw,hS];exact h
 | bld T e bs=>simp only[J4] at h |-;rw[hτ r hr,hw,hS,hβ r hr];exact h
 | tab g vs=>simp only[J4] at h |-;rw[hw,hS];exact h
 | que q z e xs=>simp only[J4] at h |-;rw[hτ r hr,hw,hS];exact h
theorem ACalls.frame {P:Program} {f:FuncId} {args:List C} {H X:List O} {R:C->List O->Prop} (h:ACalls P f args H R)
  (ha:args.all (C.refsLtT H.length)=true) (hf:H.all (O.refsLt H.length)=true)
  {K:C->List O->Prop} (hk:∀c H',R c H'->H'.length=H.length->K c (H'++X)):ACalls P f args (H++X) K:=by
 intro E vs hE hs hargs;have hEN:E.N=H.length+X.length:=by rw[hE.N,o_]
 have hget:∀{r:Nat} {o:O},H[r]? = some o->(H++X)[r]? = some o:=fun ho=>by
  rw[j_ (a_.1 ho).1];exact ho
 have hlen:∀{r:Nat} {o:O},H[r]? = some o->r<H.length:=fun ho=>(a_.1 ho).1;let E0:Env:={ E with N:=H.length,pv:=fun b=>∃(r:Nat) (o:O),H[r]? = some o/\o.block E r b }
 have hT:(H++X).take H.length=H:=by simp
 have hT1:=hE.trunc (m:=H.length) (by simp) (by rw[hT];exact hf);rw[hT] at hT1;have hb0:∀(r:Nat) (o:O),o.block E0 r=o.block E r:=fun r o=>by cases o<;>rfl
 have hpv0:∀b,E0.pv b->E.pv b:=fun b ⟨r,o,ho,hb⟩=>hE.pv r o b (hget ho) hb;have hE0:RepH E0 H:=by
  refine⟨rfl,fun r o ho=>?_,fun r o b ho hb=>⟨r,o,ho,by rw[<-hb0];exact hb⟩,fun r o b ho hb=>hE.lt r o b (hget ho) (by rw[<-hb0];exact hb),fun r r' o o' b ho ho' hb hb'=>hE.apart r r' o o' b (hget ho) (hget ho') (by rw[<-hb0];exact hb) (by rw[<-hb0];exact hb'),hE.Slt⟩;exact J4.ext (E:=Abs.trunc E H.length) (E':=E0) rfl rfl (i_ _) (fun _ _=>rfl) (fun _ _=>rfl) (hlen ho) (hT1.obj r o ho)
 simp only[d_] at ha;refine(h E0 vs hE0 hs (fun i c v hc hv=>?_)).mono ?_
 ·exact Rd.ext (E:=Abs.trunc E H.length) (E':=E0) rfl rfl (i_ _) (fun _ _=>rfl) (fun _ _=>rfl) ((hargs i c v hc hv).truncT (ha c (f_ hc)))
 ·rintro e w' ⟨v,c,E',H',rfl,rfl,h3,h4,h5,h6,h7⟩
  have hN':E'.N=H.length:=by rw[h3.N,h6]
  let E2:Env:={ E with w:=E'.w,S:=E'.S,τ:=fun x=>if x<H.length then E'.τ x else E.τ x,pv:=fun b=>E.pv b\/E'.pv b }
  have hτ1:∀x,x<H.length->E2.τ x=E'.τ x:=fun x hx=>if_pos hx;have hτ2:∀x,¬x<H.length->E2.τ x=E.τ x:=fun x hx=>if_neg hx;have hβ1:∀x,x<H.length->E2.β x=E'.β x:=fun x hx=>(h4.β x hx).symm;have hx1:∀r,r<E'.N->E2.β r=E'.β r:=fun r hr=>hβ1 r (by rw[hN'] at hr;exact hr);have hx2:∀r,r<E'.N->E2.τ r=E'.τ r:=fun r hr=>hτ1 r (by rw[hN'] at hr;exact hr);have hx3:E'.N<=E2.N:=by rw[hN'];show H.length<=E.N;omega
  have hl:Le E E2:=by
   refine⟨h4.os,h4.tape,h4.output,h4.size,i_ _,fun _ _=>rfl,fun x hx=>?_,h4.S,h4.cell,fun b hb hp=>h4.blk b hb (fun hp'=>hp (hpv0 b hp')),fun b i hs=>?_,fun b hp=>?_,h4.map⟩
   ·by_cases e:x<H.length
    ·rw[hτ1 x e];exact h4.τ x e
    ·rw[hτ2 x e];exact⟨i_ _,fun _=>rfl⟩
   ·rcases h4.newS b i hs with h' | h' | h'
    ·exact .inl h'
    ·exact .inr (.inl h')
    ·exact .inr (.inr (hpv0 b h'))
   ·rcases hp with hp | hp
    ·exact .inl hp
    ·rcases h4.newP b hp with h' | h'
     ·exact .inl (hpv0 b h')
     ·exact .inr h'
  have hlow:∀{r:Nat} {o:O},(H'++X)[r]? = some o->r<H.length->H'[r]? = some o:=fun ho hr=>by
   rw[j_ (by omega)] at ho;exact ho
  have hhigh:∀{r:Nat} {o:O},(H'++X)[r]? = some o->¬r<H.length->(H++X)[r]? = some o:=fun ho hr=>by
   rw[k_ (by omega)] at ho |-;rw[h6] at ho;exact ho
  have hrN:∀{r:Nat} {o:O},(H++X)[r]? = some o->r<E.N:=fun ho=>by rw[hE.N];exact(a_.1 ho).1
  have hbl:∀(r:Nat) (o:O),r<H.length->o.block E2 r=o.block E' r:=fun r o hr=>O.block_same (hβ1 r hr) (hτ1 r hr);have hbh:∀(r:Nat) (o:O),¬r<H.length->o.block E2 r=o.block E r:=fun r o hr=>O.block_same rfl (hτ2 r hr);have far:∀(r:Nat) (o:O) (b:Nat),¬r<H.length->(H++X)[r]? = some o->o.block E r b->¬E0.pv b:=by
   rintro r o b hr ho hb ⟨r1,o1,ho1,hb1⟩;exact hr ((hE.apart r r1 o o1 b ho (hget ho1) hb hb1) ▸ hlen ho1)
  have far':∀(r:Nat) (o:O) (b:Nat),¬r<H.length->(H++X)[r]? = some o->o.block E r b->¬E'.pv b:=by
   intro r o b hr ho hb hp;rcases h4.newP b hp with h' | h'
   ·exact far r o b hr ho hb h'
   ·have:=hE.lt r o b ho hb;exact absurd h' (by show ¬E.w.heap.size<=b;omega)
  have hH2:RepH E2 (H'++X):=by
   refine⟨by rw[o_,h6];exact hEN,fun r o ho=>?_,fun r o b ho hb=>?_,fun r o b ho hb=>?_,fun r r' o o' b ho ho' hb hb'=>?_,h3.Slt⟩
   ·by_cases hr:r<H.length
    ·exact J4.ext (E:=E') (E':=E2) rfl rfl hx3 hx1 hx2 (by rw[hN'];exact hr) (h3.obj r o (hlow ho hr))
    ·have ho':=hhigh ho hr
     refine(hE.obj r o ho').keep hl (hrN ho') (hτ2 r hr) (fun b hb=>⟨h4.blk b (hE.lt r o b ho' hb) (far r o b hr ho' hb),fun i hs=>?_⟩);rcases h4.newS b i hs with h' | h' | h'
     ·exact h'
     ·have:=hE.lt r o b ho' hb;exact absurd h' (by show ¬E.w.heap.size<=b;omega)
     ·exact absurd h' (far r o b hr ho' hb)
   ·by_cases hr:r<H.length
    ·rw[hbl r o hr] at hb;exact .inr (h3.pv r o b (hlow ho hr) hb)
    ·rw[hbh r o hr] at hb;exact .inl (hE.pv r o b (hhigh ho hr) hb)
   ·by_cases hr:r<H.length
    ·rw[hbl r o hr] at hb;exact h3.lt r o b (hlow ho hr) hb
    ·rw[hbh r o hr] at hb;exact e_ (hE.lt r o b (hhigh ho hr) hb) h4.size
   ·by_cases hr:r<H.length<;>by_cases hr':r'<H.length
    ·rw[hbl r o hr] at hb
     rw[hbl r' o' hr'] at hb';exact h3.apart r r' o o' b (hlow ho hr) (hlow ho' hr') hb hb'
    ·rw[hbl r o hr] at hb
     rw[hbh r' o' hr'] at hb';exact absurd (h3.pv r o b (hlow ho hr) hb) (far' r' o' b hr' (hhigh ho' hr') hb')
    ·rw[hbh r o hr] at hb
     rw[hbl r' o' hr'] at hb';exact absurd (h3.pv r' o' b (hlow ho' hr') hb') (far' r o b hr (hhigh ho hr) hb)
    ·rw[hbh r o hr] at hb
     rw[hbh r' o' hr'] at hb';exact hE.apart r r' o o' b (hhigh ho hr) (hhigh ho' hr') hb hb'
  exact⟨v,c,E2,H'++X,rfl,rfl,hH2,hl,Rd.ext (E:=E') (E':=E2) rfl rfl hx3 hx1 hx2 h5,by rw[o_,o_,h6],hk c H' h7 h6⟩
end
theorem ad1 {E:Env} {H:List O} (h:RepH E H) (a:Option Addr) {z:Nat} (e:TypeId) (hz:0<z) :
  Le E (E.ghost a)/\RepH (E.ghost a) (H++[.buf 0 z e []]):=by
 have hl:=(aj2 h a e hz).1;refine⟨hl,h.turn (r0:=H.length) (o0:=.buf 0 z e []) hl (by simp[Env.ghost,h.N]) (fun r hr=>?_) (fun o ho=>?_) (fun r hr hr'=>?_) (fun r o b hr ho hb=>⟨rfl,fun i hs=>hs⟩) (fun b hb=>hb) (fun b i hs=>h.Slt b i hs) ?_ (fun b hb=>?_)⟩
 ·by_cases hlt:r<H.length
  ·rw[j_ hlt]
  ·rw[l_ (by simp;omega),l_ (by omega)]
 ·simpa using ho.symm
 ·simp only[Env.ghost];rw[if_neg (by omega)]
 ·exact⟨by simp[Env.ghost,h.N],by simp,hz,.inl ⟨a,by simp[Env.ghost,h.N],rfl⟩⟩
 ·simp only[O.block,Env.ghost,h.N,if_pos,ownB] at hb
  cases a<;>simp at hb
section
variable {P:Program} {f:FuncId} {n n0:Nat} {R:C->List O->Prop}
theorem AW.adoptB {k:List Item} {s:St} (t z e:Nat) (hz:0<z) (ht:get s.σ t=.nil0) (h:AW P f n n0 R k ⟨(t,.own s.H.length 0) :: s.σ,s.H++[.buf 0 z e []]⟩):AW P f n n0 R k s:=by
 intro h0 E a b cs hst hb hk;have hv:=hst.slot t;rw[ht] at hv;generalize hg:a.tmps.getD t undef=v at hv;cases hv with
 | nil0 ad =>
  obtain⟨hl,hH⟩:=ad1 hst.heap ad e hz;have hN:n0<=E.N:=by rw[hst.heap.N];exact h0
  have hst':RepSt (E.ghost ad) n ⟨(t,.own s.H.length 0) :: s.σ,s.H++[.buf 0 z e []]⟩ a:=by
   refine⟨hst.size,hst.defers,hH,fun t'=>?_⟩;simp only[get];split
   ·rename_i e;subst e
    rw[hg];exact .own _ _ _ (by simp[Env.ghost,hst.heap.N]) rfl (by simp[Env.ghost,hst.heap.N]) (fun _=>by simp[Env.ghost,hst.heap.N])
   ·exact(hst.slot t').le hl
  obtain⟨fr,w',v,r,E',H',g1,g2,g3,g4,g5,g6,g7,g8⟩:=h (by simp;omega) (E.ghost ad) a b cs hst' hb hk;exact⟨fr,w',v,r,E',H',g1,g2,g3,g4,g5,g6,(hl.trunc hN).trans g7,g8⟩
def Env.freezeBlk (E:Env) (b0:Nat):Env:={ E with S:=fun b i=>E.S b i\/b=b0 }
theorem AW.freezeB {k:List Item} {s:St} (t r:Nat) {q z e:Nat} {xs:List (List D)} (ht:get s.σ t=.own r q) (hr:s.H[r]? = some (.buf q z e xs))
  (h:AW P f n n0 R k ⟨(t,.d (.sl xs)) :: s.σ,s.H.set r .dead⟩):AW P f n n0 R k s:=by
 intro h0 E a b cs hst hb hk;have hv:=hst.slot t;rw[ht] at hv;obtain⟨h1,h2,h3,h4⟩:=hst.heap.obj r _ hr;have hN:n0<=E.N:=by rw[hst.heap.N];exact h0
 have hval:a.tmps.getD t undef=(E.τ r).2:=by
  generalize a.tmps.getD t undef=v at hv;cases hv with
  | own _ _ _ _ _ _ hv=>exact hv h1.symm
 have fin:∀E1:Env,Le E E1->RepH E1 (s.H.set r .dead)->RdD E1.w E1.S (.sl xs) (E.τ r).2->∃fr w' v r E' H',Steps P (lone (b.at a k) cs E1.w) (lone fr cs w')/\fr.fn=f/\fr.leaving P w' (.returned v)/\E'.w=w'/\RepH E' H'/\H'.length=n0/\Le (trunc E n0) E'/\Rd E' r v/\R r H':=by
  intro E1 hl hH hd;have hst':RepSt E1 n ⟨(t,.d (.sl xs)) :: s.σ,s.H.set r .dead⟩ a:=by
   refine⟨hst.size,hst.defers,hH,fun t'=>?_⟩;simp only[get];split
   ·rename_i e;subst e
    rw[hval];exact .d _ _ hd
   ·exact(hst.slot t').le hl
  obtain⟨fr,w',v,r',E',H',g1,g2,g3,g4,g5,g6,g7,g8⟩:=h (by simp;omega) E1 a b cs hst' hb hk;exact⟨fr,w',v,r',E',H',g1,g2,g3,g4,g5,g6,(hl.trunc hN).trans g7,g8⟩
 rcases h4 with ⟨ad,h5,rfl⟩ | ⟨b0,cap,arr,h5,h6,h7,h8,h9,h10,h11,h12⟩
 ·refine fin E (Le.refl E) ?_ (by rw[h5];exact .nil _ _)
  refine hst.heap.turn (r0:=r) (o0:=.dead) (Le.refl E) (by simp[hst.heap.N]) (fun r' hr'=>?_) (fun o' ho'=>?_) (fun _ _ _=>rfl) (fun r' o' b hr' ho' hb=>⟨rfl,fun i hs=>hs⟩) (fun _ hb=>hb) (fun b i hs=>hst.heap.Slt b i hs) trivial (fun b hb=>by simp[O.block] at hb)
  ·rw[c_ (fun e=>hr' e.symm)]
  ·rw[h_ (a_.1 hr).1] at ho'
   exact(Option.some.inj ho').symm
 ·have hx:=m_.2 h7
  have hblk:(O.buf q z e xs).block E r b0:=by simp[O.block,h5,ownB];omega
  have hpv:=hst.heap.pv r _ _ hr hblk;have hlb:=hst.heap.lt r _ _ hr hblk;have hl:Le E (E.freezeBlk b0):=by
   refine⟨rfl,rfl,rfl,i_ _,i_ _,fun _ _=>rfl,fun _ _=>⟨i_ _,fun _=>rfl⟩,fun _ _ hs=>.inl hs,fun _ _ _=>rfl,fun _ _ _=>rfl,fun b i hs=>?_,fun _ hp=>.inl hp,fun _ _ _ _ _ hh=>hh⟩;rcases hs with hs | rfl
   ·exact .inl hs
   ·exact .inr (.inr hpv)
  refine fin (E.freezeBlk b0) hl ?_ ?_
  ·refine hst.heap.turn (r0:=r) (o0:=.dead) hl (by simp[Env.freezeBlk,hst.heap.N]) (fun r' hr'=>?_) (fun o' ho'=>?_) (fun _ _ _=>rfl) (fun r' o' b hr' ho' hb=>⟨rfl,fun i hs=>?_⟩) (fun _ hb=>hb) (fun b i hs=>?_) trivial (fun b hb=>by simp[O.block] at hb)
   ·rw[c_ (fun e=>hr' e.symm)]
   ·rw[h_ (a_.1 hr).1] at ho'
    exact(Option.some.inj ho').symm
   ·rcases hs with hs | rfl
    ·exact hs
    ·exact absurd (hst.heap.apart r' r o' _ _ ho' hr hb hblk) hr'
   ·rcases hs with hs | rfl
    ·exact hst.heap.Slt b i hs
    ·exact hlb
  ·rw[h5]
   by_cases hx:xs=[]
   ·subst hx;exact .nil _ _
   ·refine .sl b0 0 cap z xs (fun i j=>arr.getD (i * z+j) undef) hx h8 h9 h2 (fun i j hi hj=>?_) (fun i j x c hi hj=>?_)
    ·have hxz:=h2 xs[i] (q_ _)
     obtain⟨v,k2,k3,k4⟩:=h11 i j xs[i] (xs[i][j]'(by omega)) (b_ hi) (b_ _);refine⟨.inr rfl,?_,?_⟩
     ·simp only[x_]
      show E.w.cell? _=_;rw[cell_of_row _ _ _ _ _ _ h6,k2,n_,k2];rfl
     ·rw[n_,k2];exact k3
    ·obtain⟨v,k2,k3,k4⟩:=h11 i j x c hi hj
     rw[n_,k2];exact k4.le hl
end
def A9 (zs:List Int):List (List D):=zs.map fun n=>[.int .i64 n]
theorem aU3 {w:World} {S:Nat->Nat->Prop} {zs:List Int} {arr:Array Value}
  (hX:∀(i j:Nat) (x:List D) (c:D),(A9 zs)[i]? = some x->x[j]? = some c->∃(v:Value),arr[i * 1+j]? = some v/\v.oneCell'=true/\RdD w S c v) :
  arr.toList.take zs.length=zs.map (Value.int .i64):=by
 apply List.ext_getElem?;intro i;by_cases hi:i<zs.length
 ·obtain⟨v,h1,h2,h3⟩:=hX i 0 [.int .i64 zs[i]] (.int .i64 zs[i]) (by simp[A9,hi]) rfl
  cases h3;rw[s_,if_pos hi,w_];simpa[hi] using h1
 ·rw[List.getElem?_take_eq_none (by omega),l_ (by simp;omega)]
theorem be6 {P:Program} {f:FuncId}
  (hs:∀(blk off cap:Nat) (zs:List Int) (w:World),Sort.Holds (Value.int .i64) w blk off zs.toArray->blk<w.heap.size->zs.length<4611686018427387904 ->
   Calls P f #[.slice (some ⟨blk,off,none⟩) zs.length cap] w fun e w'=>e=.returned (.tuple #[])/\∃n os,w'=Sort.grow (Sort.putRow (Value.int .i64) (Sort.ahead w n) blk off (zs.mergeSort fun x y=>decide (x<=y)).toArray) os)
  (h0:∀(p:Option Addr) (cap:Nat) (w:World),Calls P f #[.slice p 0 cap] w fun e w'=>e=.returned (.tuple #[])/\w'=w)
  {H:List O} {r q e:Nat} {zs:List Int} (hm:zs.length<4611686018427387904) (hr:H[r]? = some (.buf q 1 e (A9 zs))) {K:C->List O->Prop} (hk:K (.tup []) (H.set r (.buf q 1 e (A9 (zs.mergeSort fun x y=>decide (x<=y)))))) :
  ACalls P f [.own r q] H K:=by
 intro E vs hE hsz ha;obtain⟨v,rfl⟩:∃v,vs=#[v]:=by
  match vs,hsz with
  | ⟨[v]⟩,_=>exact⟨v,rfl⟩
 obtain⟨h1,h2,h3,h4⟩:=hE.obj r _ hr;have hv:v=(E.τ r).2:=by
  have:=ha 0 _ v rfl rfl;cases this with
  | own _ _ _ _ _ _ hv=>exact hv h1.symm
 subst hv;have hset:∀(o':O) (r':Nat),r'≠r->(H.set r o')[r']? = H[r']?:=fun o' r' hr'=>by rw[c_ (fun e=>hr' e.symm)]
 have hself:∀(o' o'':O),(H.set r o')[r]? = some o''->o''=o':=fun o' o'' ho'=>by
  rw[h_ (a_.1 hr).1] at ho';exact(Option.some.inj ho').symm
 rcases h4 with ⟨ad,h5,hnil⟩ | ⟨b0,cap,arr,h5,h6,h7,h8,h9,h10,h11,h12⟩
 ·have hz:zs=[]:=by cases zs with | nil=>rfl | cons=>simp[A9] at hnil
  subst hz;rw[List.mergeSort_nil] at hk;rw[h5];refine(h0 ad 0 E.w).mono ?_;rintro e w' ⟨rfl,rfl⟩;refine⟨_,_,E,_,rfl,rfl,?_,Le.refl E,.tup [] #[] rfl (fun i c v hc=>by simp at hc),by simp,hk⟩;exact hE.turn (r0:=r) (o0:=.buf q 1 _ (A9 ([]:List Int))) (Le.refl E) (by simp[hE.N]) (hset _) (hself _) (fun _ _ _=>rfl) (fun r' o' b hr' ho' hb=>⟨rfl,fun i hs=>hs⟩) (fun _ hb=>hb) (fun b i hs=>hE.Slt b i hs) ⟨h1,h2,h3,.inl ⟨ad,h5,hnil⟩⟩ (fun b hb=>by
   cases ad<;>simp[O.block,h5,ownB] at hb)
 ·have hx:=m_.2 h7
  have hblk:(O.buf q 1 e (A9 zs)).block E r b0:=by simp[O.block,h5,ownB];omega
  have hpv:=hE.pv r _ _ hr hblk;have hlb:=hE.lt r _ _ hr hblk;have hlen:(A9 zs).length=zs.length:=by simp[A9]
  have htake:=aU3 h11;rw[h5,hlen];refine(hs b0 0 cap zs E.w (holds_of_blockI h6 htake) hlb hm).mono ?_;rintro ex w' ⟨rfl,n,os,rfl⟩;generalize hts:(zs.mergeSort fun x y=>decide (x<=y))=ts at hk |-;have htl:ts.length=zs.length:=by rw[<-hts];simp
  have htl':(A9 ts).length=zs.length:=by simp[A9,htl]
  have hrow:=heap_sortedI (n:=n) (os:=os) ts.toArray h6;obtain⟨g1,g2,g3,g4,g5⟩:=grownBy_sortedI (w:=E.w) (g:=b0) (n:=n) (os:=os) ts.toArray;have htk:=take_putCellsI arr ts (by rw[htl];rw[hlen] at h8;omega);generalize Sort.grow (Sort.putRow (Value.int .i64) (Sort.ahead E.w n) b0 0 ts.toArray) os=w' at *;have hl:Le E { E with w:=w' }:=by
   refine⟨g1,g2,g3,g4,i_ _,fun _ _=>rfl,fun _ _=>⟨i_ _,fun _=>rfl⟩,fun _ _ hs=>hs,fun b i hs=>?_,fun b hb hp=>g5 b hb (fun e=>hp (by cases e;exact hpv)),fun _ _ hs=>.inl hs,fun _ hp=>.inl hp,fun b i a n hs hh=>(g5 b (hE.Slt b i hs) (fun e=>by cases e;exact h12 i hs)).trans hh⟩;have hb:=hE.Slt b i hs;have hne:some b≠some b0:=fun e=>by cases e;exact h12 i hs
   have:=g5 b hb hne;show w'.cell? _=_;simp only[World.cell?,this]
  have hat:∀(i:Nat) (m:Int),ts[i]? = some m->(Sort.putCells (Value.int .i64) 0 ts.toArray arr)[i]? = some (.int .i64 m):=fun i m hi=>by
   have hlt:=(a_.1 hi).1;have:((Sort.putCells (Value.int .i64) 0 ts.toArray arr).toList.take ts.length)[i]? = (ts.map (Value.int .i64))[i]?:=by rw[htk]
   rw[s_,if_pos hlt,w_] at this;rw[this];simp[hi]
  refine⟨_,_,{ E with w:=w' },_,rfl,rfl,?_,hl,.tup [] #[] rfl (fun i c v hc=>by simp at hc),by simp,hk⟩;refine hE.turn (r0:=r) (o0:=.buf q 1 e (A9 ts)) hl (by simp[hE.N]) (hset _) (hself _) (fun _ _ _=>rfl) (fun r' o' b hr' ho' hb=>⟨?_,fun i hs=>hs⟩) (fun _ hb=>hb) (fun b i hs=>e_ (hE.Slt b i hs) g4) ⟨h1,?_,h3,.inr ⟨b0,cap,_,?_,hrow,by intro e;rw[e] at htl';simp at htl';omega,?_,h9,?_,?_,h12⟩⟩ (fun b hb=>?_)
  ·exact g5 b (hE.lt r' o' b ho' hb) (fun e=>by cases e;exact hr' (hE.apart r' r o' _ _ ho' hr hb hblk))
  ·intro x hx
   simp only[A9,List.mem_map] at hx;obtain⟨m,_,rfl⟩:=hx;rfl
  ·show (E.τ r).2=_
   rw[h5];simp[A9,htl]
  ·simp only[A9,List.length_map,htl];rw[hlen] at h8;exact h8
  ·simp[Sort.putCells,h10]
  ·intro i j x c hi hj
   simp only[A9,p_,g_] at hi;obtain⟨m,hm,rfl⟩:=hi;have hj0:j=0:=by have:=(a_.1 hj).1;simp at this;exact this
   subst hj0;simp at hj;subst hj;exact⟨.int .i64 m,by simpa using hat i m hm,rfl,.int _ _⟩
  ·have:b=b0:=by
    simp[O.block,h5,ownB] at hb;omega
   subst this;exact⟨hpv,e_ hlb g4,fun r' o' hr' ho' hb'=>hr' (hE.apart r' r o' _ _ ho' hr hb' hblk)⟩
structure Clo {α Acc:Type} (P:Program) (g:FuncId) (caps:List C) (m:Nat) (enc:α->D) (Hs:Acc->List O) (Q:α->Prop) (step:Acc->α->Acc):Prop where
 go:isGo P g=true
 hcaps:caps.all (C.refsLt1 m)=true
 len:∀a,(Hs a).length=m
 refs:∀a,(Hs a).all (O.refsLt m)=true
 call:∀a x,Q x->ACalls P g (.d (enc x) :: caps) (Hs a) (fun c H'=>c=.tup []/\H'=Hs (step a x))
theorem C.refsLt1_mono {m j:Nat} {c:C} (h:c.refsLt1 m=true):c.refsLt1 (m+j)=true:=by
 cases c<;>simp_all[C.refsLt1]<;>omega
theorem C.refsLtT_of1 {m:Nat} {c:C} (h:c.refsLt1 m=true):c.refsLtT m=true:=by
 cases c<;>simp_all[C.refsLt1,C.refsLt,C.refsLtT]
theorem C.refsLt_mono {m j:Nat} {c:C} (h:c.refsLt m=true):c.refsLt (m+j)=true:=by
 cases c with
 | fn f cs=>simp only[C.refsLt,d_] at h |-;exact fun c hc=>C.refsLt1_mono (h c hc)
 | agg cs=>simp only[C.refsLt,d_] at h |-;exact fun c hc=>C.refsLt1_mono (h c hc)
 | xfn f cs=>simp only[C.refsLt,d_] at h |-;exact fun c hc=>C.refsLt1_mono (h c hc)
 | val v=>rfl
 | _=>simp_all[C.refsLt,C.refsLt1]<;>omega
theorem O.refsLt_mono {m j:Nat} {o:O} (h:o.refsLt m=true):o.refsLt (m+j)=true:=by
 cases o with
 | box cs=>simp only[O.refsLt,d_] at h |-;exact fun c hc=>C.refsLt_mono (h c hc)
 | iter k _ _ _=>simp only[O.refsLt,decide_eq_true_eq] at h |-;omega
 | tree q z e xs B L =>
  cases L with
  | none=>rfl
  | some l=>simp only[O.refsLt,decide_eq_true_eq] at h |-;omega
 | _=>rfl
theorem l7 (m:Nat) (ds:List D):(ds.map C.d).all (C.refsLt m)=true:=by
 rw[d_];intro c hc;obtain⟨d,_,rfl⟩:=List.mem_map.1 hc;rfl
theorem O9 (m:Nat) (ds:List D):ds.all (C.refsLt m∘C.d)=true:=by
 rw[d_];intro c hc;rfl
namespace Clo
variable {α Acc:Type} {P:Program} {g:FuncId} {cs:List C} {m:Nat} {enc:α->D} {Hs:Acc->List O} {Q:α->Prop} {step:Acc->α->Acc}
theorem at0 (h:Clo P g cs m enc Hs Q step) (a:Acc) (X:List O):(Hs a++X)[m]? = X[0]?:=by
 rw[k_ (by rw[h.len];omega),h.len,Nat.sub_self]
theorem atj (h:Clo P g cs m enc Hs Q step) (a:Acc) (X:List O) (j:Nat):(Hs a++X)[m+j]? = X[j]?:=by
 rw[k_ (by rw[h.len];omega),h.len,v_]
theorem set0 (h:Clo P g cs m enc Hs Q step) (a:Acc) (X:List O) (o:O):(Hs a++X).set m o=Hs a++X.set 0 o:=by
 rw[List.set_append,if_neg (by rw[h.len];omega),h.len,Nat.sub_self]
theorem setj (h:Clo P g cs m enc Hs Q step) (a:Acc) (X:List O) (j:Nat) (o:O):(Hs a++X).set (m+j) o=Hs a++X.set j o:=by
 rw[List.set_append,if_neg (by rw[h.len];omega),h.len,v_]
theorem tk (h:Clo P g cs m enc Hs Q step) (a:Acc):(Hs a).take m=Hs a:=List.take_of_length_le (by rw[h.len];omega)
theorem tk0 (h:Clo P g cs m enc Hs Q step) (a:Acc) (X:List O):(Hs a++X).take m=Hs a:=by
 rw[List.take_append_of_le_length (by rw[h.len];omega),h.tk]
theorem tkj (h:Clo P g cs m enc Hs Q step) (a:Acc) (X:List O) (j:Nat):(Hs a++X).take (m+j)=Hs a++X.take j:=by
 rw[<-h.len a,List.take_length_add_append]
theorem refsj (h:Clo P g cs m enc Hs Q step) (a:Acc) (j:Nat):(Hs a).all (O.refsLt (m+j))=true:=by
 have:=h.refs a;simp only[d_] at this |-;exact fun o ho=>O.refsLt_mono (this o ho)
theorem capsj (h:Clo P g cs m enc Hs Q step) (j:Nat):cs.all (C.refsLt1 (m+j))=true:=by
 have:=h.hcaps;simp only[d_] at this |-;exact fun o ho=>C.refsLt1_mono (this o ho)
theorem on (h:Clo P g cs m enc Hs Q step) {a:Acc} {x:α} {X:List O} {K:C->List O->Prop} (hq:Q x) (hk:K (.tup []) (Hs (step a x)++X)):ACalls P g (.d (enc x) :: cs) (Hs a++X) K:=by
 refine(h.call a x hq).frame ?_ (by rw[h.len];exact h.refs a) (fun c H' hc hl=>?_)
 ·have:=h.hcaps
  simp only[List.all_cons,C.refsLtT,C.refsLt,C.refsLt1,Bool.true_and,d_,h.len] at this |-;exact fun c hc=>C.refsLtT_of1 (this c hc)
 ·obtain⟨rfl,rfl⟩:=hc;exact hk
theorem sub (h:Clo P g cs m enc Hs Q step) {f:FuncId} {d:D} {a a':Acc} {X:List O} {K:C->List O->Prop} (hc:ACalls P f [.d d,.fn g cs] (Hs a) (fun c H'=>c=.tup []/\H'=Hs a'))
  (hk:K (.tup []) (Hs a'++X)):ACalls P f [.d d,.fn g cs] (Hs a++X) K:=by
 refine hc.frame ?_ (by rw[h.len];exact h.refs a) (fun c H' hc hl=>?_)
 ·have e1:C.refsLtT m (.fn g cs)=cs.all (C.refsLt1 m):=rfl
  have e2:C.refsLtT m (.d d)=true:=rfl;simp only[List.all_cons,List.all_nil,h.len,e1,e2,h.hcaps,Bool.and_self]
 ·obtain⟨rfl,rfl⟩:=hc;exact hk
end Clo
section
variable {P:Program} {f:FuncId} {n n0:Nat} {R:C->List O->Prop}
theorem AW.recast {k:List Item} {s s':St} (h:n0<=s.H.length->∀E a,RepSt E n s a->∃E',E'.w=E.w/\Le E E'/\RepSt E' n s' a/\AW P f n n0 R k s'):AW P f n n0 R k s:=by
 intro h0 E a b cs hst hb hk;obtain⟨E',hw,hl,hst',h'⟩:=h h0 E a hst;have hN:n0<=E.N:=by rw[hst.heap.N];exact h0
 have hN':n0<=s'.H.length:=by rw[<-hst'.heap.N];exact Nat.le_trans hN hl.N
 obtain⟨fr,w',v,r,E'',H',g1,g2,g3,g4,g5,g6,g7,g8⟩:=h' hN' E' a b cs hst' hb hk;rw[hw] at g1;exact⟨fr,w',v,r,E'',H',g1,g2,g3,g4,g5,g6,(hl.trunc hN).trans g7,g8⟩
theorem AW.hole {k:List Item} {s:St} (h:AW P f n n0 R k ⟨s.σ,s.H++[.hole]⟩):AW P f n n0 R k s:=by
 refine AW.recast (s':=⟨s.σ,s.H++[.hole]⟩) (fun h0 E a hst=>?_);have hl:Le E (E.named 0 undef):=by
  refine⟨rfl,rfl,rfl,i_ _,by simp[Env.named],fun _ _=>rfl,fun r hr=>?_,fun _ _ hs=>hs,fun _ _ _=>rfl,fun _ _ _=>rfl,fun _ _ hs=>.inl hs,fun _ hp=>.inl hp,fun _ _ _ _ _ hh=>hh⟩;simp only[Env.named];rw[if_neg (by omega)];exact⟨i_ _,fun _=>rfl⟩
 have hτ:(E.named 0 undef).τ s.H.length=(0,undef):=by simp[Env.named,hst.heap.N]
 refine⟨E.named 0 undef,rfl,hl,⟨hst.size,hst.defers,?_,fun t=>(hst.slot t).le hl⟩,h⟩;refine hst.heap.turn (r0:=s.H.length) (o0:=.hole) hl (by simp[Env.named,hst.heap.N]) (fun r hr=>?_) (fun o ho=>?_) (fun r hr hr'=>?_) (fun r o b hr ho hb=>⟨rfl,fun i hs=>hs⟩) (fun b hb=>hb) (fun b i hs=>hst.heap.Slt b i hs) (by simp only[J4,hτ]) (fun b hb=>hb.elim)
 ·by_cases hlt:r<s.H.length
  ·rw[j_ hlt]
  ·rw[l_ (by simp;omega),l_ (by omega)]
 ·simpa using ho.symm
 ·simp only[Env.named];rw[if_neg (by omega)]
theorem RepSt.reslot {E E':Env} {s:St} {a:Act} {H':List O} {t:Nat} {c:C} (hst:RepSt E n s a) (hl:Le E E') (hH:RepH E' H') (hc:Rd E' c (a.tmps.getD t undef)):RepSt E' n ⟨(t,c) :: s.σ,H'⟩ a:=by
 refine⟨hst.size,hst.defers,hH,fun t'=>?_⟩;simp only[get];split
 ·rename_i e;subst e;exact hc
 ·exact(hst.slot t').le hl
theorem AW.place {k:List Item} {s:St} (t r i:Nat) {q z e:Nat} {xs:List (List D)} {B:Nat->Prop} (ht:get s.σ t=.own r q) (hr:s.H[r]? = some (.tree q z e xs B none)) (hi:s.H[i]? = some .hole) (hne:i≠r)
  (h:AW P f n n0 R k ⟨(t,.own i 1) :: s.σ,(s.H.set r .dead).set i (.tree 1 z e xs B none)⟩):AW P f n n0 R k s:=by
 refine AW.recast (s':=⟨(t,.own i 1) :: s.σ,(s.H.set r .dead).set i (.tree 1 z e xs B none)⟩) (fun h0 E a hst=>?_);have hv:=hst.slot t;rw[ht] at hv;obtain⟨hH1,hL⟩:=hst.heap.takeT hr;have hver:=(hst.heap.obj r _ hr).1;have hi1:(s.H.set r .dead)[i]? = some .hole:=by rw[c_ (Ne.symm hne)];exact hi
 obtain⟨hl,hH⟩:=hH1.fillT hi1 hL;refine⟨E.rename i 1 (E.τ r).2,rfl,hl,hst.reslot hl hH ?_,h⟩;have hiN:i<E.N:=by rw[hst.heap.N];exact(a_.1 hi).1
 generalize a.tmps.getD t undef=v at hv;cases hv with
 | own _ _ _ hN h1 hq hv =>
  have hv:=hv hver.symm;subst hv;exact .own _ _ _ hiN h1 (by simp[Env.rename]) (fun _=>by simp[Env.rename])
theorem AW.placeB {k:List Item} {s:St} (rb j r i:Nat) {q z e:Nat} {xs:List (List D)} {B:Nat->Prop} {cs:List C} (hb:s.H[rb]? = some (.box cs)) (hj:cs[j]? = some (.own r q)) (hr:s.H[r]? = some (.tree q z e xs B none)) (hi:s.H[i]? = some .hole) (hne:i≠r)
  (h:AW P f n n0 R k ⟨s.σ,(((s.H.set r .dead).set i (.tree 1 z e xs B none)).set rb (.box (cs.set j (.own i 1))))⟩):AW P f n n0 R k s:=by
 refine AW.recast (s':=⟨s.σ,(((s.H.set r .dead).set i (.tree 1 z e xs B none)).set rb (.box (cs.set j (.own i 1))))⟩) (fun h0 E a hst=>?_);obtain⟨hH1,hL⟩:=hst.heap.takeT hr;have hver:=(hst.heap.obj r _ hr).1;have hi1:(s.H.set r .dead)[i]? = some .hole:=by rw[c_ (Ne.symm hne)];exact hi
 obtain⟨hl,hH⟩:=hH1.fillT hi1 hL;have hiN:i<E.N:=by rw[hst.heap.N];exact(a_.1 hi).1
 have hrb1:rb≠r:=fun e=>by subst e;rw[hb] at hr;cases hr
 have hrb2:rb≠i:=fun e=>by subst e;rw[hb] at hi;cases hi
 have hb1:((s.H.set r .dead).set i (.tree 1 z e xs B none))[rb]? = some (.box cs):=by
  rw[c_ (Ne.symm hrb2),c_ (Ne.symm hrb1)];exact hb
 obtain⟨arr,ty,h1,h2,h3,h4⟩:=hH.obj rb _ hb1;obtain⟨_,_,_,_,g3,_⟩:=hst.heap.obj rb _ hb;refine⟨E.rename i 1 (E.τ r).2,rfl,hl,⟨hst.size,hst.defers,?_,fun t=>(hst.slot t).le hl⟩,h⟩;refine hH.turn (r0:=rb) (Le.refl _) (by rw[List.length_set];exact hH.N) (fun r' hr'=>by rw[c_ (Ne.symm hr')]) (fun o' ho'=>?_) (fun _ _ _=>rfl) (fun r' o' b' hr' ho' hb=>⟨rfl,fun i hs=>hs⟩) (fun _ hb=>hb) (fun b' i hs=>hH.Slt b' i hs) (o0:=.box (cs.set j (.own i 1))) ?_ (fun b' hbb=>?_)
 ·rw[h_ (a_.1 hb1).1] at ho'
  exact(Option.some.inj ho').symm
 ·refine⟨arr,ty,h1,by simpa using h2,fun i' c v hc hv=>?_,h4⟩
  by_cases ej:j=i'
  ·subst ej
   rw[h_ (a_.1 hj).1] at hc;cases hc;obtain⟨k1,k2⟩:=h3 j _ v hj hv;refine⟨?_,k2⟩;have hrr:(E.rename i 1 (E.τ r).2).τ r=E.τ r:=by simp only[Env.rename];rw[if_neg (Ne.symm hne)]
   cases k1 with
   | own _ _ _ hN h1 hq hv' =>
    rw[hrr] at hv';have hv':=hv' hver.symm;subst hv';exact .own _ _ _ hiN h1 (by simp[Env.rename]) (fun _=>by simp[Env.rename])
  ·rw[c_ ej] at hc
   exact h3 i' c v hc hv
 ·exact⟨hH.pv rb _ b' hb1 hbb,hH.lt rb _ b' hb1 hbb,fun r' o' hr' ho' hb2=>hr' (hH.apart r' rb o' _ b' ho' hb1 hb2 hbb)⟩
end
theorem Tr.rdD {w:World} {S:Nat->Nat->Prop} {d:D} {v:Value} {B:Nat->Prop} (h:Tr w d v B) (hS:∀b,B b->∀i,S b i):RdD w S d v:=by
 induction h with
 | int k n=>exact .int k n
 | bool b=>exact .bool b
 | str s=>exact .str s
 | nil a cap=>exact .nil a cap
 | any v=>exact .any v
 | sl b cap z e xs arr val Bs hne h0 hcap hmax hz hb hsz hv hr hself hdis ih =>
  refine .sl b 0 cap z xs val hne hcap hmax hz (fun i j hi hj=>?_) (fun i j x c hi hj=>ih i j x c hi hj (fun b' hb'=>hS b' (.inr ⟨i,j,x,c,hi,hj,hb'⟩)));have hxl:=hz _ (q_ hi);obtain⟨k1,k2⟩:=hv i j xs[i] (xs[i][j]'(by omega)) (b_ hi) (b_ _);refine⟨hS b (.inl rfl) _,?_,k2⟩;rw[x_,cell_of_row _ _ _ _ _ _ hb];exact k1
theorem J4.rdT {E:Env} {S:Nat->Nat->Prop} {r q z e:Nat} {xs:List (List D)} {B:Nat->Prop} (h:J4 E r (.tree q z e xs B none)) (hS:∀b,(O.tree q z e xs B none).block E r b->∀i,S b i):RdD E.w S (.sl xs) (E.τ r).2:=by
 obtain⟨h1,h2,h3,h4,h5⟩:=h;rcases h5 with ⟨a,k1,rfl⟩ | ⟨b,cap,arr,k1,k2,k3,k4,k5,k6,k7,k8,k9,_⟩
 ·rw[k1];exact .nil _ _
 ·obtain⟨val,Bs,m1,m2,m3⟩:=k7
  have hx:=m_.2 k3;have hroot:(O.tree q z e xs B none).block E r b:=.inl (by rw[k1];simp[ownB];omega);rw[k1];refine .sl b 0 cap z xs val k3 k4 k5 h2 (fun i j hi hj=>?_) (fun i j x c hi hj=>((m1 i j x c hi hj).2.2 (fun h=>h)).rdD (fun b' hb'=>hS b' (.inr (m2 i j b' hb'))));have hxl:=h2 _ (q_ hi);obtain⟨n1,n2,_⟩:=m1 i j xs[i] (xs[i][j]'(by omega)) (b_ hi) (b_ _);refine⟨hS b hroot _,?_,n2⟩;rw[x_,cell_of_row _ _ _ _ _ _ k2];exact n1
def bS1 (H:List O):C->Option D
 | .d d=>some d
 | .nil0=>some (.sl [])
 | .own r q=>match H[r]? with
  | some (.tree q' _ _ xs _ none)=>if q=q' then some (.sl xs) else none
  | _=>none
 | _=>none
def bS0 (H:List O):List C->Option (List D)
 | []=>some []
 | c :: r=>(bS1 H c).bind fun d=>(bS0 H r).map (d :: ·)
def bor (H:List O):C->Option D
 | .agg cs=>(bS0 H cs).map .agg
 | c=>bS1 H c
def ax5 (H:List O):List C->Option (List D)
 | []=>some []
 | c :: r=>(bor H c).bind fun d=>(ax5 H r).map (d :: ·)
def aR3 (E:Env) (H:List O):Nat->Nat->Prop:=fun b i=>E.S b i\/∃(r q z e:Nat) (xs:List (List D)) (B:Nat->Prop),H[r]? = some (.tree q z e xs B none)/\(O.tree q z e xs B none).block E r b
theorem by1 {E:Env} {H:List O} (hH:RepH E H) {c:C} {d:D} {v:Value} (h:bS1 H c=some d) (hr:Rd E c v):RdD E.w (aR3 E H) d v:=by
 unfold bS1 at h;split at h
 ·cases h
  cases hr with
  | d _ _ hd=>exact hd.mono (fun _ _ hs=>.inl hs) (fun _ _ _=>rfl) (fun _ _ _ _ _ hh=>hh)
 ·cases h
  cases hr with
  | nil0 a=>exact .nil _ _
 ·rename_i r q
  split at h
  ·rename_i q' z e xs B ho
   split at h
   ·rename_i hq
    subst hq;cases h;have hrep:=hH.obj r _ ho;cases hr with
    | own _ _ _ _ _ _ hv =>
     have hv:=hv hrep.1.symm;subst hv;exact hrep.rdT (fun b hb i=>.inr ⟨r,q,z,e,xs,B,ho,hb⟩)
   ·cases h
  ·cases h
 ·cases h
theorem bd4 {H:List O}:∀{cs:List C} {ds:List D},bS0 H cs=some ds->ds.length=cs.length/\∀(i:Nat) (c:C) (d:D),cs[i]? = some c->ds[i]? = some d->bS1 H c=some d
 | [],ds,h=>by simp[bS0] at h;subst h;exact⟨rfl,fun i c d hc=>by simp at hc⟩
 | c :: r,ds,h=>by
  simp only[bS0,u_,g_] at h;obtain⟨d,h1,ds',h2,rfl⟩:=h;obtain⟨h3,h4⟩:=bd4 h2;refine⟨by simp[h3],fun i c' d' hc hd=>?_⟩;match i with
  | 0=>simp at hc hd;subst hc hd;exact h1
  | i+1=>exact h4 i c' d' (by simpa using hc) (by simpa using hd)
theorem bK3 {E:Env} {H:List O} (hH:RepH E H) {c:C} {d:D} {v:Value} (h:bor H c=some d) (hr:Rd E c v):RdD E.w (aR3 E H) d v:=by
 unfold bor at h;split at h
 ·simp only[g_] at h
  obtain⟨ds,h1,rfl⟩:=h;obtain⟨h2,h3⟩:=bd4 h1;cases hr with
  | agg _ vs hl ho hr =>
   refine .agg _ _ (by omega) ho (fun i d v hd hv=>?_);have hi:i<vs.size:=(t_.1 hv).1;rename_i cs;have hc:cs[i]? = some (cs[i]'(by omega)):=b_ _;exact by1 hH (h3 i _ d hc hd) (hr i _ v hc hv)
 ·exact by1 hH h hr
theorem aQ3 {H:List O}:∀{cs:List C} {ds:List D},ax5 H cs=some ds->ds.length=cs.length/\∀(i:Nat) (c:C) (d:D),cs[i]? = some c->ds[i]? = some d->bor H c=some d
 | [],ds,h=>by simp[ax5] at h;subst h;exact⟨rfl,fun i c d hc=>by simp at hc⟩
 | c :: r,ds,h=>by
  simp only[ax5,u_,g_] at h;obtain⟨d,h1,ds',h2,rfl⟩:=h;obtain⟨h3,h4⟩:=aQ3 h2;refine⟨by simp[h3],fun i c' d' hc hd=>?_⟩;match i with
  | 0=>simp at hc hd;subst hc hd;exact h1
  | i+1=>exact h4 i c' d' (by simpa using hc) (by simpa using hd)
def bN9:C->Bool
 | .d d=>d.flat
 | .nil0 | .own _ _=>true
 | _=>false
def okF:C->Bool
 | .agg cs=>cs.all bN9
 | c=>bN9 c
def bz8:C->Bool
 | .tup cs=>cs.all okF
 | c=>okF c
def C.ren1 (rs:List Nat):C->C
 | .own r q=>.own (rs.getD r 0) q
 | c=>c
def C.ren (rs:List Nat):C->C
 | .agg cs=>.agg (cs.map (C.ren1 rs))
 | c=>c.ren1 rs
def C.renT (rs:List Nat):C->C
 | .tup cs=>.tup (cs.map (C.ren rs))
 | c=>c.ren rs
def O.fine:O->Bool
 | .tree _ _ _ _ _ none | .hole=>true
 | _=>false
def O.bare:O->Bool
 | .hole | .tab _ _=>true
 | _=>false
def I4:List O->List Nat->List O->List O
 | H,r :: rs,o :: os=>I4 (H.set r o) rs os
 | H,_,_=>H
def pos:List Nat->Nat->Option Nat
 | [],_=>none
 | r :: rs,x=>if r=x then some 0 else (pos rs x).map (·+1)
theorem J9:∀{rs:List Nat} {x i:Nat},pos rs x=some i->rs[i]? = some x
 | [],_,_,h=>by simp[pos] at h
 | r :: rs,x,i,h=>by
  simp only[pos] at h;split at h
  ·rename_i e;cases h;simp[e]
  ·simp only[g_] at h
   obtain⟨j,hj,rfl⟩:=h;simpa using J9 hj
theorem aj3:∀{rs:List Nat} {x:Nat},pos rs x=none->x∉rs
 | [],_,_=>by simp
 | r :: rs,x,h=>by
  simp only[pos] at h;split at h
  ·cases h
  ·rename_i e
   simp only[Option.map_eq_none_iff] at h;simp only[List.mem_cons,not_or];exact⟨fun e'=>e e'.symm,aj3 h⟩
theorem X8:∀(rs:List Nat) (os H:List O),(I4 H rs os).length=H.length
 | [],os,H=>by cases os<;>rfl
 | r :: rs,[],H=>rfl
 | r :: rs,o :: os,H=>by rw[I4,X8 rs os];simp
theorem V3:∀(rs:List Nat) (os H:List O) (x:Nat),x∉rs->(I4 H rs os)[x]? = H[x]?
 | [],os,H,x,_=>by cases os<;>rfl
 | r :: rs,[],H,x,_=>rfl
 | r :: rs,o :: os,H,x,h=>by
  simp only[List.mem_cons,not_or] at h;rw[I4,V3 rs os _ x h.2,c_ (fun e=>h.1 e.symm)]
theorem au0:∀(rs:List Nat) (os H:List O) (i x:Nat),rs.Nodup->rs.length=os.length->(∀r,r∈rs->r<H.length)->rs[i]? = some x->(I4 H rs os)[x]? = os[i]?
 | [],os,H,i,x,_,_,_,h=>by simp at h
 | r :: rs,[],H,i,x,_,hl,_,h=>by simp at hl
 | r :: rs,o :: os,H,i,x,hn,hl,hlt,h=>by
  have hn':=List.pairwise_cons.1 hn;rw[I4];match i with
  | 0 =>
   simp at h;subst h;rw[V3 rs os _ r (fun hm=>hn'.1 r hm rfl),h_ (hlt r (by simp))];rfl
  | i+1 =>
   rw[au0 rs os _ i x hn'.2 (by simpa using hl) (fun r' hr'=>by simpa using hlt r' (by simp[hr'])) (by simpa using h)];simp
theorem bb8 {w w':World} {S S':Nat->Nat->Prop} {d:D} {v:Value} (hf:d.flat=true) (h:RdD w S d v):RdD w' S' d v:=by
 cases h with
 | int k n=>exact .int k n
 | bool b=>exact .bool b
 | str s=>exact .str s
 | nil a cap=>exact .nil a cap
 | sl b off cap z xs val hne=>cases xs with | nil=>exact absurd rfl hne | cons=>simp[D.flat] at hf
 | agg=>simp[D.flat] at hf
 | fset=>simp[D.flat] at hf
 | any=>simp[D.flat] at hf
 | raw=>simp[D.flat] at hf
theorem O.fine_block {E E':Env} {r r':Nat} {o:O} (ho:o.fine=true) (hτ:E'.τ r'=E.τ r) (b:Nat):o.block E' r' b↔o.block E r b:=by
 cases o with
 | tree q z e xs B L=>simp only[O.block,hτ]
 | hole=>exact Iff.rfl
 | _=>simp[O.fine] at ho
theorem O.fine_rep {E E':Env} {r r':Nat} {o:O} (ho:o.fine=true) (hτ:E'.τ r'=E.τ r) (hw:E'.w=E.w) (hS:∀b,o.block E r b->∀i,E'.S b i->E.S b i) (h:J4 E r o):J4 E' r' o:=by
 cases o with
 | tree q z e xs B L =>
  cases L with
  | some=>simp[O.fine] at ho
  | none =>
   obtain⟨h1,h2,h3,h4,h5⟩:=h;refine⟨by rw[hτ];exact h1,h2,h3,fun b hb i hs=>h4 b hb i (hS b (.inr hb) i hs),?_⟩;rw[hτ,hw];rcases h5 with h5 | ⟨b,cap,arr,k1,k2,k3,k4,k5,k6,k7,k8,k9,_⟩
   ·exact .inl h5
   ·refine .inr ⟨b,cap,arr,k1,k2,k3,k4,k5,k6,k7,k8,fun i hs=>k9 i (hS b (.inl ?_) i hs),trivial⟩
    have:=m_.2 k3;rw[k1];simp[ownB];omega
 | hole=>simp only[J4] at h |-;rw[hτ];exact h
 | _=>simp[O.fine] at ho
theorem ACalls.freshW {P:Program} {f:FuncId} {ds:List D} {H0:List O} {m:Nat} (hm:m=H0.length) {R:C->List O->Prop} (h:ACalls P f (ds.map .d) H0 R) {H:List O} (rs:List Nat)
  (hrs:rs.length=m) (hnd:rs.Nodup) (hb0:H0.all O.bare=true) (hh:∀(i x:Nat),rs[i]? = some x->H[x]? = H0[i]?) {K:C->List O->Prop}
  (hk:∀c H',R c H'->H'.length=m->bz8 c=true/\(∀(i:Nat) (o:O),H'[i]? = some o->o.fine=true\/(∃g vs,o=.tab g vs/\H0[i]? = some o))/\K (c.renT rs) (I4 H rs H')) {E:Env} {vs:Array Value} (hH:RepH E H) (hs:vs.size=ds.length)
  (hdat:∀(i:Nat) (d:D) (v:Value),ds[i]? = some d->vs[i]? = some v->RdD E.w (aR3 E H) d v) :
  Calls P f vs E.w fun e w'=>∃v r E' H',e=.returned v/\E'.w=w'/\RepH E' H'/\Le E E'/\Rd E' r v/\H'.length=H.length/\K r H':=by
 have hat:∀i,i<m->∃x o,rs[i]? = some x/\rs.getD i 0=x/\H[x]? = some o/\H0[i]? = some o:=fun i hi=>by
  have hi':i<rs.length:=by omega
  have hi0:i<H0.length:=by omega
  have hx:rs[i]? = some rs[i]:=b_ hi';exact⟨rs[i],H0[i],hx,by simp[hi'],by rw[hh i _ hx];exact b_ hi0,b_ hi0⟩
 have hltR:∀r,r∈rs->r<H.length:=fun r hr=>by
  obtain⟨i,hi⟩:=List.mem_iff_getElem?.1 hr;obtain⟨x,o,h1,_,h3,_⟩:=hat i (by rw[<-hrs];exact(a_.1 hi).1);rw[hi] at h1;cases h1;exact(a_.1 h3).1
 let E0:Env:={ w:=E.w,S:=aR3 E H,N:=m,β:=fun i=>E.β (rs.getD i 0),τ:=fun i=>E.τ (rs.getD i 0),pv:=fun _=>False }
 have hS0:∀b i,aR3 E H b i->b<E.w.heap.size:=by
  rintro b i (hs | ⟨r,q,z,e,xs,B,ho,hbb⟩)
  ·exact hH.Slt b i hs
  ·exact hH.lt r _ b ho hbb
 have hrep:∀{r:Nat} {o:O},H0[r]? = some o->o.bare=true/\r<m:=fun ho=>⟨d_.1 hb0 _ (f_ ho),by rw[hm];exact(a_.1 ho).1⟩;have nb:∀{r:Nat} {o:O} {b:Nat},H0[r]? = some o->¬o.block E0 r b:=fun {r o b} ho hb=>by
  have:=(hrep ho).1;cases o<;>first | exact hb | simp[O.bare] at this
 have hE0:RepH E0 H0:=by
  refine⟨by simp[E0,hm],fun r o ho=>?_,fun r o b ho hb=>(nb ho hb).elim,fun r o b ho hb=>(nb ho hb).elim,fun r r' o o' b ho ho' hb hb'=>(nb ho hb).elim,hS0⟩;obtain⟨hr0,hr⟩:=hrep ho;obtain⟨x,o',h1,h2,h3,h4⟩:=hat r hr;rw[h4] at ho;obtain rfl:=Option.some.inj ho;have h5:=hH.obj x _ h3;cases o' with
  | hole =>
   show (E.τ (rs.getD r 0)).1=0;rw[h2];exact h5
  | tab=>exact fun j hj=>⟨.inl (h5 j hj).1,(h5 j hj).2⟩
  | _=>simp[O.bare] at hr0
 refine(h E0 vs hE0 (by rw[hs];simp) (fun i c v hc hv=>?_)).mono ?_
 ·simp only[p_,g_] at hc
  obtain⟨d,hd,rfl⟩:=hc;exact .d _ _ (hdat i d v hd hv)
 ·rintro ex w' ⟨v,c,E',H',rfl,rfl,h3,h4,h5,h6,h7⟩
  rw[<-hm] at h6;obtain⟨k1,k2,k3⟩:=hk c H' h7 h6;have hN':E'.N=m:=by rw[h3.N,h6]
  have hfresh:∀b,E'.pv b->E.w.heap.size<=b:=fun b hp=>by
   rcases h4.newP b hp with h' | h'
   ·exact h'.elim
   ·exact h'
  let E2:Env:={ E with w:=E'.w,S:=fun b i=>E.S b i\/(E'.S b i/\E.w.heap.size<=b),τ:=fun x=>match pos rs x with | some i=>E'.τ i | none=>E.τ x,pv:=fun b=>E.pv b\/E'.pv b }
  have hτin:∀x i,pos rs x=some i->E2.τ x=E'.τ i:=fun x i hp=>by show (match pos rs x with | some i=>E'.τ i | none=>E.τ x)=_;rw[hp]
  have hτout:∀x,pos rs x=none->E2.τ x=E.τ x:=fun x hp=>by show (match pos rs x with | some i=>E'.τ i | none=>E.τ x)=_;rw[hp]
  have hpos:∀x i,rs[i]? = some x->pos rs x=some i:=fun x i hx=>by
   cases hp:pos rs x with
   | none=>exact absurd (f_ hx) (aj3 hp)
   | some j =>
    have hj:=J9 hp;obtain⟨a1,a2⟩:=a_.1 hx;obtain⟨b1,b2⟩:=a_.1 hj;have hpw:=List.pairwise_iff_getElem.1 hnd;rcases Nat.lt_trichotomy i j with hlt | rfl | hlt
    ·exact absurd (a2.trans b2.symm) (hpw i j a1 b1 hlt)
    ·rfl
    ·exact absurd (b2.trans a2.symm) (hpw j i b1 a1 hlt)
  have hpl:∀x i,pos rs x=some i->i<m/\rs.getD i 0=x:=fun x i hp=>by
   have h1:=J9 hp;have hi:i<m:=by rw[<-hrs];exact(a_.1 h1).1
   obtain⟨y,_,g1,g2,_⟩:=hat i hi;rw[h1] at g1;cases g1;exact⟨hi,g2⟩
  have hl:Le E E2:=by
   refine⟨h4.os,h4.tape,h4.output,h4.size,i_ _,fun _ _=>rfl,fun x hx=>?_,fun b i hs=>.inl hs,fun b i hs=>h4.cell b i (.inl hs),fun b hb hp=>h4.blk b hb (fun h=>h),fun b i hs=>?_,fun b hp=>?_,fun b i a n hs hh=>h4.map b i a n (.inl hs) hh⟩
   ·cases hp:pos rs x with
    | none=>rw[hτout x hp];exact⟨i_ _,fun _=>rfl⟩
    | some i =>
     obtain⟨g1,g2⟩:=hpl x i hp;rw[hτin x i hp];have:=h4.τ i g1;show (E.τ x).1<=_/\_;have e0:E0.τ i=E.τ x:=by show E.τ (rs.getD i 0)=_;rw[g2]
     rw[e0] at this;exact this
   ·rcases hs with hs | ⟨_,hs⟩
    ·exact .inl hs
    ·exact .inr (.inl hs)
   ·rcases hp with hp | hp
    ·exact .inl hp
    ·exact .inr (hfresh b hp)
  have hin:∀{x:Nat} {o:O} {i:Nat},pos rs x=some i->(I4 H rs H')[x]? = some o->H'[i]? = some o/\(o.fine=true\/(∃g vs,o=.tab g vs/\H[x]? = some o)):=fun {x o i} hp ho=>by
   rw[au0 rs H' H i x hnd (by rw[hrs,h6]) hltR (J9 hp)] at ho;refine⟨ho,?_⟩;rcases k2 i o ho with h | ⟨g,vs,h1,h2⟩
   ·exact .inl h
   ·exact .inr ⟨g,vs,h1,by rw[hh i x (J9 hp)];exact h2⟩
  have hout:∀{x:Nat} {o:O},pos rs x=none->(I4 H rs H')[x]? = some o->H[x]? = some o:=fun {x o} hp ho=>by
   rw[V3 rs H' H x (aj3 hp)] at ho;exact ho
  have hblkin:∀{x:Nat} {o:O} {i b:Nat},pos rs x=some i->(o.fine=true\/(∃g vs,o=.tab g vs/\H[x]? = some o))->(o.block E2 x b↔o.block E' i b):=fun {x o i b} hp hf=>by
   rcases hf with hf | ⟨g,vs,rfl,_⟩
   ·exact O.fine_block hf (hτin x i hp) b
   ·exact Iff.rfl
  have hblkout:∀{x:Nat} {o:O},pos rs x=none->o.block E2 x=o.block E x:=fun {x o} hp=>O.block_same rfl (hτout x hp);have hH2:RepH E2 (I4 H rs H'):=by
   refine⟨by rw[X8];exact hH.N,fun x o ho=>?_,fun x o b ho hb=>?_,fun x o b ho hb=>?_,fun x x' o o' b ho ho' hb hb'=>?_,fun b i hs=>?_⟩
   ·cases hp:pos rs x with
    | some i =>
     obtain⟨g1,g2⟩:=hin hp ho;rcases g2 with g2 | ⟨g,vs,rfl,g5⟩
     ·refine O.fine_rep g2 (hτin x i hp) rfl (fun b hb i' hs=>?_) (h3.obj i o g1)
      rcases hs with hs | hs
      ·have g3:=hfresh b (h3.pv i o b g1 hb)
       have g4:=hH.Slt b i' hs;omega
      ·exact hs.1
     ·exact fun j hj=>⟨hl.S _ _ (hH.obj x _ g5 j hj).1,(hl.cell _ _ (hH.obj x _ g5 j hj).1).trans (hH.obj x _ g5 j hj).2⟩
    | none =>
     have ho':=hout hp ho;refine(hH.obj x o ho').keep hl (by rw[hH.N];exact(a_.1 ho').1) (hτout x hp) (fun b hb=>⟨h4.blk b (hH.lt x o b ho' hb) (fun h=>h),fun i hs=>?_⟩);rcases hs with hs | ⟨_,hs⟩
     ·exact hs
     ·have:=hH.lt x o b ho' hb;omega
   ·cases hp:pos rs x with
    | some i =>
     obtain⟨g1,g2⟩:=hin hp ho;exact .inr (h3.pv i o b g1 ((hblkin hp g2).1 hb))
    | none=>rw[hblkout hp] at hb;exact .inl (hH.pv x o b (hout hp ho) hb)
   ·cases hp:pos rs x with
    | some i =>
     obtain⟨g1,g2⟩:=hin hp ho;exact h3.lt i o b g1 ((hblkin hp g2).1 hb)
    | none=>rw[hblkout hp] at hb;exact e_ (hH.lt x o b (hout hp ho) hb) h4.size
   ·cases hp:pos rs x with
    | some i =>
     obtain⟨g1,g2⟩:=hin hp ho;have g3:=(hblkin hp g2).1 hb;cases hp':pos rs x' with
     | some i' =>
      obtain⟨g1',g2'⟩:=hin hp' ho';have g3':=(hblkin hp' g2').1 hb';have e:=h3.apart i i' o o' b g1 g1' g3 g3';subst e;have a1:=J9 hp;have a2:=J9 hp';rw[a1] at a2;exact Option.some.inj a2
     | none =>
      rw[hblkout hp'] at hb';have g4:=hfresh b (h3.pv i o b g1 g3);have g5:=hH.lt x' o' b (hout hp' ho') hb';omega
    | none =>
     rw[hblkout hp] at hb;cases hp':pos rs x' with
     | some i' =>
      obtain⟨g1',g2'⟩:=hin hp' ho';have g3':=(hblkin hp' g2').1 hb';have g4:=hfresh b (h3.pv i' o' b g1' g3');have g5:=hH.lt x o b (hout hp ho) hb;omega
     | none =>
      rw[hblkout hp'] at hb';exact hH.apart x x' o o' b (hout hp ho) (hout hp' ho') hb hb'
   ·rcases hs with hs | hs
    ·exact e_ (hH.Slt b i hs) h4.size
    ·exact h3.Slt b i hs.1
  have g1:∀{c:C} {v:Value},bN9 c=true->Rd E' c v->Rd E2 (c.ren1 rs) v:=by
   intro c v hc hv;cases hv with
   | d _ _ hd=>exact .d _ _ (bb8 hc hd)
   | nil0 a=>exact .nil0 a
   | own i q _ hi h1 hq hv =>
    obtain⟨x,_,a1,a2,a3,_⟩:=hat i (by omega);have hp:=hpos x i a1;have e2:=hτin x i hp;show Rd E2 (.own (rs.getD i 0) q) v;rw[a2];exact .own _ _ _ (by show x<E.N;rw[hH.N];exact(a_.1 a3).1) h1 (by rw[e2];exact hq) (by rw[e2];exact hv)
   | _=>simp[bN9] at hc
  have g2:∀{c:C} {v:Value},okF c=true->Rd E' c v->Rd E2 (c.ren rs) v:=by
   intro c v hc hv;cases hv with
   | agg cs us hl h1 hr =>
    simp only[okF,d_] at hc;refine .agg _ _ (by simpa using hl) h1 (fun i c v hci hvi=>?_);simp only[p_,g_] at hci;obtain⟨c0,hc0,rfl⟩:=hci;exact g1 (hc c0 (f_ hc0)) (hr i c0 v hc0 hvi)
   | d x _ hd=>exact g1 (c:=.d x) (by simpa[okF] using hc) (.d _ _ hd)
   | nil0 a=>exact .nil0 a
   | own i q _ hi h1 hq hv=>exact g1 (c:=.own i q) rfl (.own i q _ hi h1 hq hv)
   | _=>simp[okF,bN9] at hc
  have g3:Rd E2 (c.renT rs) v:=by
   cases h5 with
   | tup cs us hl hr =>
    simp only[bz8,d_] at k1;refine .tup _ _ (by simpa using hl) (fun i c v hci hvi=>?_);simp only[p_,g_] at hci;obtain⟨c0,hc0,rfl⟩:=hci;exact g2 (k1 c0 (f_ hc0)) (hr i c0 v hc0 hvi)
   | agg cs us hl h1 hr=>exact g2 (by simpa[bz8] using k1) (.agg cs us hl h1 hr)
   | d _ _ hd=>exact g2 (by simpa[bz8] using k1) (.d _ _ hd)
   | nil0 a=>exact .nil0 a
   | own i q _ hi h1 hq hv=>exact g2 (by simpa[bz8] using k1) (.own i q _ hi h1 hq hv)
   | _=>simp[bz8,okF,bN9] at k1
  exact⟨v,c.renT rs,E2,I4 H rs H',rfl,rfl,hH2,hl,g3,by rw[X8],k3⟩
theorem ACalls.freshV {P:Program} {f:FuncId} {ds:List D} {m:Nat} {R:C->List O->Prop} (h:ACalls P f (ds.map .d) (List.replicate m .hole) R) {H:List O} (rs:List Nat)
  (hrs:rs.length=m) (hnd:rs.Nodup) (hh:∀r,r∈rs->H[r]? = some .hole) {K:C->List O->Prop}
  (hk:∀c H',R c H'->H'.length=m->bz8 c=true/\H'.all O.fine=true/\K (c.renT rs) (I4 H rs H')) {E:Env} {vs:Array Value} (hH:RepH E H) (hs:vs.size=ds.length)
  (hdat:∀(i:Nat) (d:D) (v:Value),ds[i]? = some d->vs[i]? = some v->RdD E.w (aR3 E H) d v) :
  Calls P f vs E.w fun e w'=>∃v r E' H',e=.returned v/\E'.w=w'/\RepH E' H'/\Le E E'/\Rd E' r v/\H'.length=H.length/\K r H':=
 ACalls.freshW (by simp) h rs hrs hnd (d_.2 fun o ho=>by rw[List.eq_of_mem_replicate ho];rfl) (fun i x hx=>by
  rw[hh x (f_ hx),List.getElem?_replicate,if_pos (by rw[<-hrs];exact(a_.1 hx).1)]) (fun c H' h1 h2=>by
  obtain⟨a1,a2,a3⟩:=hk c H' h1 h2;exact⟨a1,fun i o ho=>.inl (d_.1 a2 o (f_ ho)),a3⟩) hH hs hdat
theorem ACalls.fresh {P:Program} {f:FuncId} {args:List C} {ds:List D} {m:Nat} {R:C->List O->Prop} (h:ACalls P f (ds.map .d) (List.replicate m .hole) R) {H:List O} (rs:List Nat)
  (hb:ax5 H args=some ds) (hrs:rs.length=m) (hnd:rs.Nodup) (hh:∀r,r∈rs->H[r]? = some .hole) {K:C->List O->Prop}
  (hk:∀c H',R c H'->H'.length=m->bz8 c=true/\H'.all O.fine=true/\K (c.renT rs) (I4 H rs H')):ACalls P f args H K:=by
 intro E vs hH hs ha;obtain⟨hdl,hdat⟩:=aQ3 hb;refine ACalls.freshV h rs hrs hnd hh hk hH (by rw[hs,hdl]) (fun i d v hd hv=>?_);have hi:i<args.length:=by rw[<-hdl];exact(a_.1 hd).1
 have hai:args[i]? = some args[i]:=b_ hi;exact bK3 hH (hdat i _ d hai hd) (ha i _ v hai hv)
attribute [go_sem] aJ4.eq_def bh4.eq_1 bh4.eq_2 bh4.eq_3 bh4.eq_4 bh4.eq_5 F3.eq_1 F3.eq_2 F3.eq_3 F3.eq_4 D.flat.eq_1 D.flat.eq_2 D.flat.eq_3 D.flat.eq_4
theorem be9 (H os:List O):I4 H [] os=H:=by cases os<;>rfl
attribute [go_sem] I4.eq_1 be9 bor.eq_def bS1.eq_def bS0.eq_1 bS0.eq_2 ax5.eq_1 ax5.eq_2 bz8.eq_def okF.eq_def bN9.eq_def C.ren1.eq_def C.ren.eq_def C.renT.eq_def O.fine.eq_def
theorem AW.adoptT {P:Program} {f:FuncId} {n n0:Nat} {R:C->List O->Prop} {k:List Item} {s:St} (t z e:Nat) (hz:0<z) (ht:get s.σ t=.nil0)
  (h:AW P f n n0 R k ⟨(t,.own s.H.length 0) :: s.σ,s.H++[.tree 0 z e [] (fun _=>False) none]⟩):AW P f n n0 R k s:=by
 refine AW.recast (s':=⟨(t,.own s.H.length 0) :: s.σ,s.H++[.tree 0 z e [] (fun _=>False) none]⟩) (fun h0 E a hst=>?_);have hv:=hst.slot t;rw[ht] at hv;generalize hg:a.tmps.getD t undef=v at hv;cases hv with
 | nil0 ad =>
  have hL:Loose E s.H z e [] (.slice ad 0 0) (fun _=>False):=by
   refine⟨.inl ⟨ad,rfl,rfl⟩,fun x hx=>by simp at hx,hz,fun b hb=>?_⟩;rcases hb with hb | hb
   ·cases ad<;>simp[ownB] at hb
   ·exact hb.elim
  obtain⟨hl,hH⟩:=hst.heap.giveT (q:=0) hL;have hτ:(E.named 0 (.slice ad 0 0)).τ s.H.length=(0,.slice ad 0 0):=by simp[Env.named,hst.heap.N]
  refine⟨E.named 0 (.slice ad 0 0),rfl,hl,hst.reslot hl hH ?_,h⟩;rw[hg];exact .own _ _ _ (by simp[Env.named,hst.heap.N]) rfl (by rw[hτ];exact i_ _) (fun _=>by rw[hτ])
section
variable {P:Program}
def aX2 (P:Program) (t:TypeId) (r q q' z:Nat) (xs:List (List D)) (i:C) (K:C->Prop):Prop:=
 match i,Q9 P t with
 | .d (.int _ m),some e=>D9 P e=some z/\q=q'/\0<=m/\m<xs.length/\K (.tptr r q z m.toNat 0)
 | _,_=>False
def bL6 (P:Program) (t:TypeId) (q q' z z' i off:Nat) (xs:List (List D)) (K:C->Prop):Prop:=
 q=q'/\z=z'/\i<xs.length/\off<z/\tAgg P t=some false/\idx xs i (fun x=>idx x off (fun d=>K (.d d)))
def bn1 (P:Program) (s:St) (t:TypeId) (r q q' z z' e i off:Nat) (xs:List (List D)) (x:C) (K:List O->Prop):Prop:=
 match D9 P t,G9 s x with
 | some n,some ds=>N9 x=true/\(cellsOf x).length=n/\q=q'/\z=z'/\i<xs.length/\off+n<=z/\ds.length=n /\
   K (s.H.set r (.buf q z e (xs.set i ((xs.getD i []).take off++ds++(xs.getD i []).drop (off+n)))))
 | _,_=>False
theorem bk4 {s:St} {o:Oper} {K:C->List O->Prop} {t:TypeId} {x i:Operand} {r q q' z e:Nat} {xs:List (List D)} (ho:o.op=.indexAddr t x i) (hx:l5 x=true) (hi:l5 i=true) (hp:ev s x=.own r q) (hr:s.H[r]? = some (.buf q' z e xs))
  (h:aX2 P t r q q' z xs (ev s i) (fun c=>K c s.H)):G6 P s o K:=by
 unfold aX2 at h;split at h
 ·rename_i k m e0 hpi he
  obtain⟨hz,rfl,h0,h1,hk⟩:=h;have hu:=K6 he;intro E ns a hst;have hvi:=o9 hst i hi;have hv:=o9 hst x hx;rw[hp] at hv;rw[hpi] at hvi;obtain⟨g1,g2,g3,g5⟩:=hst.heap.obj r _ hr;generalize hgx:a.eval x=v at hv;generalize hgi:a.eval i=vi at hvi;cases hvi with
  | d _ _ hd =>
   cases hd;cases hv with
   | own _ _ _ hrN h1' hq hv =>
    have hv:=hv g1.symm;subst hv;rcases g5 with ⟨ad,g5,rfl⟩ | ⟨b,cap,arr,g5,_⟩
    ·simp at h1;omega
    ·have hrun:(Instr.indexAt t (E.τ r).2 (.int k m)).run P E.w=.ok (.pointer (some ⟨b,m.toNat * z+0,none⟩)) E.w:=by
      simp[g5,Instr.indexAt,asIntOf,run_underlying hu,h0,h1,run_sizeOf hz,Addr.add_mk]
     unfold Oper.wp execOp;simp only[ho,hgx,hgi,Sem.run_bind,hrun,Result.andThen_ok,Sem.run_pure,Oper.upon];exact⟨_,E,_,_,rfl,rfl,.tptr _ _ _ _ _ b hrN hq (fun _=>⟨_,_,g5⟩),hst.heap,Le.refl E,hk⟩
 ·exact h.elim
theorem bw9 {s:St} {o:Oper} {K:C->List O->Prop} {t:TypeId} {x:Operand} {r q q' z z' e i off:Nat} {xs:List (List D)} (ho:o.op=.load t x) (hx:l5 x=true) (hp:ev s x=.tptr r q z i off) (hr:s.H[r]? = some (.buf q' z' e xs))
  (h:bL6 P t q q' z z' i off xs (fun c=>K c s.H)):G6 P s o K:=by
 obtain⟨rfl,rfl,hi,hoff,hag,h⟩:=h;intro E ns a hst;have hpv:=o9 hst x hx;rw[hp] at hpv;generalize hg:a.eval x=pv at hpv;obtain⟨h1,h2,h3,h5⟩:=hst.heap.obj r _ hr;have hxi:xs[i]? = some xs[i]:=b_ hi;have hxl:xs[i].length=z:=h2 _ (q_ _);have hci:xs[i][off]? = some (xs[i][off]'(by omega)):=b_ _;have h:=h _ hxi _ hci;rcases h5 with ⟨ad,_,rfl⟩ | ⟨b,cap,arr,k1,k2,k3,k4,k5,k6,k7,k8⟩
 ·simp at hi
 obtain⟨v,n1,n2,n3⟩:=k7 i off _ _ hxi hci;cases hpv with
 | tptr _ _ _ _ _ b' hrN hq hv =>
  obtain⟨n',cap',e1⟩:=hv h1.symm;rw[k1] at e1;cases e1;have hrun:(Instr.loadAt t (.pointer (some ⟨b,i * z+off,none⟩))).run P E.w=.ok v E.w:=by
   simp only[Instr.loadAt,Instr.sureAddr,Sem.run_bind,Sem.run_pure,Result.andThen_ok];exact R6 hag (by rw[cell_of_row _ _ _ _ _ _ k2];exact n1)
  unfold Oper.wp execOp;simp only[ho,hg,Sem.run_bind,hrun,Result.andThen_ok,Sem.run_pure,Oper.upon];exact⟨_,E,_,_,rfl,rfl,.d _ _ n3,hst.heap,Le.refl E,h⟩
theorem bw8 {s:St} {o:Oper} {K:C->List O->Prop} {t:TypeId} {p x:Operand} {r q q' z z' e i off:Nat} {xs:List (List D)} (ho:o.op=.store t p x) (hp:l5 p=true) (hx:l5 x=true) (hpe:ev s p=.tptr r q z i off) (hr:s.H[r]? = some (.buf q' z' e xs))
  (h:bn1 P s t r q q' z z' e i off xs (ev s x) (K .top)):G6 P s o K:=by
 unfold bn1 at h;split at h
 ·rename_i n ds hn hds
  obtain⟨hok,hlen,rfl,rfl,hi,hle,hdl,hk⟩:=h;intro E ns a hst;have hfx:=Q6 (o9 hst x hx) hok;have hone:∀(i:Nat) (u:Value),(a.eval x).cells[i]? = some u->u.oneCell'=true:=fun i u hu=>by
   have hi:i<(cellsOf (ev s x)).length:=by rw[<-hfx.1];exact(t_.1 hu).1
   exact(hfx.2 i _ u (b_ hi) hu).2
  have hpv:=o9 hst p hp;rw[hpe] at hpv;generalize hg:a.eval p=pv at hpv;obtain⟨h1,h3,hz,h5⟩:=hst.heap.obj r _ hr;rcases h5 with ⟨ad,_,rfl⟩ | ⟨b,cap,arr,k1,k2,k3,k4,k5,k6,h4,k8⟩
  ·simp at hi
  cases hpv with
  | tptr _ _ _ _ _ b' hrN hq hv =>
   obtain⟨n',cap',e1⟩:=hv h1.symm;rw[k1] at e1;cases e1;have hrl:=(a_.1 hr).1;have hblk:(O.buf q z e xs).block E r b:=by simp only[O.block,k1,ownB];rw[if_neg (by omega)]
   obtain⟨hd1,hd2⟩:=aR4 hst (o9 hst x hx) hok hds;have hiz:i * z+z<=cap * z:=by
    have:(i+1) * z<=cap * z:=r_ _ (by omega);rw[Nat.add_mul] at this;omega
   have hrun:=Z0 (P:=P) hn (by rw[hfx.1,hlen]) hone k2 (off:=i * z+off) (by omega);generalize hnew:(arr.toList.take (i * z+off)++(a.eval x).cells.toList++arr.toList.drop (i * z+off+(a.eval x).cells.toList.length)).toArray=arr' at hrun;have hcells:=O5 (arr:=arr) (off:=i * z+off) (vs:=(a.eval x).cells) (by rw[hfx.1,hlen];omega);rw[hnew] at hcells;have hl0:Le E (E.setRow b arr'):=R7 (hst.heap.pv r _ _ hr hblk) k8;have hxi:xs[i]? = some (xs.getD i []):=by rw[List.getD_eq_getElem?_getD,b_ hi];rfl
   have hxl:(xs.getD i []).length=z:=h3 _ (f_ hxi);generalize xs.getD i []=y0 at hk hxl hxi;have hH:RepH (E.setRow b arr') (s.H.set r (.buf q z e (xs.set i (y0.take off++ds++y0.drop (off+n))))):=by
    refine hst.heap.turn (r0:=r) (o0:=.buf q z e (xs.set i (y0.take off++ds++y0.drop (off+n)))) hl0 (by simp[Env.setRow,hst.heap.N]) (fun r' hr'=>?_) (fun o' ho'=>?_) (fun _ _ _=>rfl) (fun r' o' b' hr' ho' hb=>?_) (fun _ hb=>hb) (fun b' i' hs=>?_) ?_ (fun b2 hb2=>?_)
    ·rw[c_ (fun e=>hr' e.symm)]
    ·rw[h_ hrl] at ho'
     exact(Option.some.inj ho').symm
    ·exact⟨setRow_other E.w b b' arr' (fun e=>hr' (hst.heap.apart r' r o' _ b' ho' hr hb (by rw[e];exact hblk))),fun i hs=>hs⟩
    ·have:=hst.heap.Slt b' i' hs
     simpa[Env.setRow] using this
    ·refine⟨h1,fun y hy=>?_,hz,.inr ⟨b,cap,arr',by rw[List.length_set];exact k1,setRow_heap _ _ _ _ _ _ k2,by intro e;apply k3;simpa using e,by simpa using k4,k5,by rw[hcells.1];exact k6,fun k j y c hy hj=>?_,k8⟩⟩
     ·rcases List.mem_or_eq_of_mem_set hy with hy | rfl
      ·exact h3 y hy
      ·simp;omega
     ·by_cases hki:i=k
      ·subst hki
       rw[h_ hi] at hy;simp only[Option.some.injEq] at hy;subst hy;rw[List.append_assoc] at hj;have old:∀c,y0[j]? = some c->¬(off<=j/\j<off+n)->∃v,arr'[i * z+j]? = some v/\v.oneCell'=true/\RdD (E.setRow b arr').w (E.setRow b arr').S c v:=by
        intro c hc hno;obtain⟨v,k1,k2,k3⟩:=h4 i j _ c hxi hc;refine⟨v,?_,k2,k3.le hl0⟩;rw[hcells.2,if_neg (by rw[hfx.1,hlen];omega)];exact k1
       by_cases hj1:j<off
       ·rw[j_ (by simp;omega),s_,if_pos hj1] at hj
        exact old c hj (by omega)
       ·rw[k_ (by simp;omega)] at hj
        have hmin:min off y0.length=off:=by omega
        simp only[List.length_take,hmin] at hj;by_cases hj2:j<off+n
        ·rw[j_ (by omega)] at hj
         have hv:(a.eval x).cells[j - off]? = some ((a.eval x).cells[j - off]'(by omega)):=Array.getElem?_eq_getElem _;obtain⟨k1,k2⟩:=hd2 _ c _ hj hv;refine⟨_,?_,k2,k1.le hl0⟩;rw[hcells.2,if_pos (by rw[hfx.1,hlen];omega),show i * z+j - (i * z+off)=j - off by omega];exact hv
        ·rw[k_ (by omega),List.getElem?_drop] at hj
         rw[show off+n+(j - off - ds.length)=j by omega] at hj;exact old c hj (by omega)
      ·rw[c_ hki] at hy
       obtain⟨v,k1,k2,k3⟩:=h4 k j y c hy hj;have hjz:j<z:=by rw[<-h3 y (f_ hy)];exact(a_.1 hj).1
       refine⟨v,?_,k2,k3.le hl0⟩;rw[hcells.2,if_neg]
       ·exact k1
       ·rw[hfx.1,hlen]
        rcases Nat.lt_or_gt_of_ne hki with hlt | hlt
        ·have:(i+1) * z<=k * z:=r_ _ hlt
         rw[Nat.add_mul] at this;omega
        ·have:(k+1) * z<=i * z:=r_ _ hlt
         rw[Nat.add_mul] at this;omega
    ·have hb2':(O.buf q z e xs).block E r b2:=hb2
     exact⟨hst.heap.pv r _ b2 hr hb2',by simpa[Env.setRow] using hst.heap.lt r _ b2 hr hb2',fun r' o' hr' ho' hb3=>hr' (hst.heap.apart r' r o' _ b2 ho' hr hb3 hb2')⟩
   unfold Oper.wp execOp;simp only[ho,hg,Sem.run_bind,hrun,Result.andThen_ok,Sem.run_pure,Oper.upon];exact⟨undef,_,_,_,rfl,rfl,.top _,hH,hl0,hk⟩
 ·exact h.elim
theorem bk0 {s:St} {o:Oper} {K:C->List O->Prop} {t:TypeId} {x:Operand} {r q q' z e:Nat} {xs:List (List D)} (ho:o.op=.call { callee:=.builtin .len,args:=#[x],argTypes:=#[t] }) (hx:l5 x=true) (hp:ev s x=.own r q) (hr:s.H[r]? = some (.buf q' z e xs))
  (ht:q9 P t=true) (hq:q=q') (hk:K (.d (.int .i64 xs.length)) s.H):G6 P s o K:=by
 subst hq;obtain⟨e',hu⟩:∃e',P.underlying t=some (.slice e'):=by
  unfold q9 at ht;split at ht
  ·exact⟨_,by assumption⟩
  ·simp at ht
 intro E ns a hst;have hv:=o9 hst x hx;rw[hp] at hv;obtain⟨g1,g2,g3,g5⟩:=hst.heap.obj r _ hr;have hval:a.eval x=(E.τ r).2:=by
  generalize a.eval x=v at hv;cases hv with
  | own _ _ _ _ _ _ hv=>exact hv g1.symm
 obtain⟨ad,cap,hsl⟩:∃ad cap,(E.τ r).2=.slice ad xs.length cap:=by
  rcases g5 with ⟨ad,g5,rfl⟩ | ⟨b,cap,arr,g5,_⟩
  ·exact⟨ad,0,g5⟩
  ·exact⟨_,cap,g5⟩
 have hrun:(Builtin.len_ #[t] o.type #[a.eval x]).run P E.w=.ok (.int .i64 xs.length) E.w:=by
  rw[hval,hsl];simp[Builtin.len_,run_underlying hu,goInt]
 unfold Oper.wp execOp;simp only[ho,resolve,invoke,builtin,Sem.run_bind,Sem.run_pure,Result.andThen_ok,List.map_toArray,List.map_cons,List.map_nil,hrun,Oper.upon];exact⟨_,E,_,_,rfl,rfl,.d _ _ (.int _ _),hst.heap,Le.refl E,hk⟩
end
section
variable {P:Program} {f:FuncId} {n n0:Nat} {R:C->List O->Prop}
end
end Go.Abs
