import Derived.Test.YtehgpkadkdekmaaGreatDoorJ2
import Derived.Laws.IdiomRangeMap
open List renaming getElem?_eq_some_iff->a_,getElem?_eq_getElem->b_,getElem?_append_right->c_,getElem?_append_left->d_,getElem?_set_self->e_,getElem?_set_ne->f_,getElem?_eq_none->l_,mem_of_getElem?->m_,getElem?_map->p_,append_assoc->q_,length_pos_iff->r_,getElem?_take->v_,getElem?_drop->w_,length_take->z_,getElem_mem->A_,getElem?_cons_zero->B_,getD_eq_getElem?_getD->E_,mem_or_eq_of_mem_set->F_,eq_of_mem_replicate->G_,getElem?_cons_succ->H_,mem_iff_getElem?->J_
open Array renaming getElem?_eq_getElem->g_,eq_empty_of_size_eq_zero->h_,getElem?_toList->i_,length_toList->n_,getD_eq_getD_getElem?->s_,getElem?_eq_some_iff->u_
open Nat renaming mul_le_mul_right->j_,le_refl->k_,add_zero->t_,add_mul->y_,zero_add->C_,mul_comm->I_
open Option renaming map_eq_some_iff->o_,bind_some->x_,map_some->D_
set_option linter.unusedSimpArgs false
set_option linter.unusedVariables false
namespace Go.Abs
def Root (w:World) (z e:Nat) (xs:List (List D)) (v:Value) (B:Nat->Prop):Prop:=
 (∃a,v=.slice a 0 0/\xs=[]) \/
 ∃(b cap:Nat) (arr:Array Value),v=.slice (some ⟨b,0,none⟩) xs.length cap/\w.heap[b]? = some (.cells arr e (0,0)) /\
  xs≠[]/\xs.length<=cap/\cap<=maxLen/\arr.size=cap * z/\Kids w z xs arr B none/\¬B b
def bd8 (E:Env) (H:List O) (B:Nat->Prop):Prop:=
 ∀b,B b->E.pv b/\b<E.w.heap.size/\(∀i,¬E.S b i)/\∀(r:Nat) (o:O),H[r]? = some o->¬o.block E r b
structure Loose (E:Env) (H:List O) (z e:Nat) (xs:List (List D)) (v:Value) (B:Nat->Prop):Prop where
 root:Root E.w z e xs v B
 hz:∀x,x∈xs->x.length=z
 z0:0<z
 free:bd8 E H (fun b=>ownB v=some b\/B b)
structure CellT (E:Env) (H:List O) (d:D) (v:Value) (B:Nat->Prop):Prop where
 tr:Tr E.w d v B
 one:v.oneCell'=true
 free:bd8 E H B
theorem Root.one {w:World} {z e:Nat} {xs:List (List D)} {v:Value} {B:Nat->Prop} (h:Root w z e xs v B):v.oneCell'=true:=by
 rcases h with ⟨a,rfl,_⟩ | ⟨b,cap,arr,rfl,_⟩<;>rfl
theorem bd8.mono {E:Env} {H:List O} {B B':Nat->Prop} (h:bd8 E H B) (hB:∀b,B' b->B b):bd8 E H B':=fun b hb=>h b (hB b hb)
theorem Loose.cell {E:Env} {H:List O} {z e:Nat} {xs:List (List D)} {v:Value} {B:Nat->Prop} (h:Loose E H z e xs v B):∃B',CellT E H (.sl xs) v B'/\∀b,B' b->(ownB v=some b\/B b):=by
 obtain⟨hroot,hz,z0,hfree⟩:=h;have hone:=hroot.one;rcases hroot with ⟨a,rfl,rfl⟩ | ⟨b,cap,arr,rfl,h1,h2,h3,h4,h5,h6,h7⟩
 ·exact⟨_,⟨.nil a 0,hone,fun b hb=>hb.elim⟩,fun b hb=>hb.elim⟩
 ·obtain⟨val,Bs,k1,k2,k3⟩:=h6
  have hB:∀b',(b'=b\/∃i j x c,xs[i]? = some x/\x[j]? = some c/\Bs i j b')->(ownB (.slice (some ⟨b,0,none⟩) xs.length cap)=some b'\/B b'):=by
   rintro b' (rfl | ⟨i,j,x,c,_,_,hb⟩)
   ·left
    have:=r_.2 h2;simp[ownB];omega
   ·exact .inr (k2 i j b' hb)
  refine⟨_,⟨.sl b cap z e xs arr val Bs h2 z0 h3 h4 hz h1 h5 (fun i j x c hi hj=>⟨(k1 i j x c hi hj).1,(k1 i j x c hi hj).2.1⟩) (fun i j x c hi hj=>(k1 i j x c hi hj).2.2 (fun h=>h)) (fun i j hb=>h7 (k2 i j b hb)) k3,hone,hfree.mono hB⟩,hB⟩
theorem aO4 {E:Env} {H:List O} {B:Nat->Prop} (h:bd8 E H B) (r:Nat):bd8 E (H.set r .dead) B:=by
 intro b hb;obtain⟨h1,h2,h3,h4⟩:=h b hb;refine⟨h1,h2,h3,fun r' o ho=>?_⟩;by_cases e:r=r'
 ·subst e
  by_cases hlt:r<H.length
  ·rw[e_ hlt] at ho;cases ho;exact fun h=>h
  ·rw[l_ (by simp;omega)] at ho;cases ho
 ·rw[f_ e] at ho;exact h4 r' o ho
theorem RepH.kill {E:Env} {H:List O} (h:RepH E H) (r:Nat):RepH E (H.set r .dead):=by
 by_cases hlt:r<H.length
 ·refine h.turn (r0:=r) (o0:=.dead) (Le.refl E) (by simp[h.N]) (fun r' hr'=>?_) (fun o' ho'=>?_) (fun _ _ _=>rfl) (fun r' o' b hr' ho' hb=>⟨rfl,fun i hs=>hs⟩) (fun _ hb=>hb) (fun b i hs=>h.Slt b i hs) trivial (fun b hb=>hb.elim)
  ·rw[f_ (fun e=>hr' e.symm)]
  ·rw[e_ hlt] at ho'
   exact(Option.some.inj ho').symm
 ·rw[List.set_eq_of_length_le (by omega)];exact h
theorem RepH.takeT {E:Env} {H:List O} (h:RepH E H) {r q z e:Nat} {xs:List (List D)} {B:Nat->Prop} (ho:H[r]? = some (.tree q z e xs B none)) :
  RepH E (H.set r .dead)/\Loose E (H.set r .dead) z e xs (E.τ r).2 B:=by
 refine⟨h.kill r,?_⟩;obtain⟨h1,h2,h3,h4,h5⟩:=h.obj r _ ho;refine⟨?_,h2,h3,fun b hb=>⟨h.pv r _ b ho hb,h.lt r _ b ho hb,fun i hs=>?_,fun r' o' ho' hb'=>?_⟩⟩
 ·rcases h5 with h5 | ⟨b,cap,arr,k1,k2,k3,k4,k5,k6,k7,k8,_⟩
  ·exact .inl h5
  ·exact .inr ⟨b,cap,arr,k1,k2,k3,k4,k5,k6,k7,k8⟩
 ·rcases hb with hb | hb
  ·rcases h5 with ⟨a,h5,_⟩ | ⟨b',cap,arr,k1,_,_,_,_,_,_,_,k9,_⟩
   ·rw[h5] at hb;cases a<;>simp[ownB] at hb
   ·rw[k1] at hb
    simp only[ownB] at hb;split at hb
    ·cases hb
    ·cases hb;exact k9 i hs
  ·exact h4 b hb i hs
 ·by_cases er:r=r'
  ·subst er
   rw[e_ (a_.1 ho).1] at ho';cases ho';exact hb'
  ·rw[f_ er] at ho'
   exact er (h.apart r r' _ o' b ho ho' hb hb')
def Env.named (E:Env) (q:Nat) (v:Value):Env:={ E with N:=E.N+1,τ:=fun r=>if r=E.N then (q,v) else E.τ r }
def Env.rename (E:Env) (r0 q:Nat) (v:Value):Env:={ E with τ:=fun r=>if r=r0 then (q,v) else E.τ r }
theorem Loose.rep {E E':Env} {H:List O} {r q z e:Nat} {xs:List (List D)} {v:Value} {B:Nat->Prop} (l:Loose E H z e xs v B) (hw:E'.w=E.w) (hS:E'.S=E.S) (hτ:E'.τ r=(q,v)):J4 E' r (.tree q z e xs B none):=by
 obtain⟨hroot,hz,z0,hfree⟩:=l;refine⟨by rw[hτ],hz,z0,fun b hb=>by rw[hS];exact(hfree b (.inr hb)).2.2.1,?_⟩;rw[hτ,hw,hS];rcases hroot with ⟨a,rfl,rfl⟩ | ⟨b,cap,arr,rfl,h1,h2,h3,h4,h5,h6,h7⟩
 ·exact .inl ⟨a,rfl,rfl⟩
 ·refine .inr ⟨b,cap,arr,rfl,h1,h2,h3,h4,h5,h6,h7,(hfree b (.inl ?_)).2.2.1,trivial⟩
  have:=r_.2 h2;simp[ownB];omega
theorem RepH.giveT {E:Env} {H:List O} (h:RepH E H) {q z e:Nat} {xs:List (List D)} {v:Value} {B:Nat->Prop} (l:Loose E H z e xs v B) :
  Le E (E.named q v)/\RepH (E.named q v) (H++[.tree q z e xs B none]):=by
 have hl:Le E (E.named q v):=by
  refine⟨rfl,rfl,rfl,k_ _,by simp[Env.named],fun _ _=>rfl,fun r hr=>?_,fun _ _ hs=>hs,fun _ _ _=>rfl,fun _ _ _=>rfl,fun _ _ hs=>.inl hs,fun _ hp=>.inl hp,fun _ _ _ _ _ hh=>hh⟩;simp only[Env.named];rw[if_neg (by omega)];exact⟨k_ _,fun _=>rfl⟩
 have hτ:(E.named q v).τ H.length=(q,v):=by simp[Env.named,h.N]
 refine⟨hl,h.turn (r0:=H.length) (o0:=.tree q z e xs B none) hl (by simp[Env.named,h.N]) (fun r hr=>?_) (fun o ho=>?_) (fun r hr hr'=>?_) (fun r o b hr ho hb=>⟨rfl,fun i hs=>hs⟩) (fun b hb=>hb) (fun b i hs=>h.Slt b i hs) (l.rep rfl rfl hτ) (fun b hb=>?_)⟩
 ·by_cases hlt:r<H.length
  ·rw[d_ hlt]
  ·rw[l_ (by simp;omega),l_ (by omega)]
 ·simpa using ho.symm
 ·simp only[Env.named];rw[if_neg (by omega)]
 ·simp only[O.block,hτ] at hb
  obtain⟨k1,k2,k3,k4⟩:=l.free b hb;exact⟨k1,k2,fun r o hr ho=>k4 r o ho⟩
theorem RepH.fillT {E:Env} {H:List O} (h:RepH E H) {r z e:Nat} {xs:List (List D)} {v:Value} {B:Nat->Prop} (hr:H[r]? = some .hole) (l:Loose E H z e xs v B) :
  Le E (E.rename r 1 v)/\RepH (E.rename r 1 v) (H.set r (.tree 1 z e xs B none)):=by
 have h0:(E.τ r).1=0:=h.obj r _ hr;have hl:Le E (E.rename r 1 v):=by
  refine⟨rfl,rfl,rfl,k_ _,k_ _,fun _ _=>rfl,fun r' hr'=>?_,fun _ _ hs=>hs,fun _ _ _=>rfl,fun _ _ _=>rfl,fun _ _ hs=>.inl hs,fun _ hp=>.inl hp,fun _ _ _ _ _ hh=>hh⟩;simp only[Env.rename];by_cases er:r'=r
  ·subst er;rw[if_pos rfl];exact⟨by simp only;omega,fun e=>by simp only at e;omega⟩
  ·rw[if_neg er];exact⟨k_ _,fun _=>rfl⟩
 have hτ:(E.rename r 1 v).τ r=(1,v):=by simp[Env.rename]
 refine⟨hl,h.turn (r0:=r) (o0:=.tree 1 z e xs B none) hl (by simp[Env.rename,h.N]) (fun r' hr'=>?_) (fun o ho=>?_) (fun r' hr' _=>?_) (fun r' o b hr' ho hb=>⟨rfl,fun i hs=>hs⟩) (fun b hb=>hb) (fun b i hs=>h.Slt b i hs) (l.rep rfl rfl hτ) (fun b hb=>?_)⟩
 ·rw[f_ (fun e=>hr' e.symm)]
 ·rw[e_ (a_.1 hr).1] at ho
  exact(Option.some.inj ho).symm
 ·simp only[Env.rename];rw[if_neg hr']
 ·simp only[O.block,hτ] at hb
  obtain⟨k1,k2,k3,k4⟩:=l.free b hb;exact⟨k1,k2,fun r' o hr' ho=>k4 r' o ho⟩
def D.flat:D->Bool
 | .int _ _ | .bool _ | .str _ | .sl []=>true
 | _=>false
theorem bv9 {w:World} {S:Nat->Nat->Prop} {d:D} {v:Value} (hf:d.flat=true) (h:RdD w S d v):Tr w d v (fun _=>False):=by
 cases h with
 | int k n=>exact .int k n
 | bool b=>exact .bool b
 | str s=>exact .str s
 | nil a cap=>exact .nil a cap
 | sl b off cap z xs val hne=>cases xs with | nil=>exact absurd rfl hne | cons=>simp[D.flat] at hf
 | agg=>simp[D.flat] at hf
 | fset=>simp[D.flat] at hf
 | any=>simp[D.flat] at hf
 | raw=>simp[D.flat] at hf
theorem aX7 {w:World} {S:Nat->Nat->Prop} {d:D} {v:Value} {B:Nat->Prop} (hf:d.flat=true) (h:Tr w d v B):RdD w S d v:=by
 cases h with
 | int k n=>exact .int k n
 | bool b=>exact .bool b
 | str s=>exact .str s
 | nil a cap=>exact .nil a cap
 | sl b cap z e xs arr val Bs hne=>cases xs with | nil=>exact absurd rfl hne | cons=>simp[D.flat] at hf
 | any=>simp[D.flat] at hf
def F3 (H:List O):List C->Option (List D×List O)
 | []=>some ([],H)
 | .d d :: r=>if d.flat=true then (F3 H r).map (fun p=>(d :: p.1,p.2)) else none
 | .nil0 :: r=>(F3 H r).map (fun p=>(.sl [] :: p.1,p.2))
 | .own t q :: r=>(match H[t]? with
  | some (.tree q' _ _ xs _ none)=>if q=q' then (F3 (H.set t .dead) r).map (fun p=>(.sl xs :: p.1,p.2)) else none
  | _=>none)
 | _ :: _=>none
theorem bG8 {α β:Type} {a:α} {r:List α} {vs:List β} (h:vs.length=(a :: r).length):∃v ws,vs=v :: ws/\ws.length=r.length:=by
 match vs,h with
 | v :: ws,h=>exact⟨v,ws,rfl,by simpa using h⟩
theorem ab2 {E:Env}:∀(cs:List C) (H:List O) (ds:List D) (H1:List O) (vs:List Value),RepH E H->F3 H cs=some (ds,H1)->vs.length=cs.length ->
  (∀(i:Nat) (c:C) (v:Value),cs[i]? = some c->vs[i]? = some v->Rd E c v/\v.oneCell'=true) ->
  RepH E H1/\H1.length=H.length/\ds.length=cs.length/\(∀B,bd8 E H B->bd8 E H1 B)/\∃Bk:Nat->Nat->Prop,
   (∀k d v,ds[k]? = some d->vs[k]? = some v->CellT E H1 d v (Bk k))/\(∀k k' b,Bk k b->Bk k' b->k=k')/\(∀k b,Bk k b->∃(r:Nat) (o:O),H[r]? = some o/\o.block E r b):=by
 intro cs;induction cs with
 | nil =>
  intro H ds H1 vs h hm hl hf;simp only[F3,Option.some.injEq,Prod.mk.injEq] at hm;obtain⟨rfl,rfl⟩:=hm;exact⟨h,rfl,rfl,fun B hB=>hB,fun _ _=>False,fun k d v hd=>by simp at hd,fun k k' b hb=>hb.elim,fun k b hb=>hb.elim⟩
 | cons c r ih =>
  intro H ds H1 vs h hm hl hf;obtain⟨v,ws,rfl,hl'⟩:=bG8 hl;have hf':∀(i:Nat) (c:C) (v:Value),r[i]? = some c->ws[i]? = some v->Rd E c v/\v.oneCell'=true:=fun i c v hc hv=>hf (i+1) c v (by simpa using hc) (by simpa using hv);obtain⟨hv,h1⟩:=hf 0 c v rfl rfl
  -- a cell with nothing hanging on it
  have flatCase:∀(d:D),Tr E.w d v (fun _=>False)->(F3 H r).map (fun p=>(d :: p.1,p.2))=some (ds,H1)->RepH E H1/\H1.length=H.length/\ds.length=(c :: r).length/\(∀B,bd8 E H B->bd8 E H1 B)/\∃Bk:Nat->Nat->Prop,
    (∀k d v',ds[k]? = some d->(v :: ws)[k]? = some v'->CellT E H1 d v' (Bk k))/\(∀k k' b,Bk k b->Bk k' b->k=k')/\(∀k b,Bk k b->∃(r:Nat) (o:O),H[r]? = some o/\o.block E r b):=by
   intro d htr hm2;clear hm;simp only[o_,Prod.mk.injEq] at hm2;obtain⟨⟨ds',H2⟩,hm2,rfl,rfl⟩:=hm2;obtain⟨g1,g2,g3,g4,Bk,g5,g6,g7⟩:=ih H ds' H2 ws h hm2 hl' hf';refine⟨g1,g2,by simp[g3],g4,fun k=>match k with | 0=>fun _=>False | k+1=>Bk k,fun k d' v' hd hv'=>?_,fun k k' b hb hb'=>?_,fun k b hb=>?_⟩
   ·match k with
    | 0=>simp at hd hv';subst hd hv';exact⟨htr,h1,fun b hb=>hb.elim⟩
    | k+1=>exact g5 k d' v' (by simpa using hd) (by simpa using hv')
   ·match k,k' with
    | 0,_=>exact hb.elim
    | _,0=>exact hb'.elim
    | k+1,k'+1=>rw[g6 k k' b hb hb']
   ·match k with
    | 0=>exact hb.elim
    | k+1=>exact g7 k b hb
  unfold F3 at hm;split at hm
  ·rename_i hh;cases hh
  ·rename_i d r' hh
   cases hh;split at hm
   ·rename_i hfl
    cases hv with
    | d _ _ hd=>exact flatCase d (bv9 hfl hd) hm
   ·cases hm
  ·rename_i r' hh
   cases hh;cases hv with
   | nil0 a=>exact flatCase (.sl []) (.nil a 0) hm
  ·rename_i t q r' hh
   cases hh;split at hm
   ·rename_i q' z e xs B hob
    split at hm
    ·rename_i hq
     subst hq;simp only[o_,Prod.mk.injEq] at hm;obtain⟨⟨ds',H2⟩,hm,rfl,rfl⟩:=hm;obtain⟨k1,k2⟩:=h.takeT hob;have hver:=(h.obj t _ hob).1;have hval:v=(E.τ t).2:=by
      cases hv with
      | own _ _ _ _ _ _ hv=>exact hv hver.symm
     rw[<-hval] at k2;obtain⟨B0,k3,k4⟩:=k2.cell;obtain⟨g1,g2,g3,g4,Bk,g5,g6,g7⟩:=ih (H.set t .dead) ds' H2 ws k1 hm hl' hf';refine⟨g1,by rw[g2,List.length_set],by simp[g3],fun B hB=>g4 B (aO4 hB t),fun k=>match k with | 0=>B0 | k+1=>Bk k,fun k d' v' hd hv'=>?_,fun k k' b hb hb'=>?_,fun k b hb=>?_⟩
     ·match k with
      | 0=>simp at hd hv';subst hd hv';exact⟨k3.tr,h1,g4 B0 k3.free⟩
      | k+1=>exact g5 k d' v' (by simpa using hd) (by simpa using hv')
     ·match k,k' with
      | 0,0=>rfl
      | 0,k'+1 =>
       obtain⟨r1,o1,h1,h2⟩:=g7 k' b hb';exact absurd h2 ((k3.free b hb).2.2.2 r1 o1 h1)
      | k+1,0 =>
       obtain⟨r1,o1,h1,h2⟩:=g7 k b hb;exact absurd h2 ((k3.free b hb').2.2.2 r1 o1 h1)
      | k+1,k'+1=>rw[g6 k k' b hb hb']
     ·match k with
      | 0=>exact⟨t,_,hob,by have:=k4 b hb;rw[hval] at this;exact this⟩
      | k+1 =>
       obtain⟨r1,o1,h1,h2⟩:=g7 k b hb;by_cases e1:t=r1
       ·subst e1
        rw[e_ (a_.1 hob).1] at h1;cases h1;exact h2.elim
       ·rw[f_ e1] at h1
        exact⟨r1,o1,h1,h2⟩
    ·cases hm
   ·cases hm
  ·cases hm
theorem aL0 {i i' j j' z:Nat} (hj:j<z) (hj':j'<z) (h:i * z+j=i' * z+j'):i=i'/\j=j':=by
 have hz:0<z:=by omega
 have e1:(i * z+j) / z=i:=by rw[I_,Nat.mul_add_div hz,Nat.div_eq_of_lt hj,t_]
 have e2:(i' * z+j') / z=i':=by rw[I_,Nat.mul_add_div hz,Nat.div_eq_of_lt hj',t_]
 have:i=i':=by rw[<-e1,<-e2,h]
 subst this;exact⟨rfl,by omega⟩
theorem RepH.storeT {E:Env} {H:List O} (h:RepH E H) {r q z e:Nat} {xs:List (List D)} {B:Nat->Prop} (ho:H[r]? = some (.tree q z e xs B none)) {i off:Nat} {ds:List D} {vs:List Value} {Bk:Nat->Nat->Prop}
  (hi:i<xs.length) (hle:off+ds.length<=z) (hvl:vs.length=ds.length) (hc:∀k d v,ds[k]? = some d->vs[k]? = some v->CellT E H d v (Bk k)) (hk:∀k k' b,Bk k b->Bk k' b->k=k') :
  ∃ b cap arr,(E.τ r).2=.slice (some ⟨b,0,none⟩) xs.length cap/\E.w.heap[b]? = some (.cells arr e (0,0))/\i * z+off+ds.length<=arr.size /\
   ∀arr',arr'.size=arr.size->(∀k,arr'[k]? = if i * z+off<=k/\k<i * z+off+vs.length then vs[k - (i * z+off)]? else arr[k]?) ->
    ∃B',Le E (E.setRow b arr')/\RepH (E.setRow b arr') (H.set r (.tree q z e (xs.set i ((xs.getD i []).take off++ds++(xs.getD i []).drop (off+ds.length))) B' none)):=by
 obtain⟨h1,h2,h3,h4,h5⟩:=h.obj r _ ho;rcases h5 with ⟨a,_,rfl⟩ | ⟨b,cap,arr,k1,k2,k3,k4,k5,k6,k7,k8,k9,_⟩
 ·simp at hi
 obtain⟨val,Bs,m1,m2,m3⟩:=k7;have hxs:xs.getD i []=xs[i]:=by simp[hi]
 have hxl:xs[i].length=z:=h2 _ (A_ _);have hrows:∀i',i'<xs.length->(i'+1) * z<=arr.size:=fun i' hi'=>by
  rw[k6];exact j_ _ (by omega)
 have hrow:=hrows i hi;rw[y_,Nat.one_mul] at hrow;have hblk:(O.tree q z e xs B none).block E r b:=.inl (by
  have:=r_.2 k3;rw[k1];simp[ownB];omega)
 refine⟨b,cap,arr,k1,k2,by omega,fun arr' ha hget=>?_⟩;have hpv:=h.pv r _ b ho hblk;have hlb:=h.lt r _ b ho hblk;have hl:Le E (E.setRow b arr'):=R7 hpv k9;have hother:∀b',b'≠b->(E.setRow b arr').w.heap[b']? = E.w.heap[b']?:=fun b' hb'=>setRow_other E.w b b' _ hb';have hfar:∀k,k<ds.length->∀b',Bk k b'->¬B b'/\b'≠b:=fun k hkl b' hb'=>by
  obtain⟨_,_,_,hf⟩:=(hc k ds[k] (vs[k]'(by omega)) (b_ _) (b_ _)).free b' hb';have:=hf r _ ho;exact⟨fun hB=>this (.inr hB),fun e=>this (by rw[e];exact hblk)⟩
 let B':Nat->Prop:=fun b'=>B b'\/∃k,k<ds.length/\Bk k b'
 let inR:Nat->Nat->Prop:=fun i' j'=>i'=i/\off<=j'/\j'<off+ds.length
 refine⟨B',hl,h.turn (r0:=r) (o0:=.tree q z e (xs.set i ((xs.getD i []).take off++ds++(xs.getD i []).drop (off+ds.length))) B' none) hl (by simp[Env.setRow,h.N]) (fun r' hr'=>?_) (fun o' ho'=>?_) (fun _ _ _=>rfl) (fun r' o' b' hr' ho' hb=>?_) (fun _ hb=>hb) (fun b' i' hs=>?_) ?_ (fun b' hb=>?_)⟩
 ·rw[f_ (fun e=>hr' e.symm)]
 ·rw[e_ (a_.1 ho).1] at ho'
  exact(Option.some.inj ho').symm
 ·exact⟨hother b' (fun e=>hr' (h.apart r' r o' _ b' ho' ho hb (by rw[e];exact hblk))),fun i hs=>hs⟩
 ·have:=h.Slt b' i' hs
  simpa[Env.setRow] using this
 ·have hlen':((xs.getD i []).take off++ds++(xs.getD i []).drop (off+ds.length)).length=z:=by rw[hxs];simp;omega
  refine⟨h1,fun x hx=>?_,h3,fun b' hb'=>?_,.inr ⟨b,cap,arr',by simpa[Env.setRow] using k1,setRow_heap _ _ _ _ _ _ k2,by intro e;apply k3;simpa using e,by simpa using k4,k5,by rw[ha];exact k6,?_,?_,k9,trivial⟩⟩
  ·rcases F_ hx with hx | rfl
   ·exact h2 x hx
   ·exact hlen'
  ·rcases hb' with hb' | ⟨k,hkl,hb'⟩
   ·exact h4 b' hb'
   ·exact((hc k ds[k] (vs[k]'(by omega)) (b_ _) (b_ _)).free b' hb').2.2.1
  ·refine⟨fun i' j'=>if i'=i/\off<=j'/\j'<off+ds.length then vs.getD (j' - off) undef else val i' j',fun i' j' b'=>if i'=i/\off<=j'/\j'<off+ds.length then Bk (j' - off) b' else Bs i' j' b',fun i' j' x' c hx' hc'=>?_,fun i' j' b' hb'=>?_,fun i1 j1 i2 j2 b' hb1 hb2=>?_⟩
   ·have hi'l:i'<xs.length:=by have:=(a_.1 hx').1;simpa using this
    by_cases e:i'=i
    ·subst e
     rw[e_ hi'l] at hx';cases hx';have hj':j'<z:=by rw[<-hlen'];exact(a_.1 hc').1
     rw[hget];by_cases hr:off<=j'/\j'<off+ds.length
     ·have hd:ds[j' - off]? = some c:=by
       rw[hxs,q_,c_ (by simp;omega),d_ (by simp;omega)] at hc';rw[<-hc'];congr 1;simp;omega
      have hvk:vs[j' - off]? = some (vs[j' - off]'(by omega)):=b_ _;rw[if_pos (by omega)];simp only[hr,and_self,if_true,true_and];have hcell:=hc _ c _ hd hvk;rw[show i' * z+j' - (i' * z+off)=j' - off by omega,hvk,E_,hvk];refine⟨rfl,hcell.one,fun _=>hcell.tr.keep (fun b' hb'=>hother b' (hfar _ (by omega) b' hb').2)⟩
     ·have hx0:xs[i'][j']? = some c:=by
       rw[hxs,q_] at hc';by_cases hlt:j'<off
       ·rw[d_ (by simp;omega),v_,if_pos hlt] at hc';exact hc'
       ·rw[c_ (by simp;omega),c_ (by simp;omega),w_] at hc'
        rw[<-hc'];congr 1;simp;omega
      rw[if_neg (by omega)];simp only[hr,and_false,if_false];obtain⟨n1,n2,n3⟩:=m1 i' j' _ c (b_ hi'l) hx0;exact⟨n1,n2,fun hl=>(n3 hl).keep (fun b' hb'=>hother b' (fun e=>k8 (by rw[<-e];exact m2 i' j' b' hb')))⟩
    ·rw[f_ (fun h=>e h.symm)] at hx'
     have hj':j'<z:=by rw[<-h2 x' (m_ hx')];exact(a_.1 hc').1
     have hnr:¬(i * z+off<=i' * z+j'/\i' * z+j'<i * z+off+vs.length):=fun hr=>by
      obtain⟨d,hd⟩:∃d,i' * z+j'=i * z+(off+d)/\off+d<z:=⟨i' * z+j' - (i * z+off),by omega,by omega⟩;exact e (aL0 hj' hd.2 hd.1).1
     rw[hget,if_neg hnr];simp only[e,false_and,if_false];obtain⟨n1,n2,n3⟩:=m1 i' j' _ c hx' hc';exact⟨n1,n2,fun hl=>(n3 hl).keep (fun b' hb'=>hother b' (fun e=>k8 (by rw[<-e];exact m2 i' j' b' hb')))⟩
   ·simp only at hb'
    split at hb'
    ·rename_i hr;exact .inr ⟨j' - off,by omega,hb'⟩
    ·exact .inl (m2 i' j' b' hb')
   ·simp only at hb1 hb2
    split at hb1<;>split at hb2
    ·rename_i a1 a2
     have:=hk _ _ b' hb1 hb2;omega
    ·rename_i a1 a2
     exact absurd (m2 _ _ _ hb2) (hfar _ (by omega) b' hb1).1
    ·rename_i a1 a2
     exact absurd (m2 _ _ _ hb1) (hfar _ (by omega) b' hb2).1
    ·exact m3 _ _ _ _ _ hb1 hb2
  ·rintro (hB | ⟨k,hkl,hB⟩)
   ·exact k8 hB
   ·exact(hfar k hkl b hB).2 rfl
 ·rcases hb with hb | hb | ⟨k,hkl,hb⟩
  ·have hb':(O.tree q z e xs B none).block E r b':=.inl hb
   exact⟨h.pv r _ b' ho hb',by simpa[Env.setRow] using h.lt r _ b' ho hb',fun r' o' hr' ho' hbb=>hr' (h.apart r' r o' _ b' ho' ho hbb hb')⟩
  ·have hb':(O.tree q z e xs B none).block E r b':=.inr hb
   exact⟨h.pv r _ b' ho hb',by simpa[Env.setRow] using h.lt r _ b' ho hb',fun r' o' hr' ho' hbb=>hr' (h.apart r' r o' _ b' ho' ho hbb hb')⟩
  ·obtain⟨n1,n2,n3,n4⟩:=(hc k ds[k] (vs[k]'(by omega)) (b_ _) (b_ _)).free b' hb
   exact⟨n1,by simpa[Env.setRow] using n2,fun r' o' hr' ho'=>n4 r' o' ho'⟩
theorem RepH.lendT {E:Env} {H:List O} (h:RepH E H) {r q z e:Nat} {xs:List (List D)} {B:Nat->Prop} (ho:H[r]? = some (.tree q z e xs B none)) {i off:Nat} {x:List D} {kid:List (List D)}
  (hx:xs[i]? = some x) (hc:x[off]? = some (.sl kid)) (hne:kid≠[]) :
  ∃ b cap arr v,(E.τ r).2=.slice (some ⟨b,0,none⟩) xs.length cap/\E.w.heap[b]? = some (.cells arr e (0,0))/\arr[i * z+off]? = some v/\v.oneCell'=true /\
   ∃zk e' B1 B2,(∀y,y∈kid->y.length=zk)/\Le E (E.named 0 v) /\
    RepH (E.named 0 v) ((H.set r (.tree q z e xs B1 (some (i,off,H.length,0))))++[.tree 0 zk e' kid B2 none]):=by
 have hrl:r<H.length:=(a_.1 ho).1;obtain⟨h1,h2,h3,h4,h5⟩:=h.obj r _ ho;rcases h5 with ⟨a,_,rfl⟩ | ⟨b,cap,arr,k1,k2,k3,k4,k5,k6,k7,k8,k9,_⟩
 ·simp at hx
 obtain⟨val,Bs,m1,m2,m3⟩:=k7;obtain⟨n1,n2,n3⟩:=m1 i off x _ hx hc;have n3:=n3 (fun h=>h);have hblk:(O.tree q z e xs B none).block E r b:=.inl (by
  have:=r_.2 k3;rw[k1];simp[ownB];omega)
 have hkill:=h.kill r
 -- the kid,loose
 obtain⟨zk,e',B2,hkz,hloose,hB2⟩:∃zk e' B2,(∀y,y∈kid->y.length=zk)/\Loose E (H.set r .dead) zk e' kid (val i off) B2/\∀b',(ownB (val i off)=some b'\/B2 b')->Bs i off b':=by
  have hfree:bd8 E (H.set r .dead) (Bs i off):=fun b' hb'=>by
   have hb2:(O.tree q z e xs B none).block E r b':=.inr (m2 i off b' hb');refine⟨h.pv r _ b' ho hb2,h.lt r _ b' ho hb2,h4 b' (m2 i off b' hb'),fun r' o' ho' hbb=>?_⟩;by_cases er:r=r'
   ·subst er
    rw[e_ hrl] at ho';cases ho';exact hbb
   ·rw[f_ er] at ho'
    exact er (h.apart r r' _ o' b' ho ho' hb2 hbb)
  generalize hv:val i off=v at n3 |-;generalize hB:Bs i off=Bv at n3 hfree |-;cases n3 with
  | nil a cap=>exact absurd rfl hne
  | sl b2 cap2 z2 e2 _ arr2 val2 Bs2 hne2 h02 hcap2 hmax2 hz2 hb2 hsz2 hv2 hr2 hself2 hdis2 =>
   have hBB:∀b',(ownB (.slice (some ⟨b2,0,none⟩) kid.length cap2)=some b'\/∃i j x c,kid[i]? = some x/\x[j]? = some c/\Bs2 i j b')->b'=b2\/∃i j x c,kid[i]? = some x/\x[j]? = some c/\Bs2 i j b':=by
    rintro b' (hb' | hb')
    ·left
     simp only[ownB] at hb';split at hb'
     ·cases hb'
     ·cases hb';rfl
    ·exact .inr hb'
   refine⟨z2,e2,fun b'=>∃i j x c,kid[i]? = some x/\x[j]? = some c/\Bs2 i j b',hz2,⟨.inr ⟨b2,cap2,arr2,rfl,hb2,hne,hcap2,hmax2,hsz2,?_,?_⟩,hz2,h02,hfree.mono hBB⟩,hBB⟩
   ·refine⟨val2,fun i j b'=>Bs2 i j b'/\∃x c,kid[i]? = some x/\x[j]? = some c,fun i j x c hi hj=>⟨(hv2 i j x c hi hj).1,(hv2 i j x c hi hj).2,fun _=>?_⟩,fun i j b' ⟨hb',x,c,hi,hj⟩=>⟨i,j,x,c,hi,hj,hb'⟩,fun i j i' j' b' ⟨hb1,_⟩ ⟨hb2,_⟩=>hdis2 i j i' j' b' hb1 hb2⟩
    have:=hr2 i j x c hi hj;have e1:(fun b'=>Bs2 i j b'/\∃x c,kid[i]? = some x/\x[j]? = some c)=Bs2 i j:=by
     funext b';exact propext ⟨fun h=>h.1,fun h=>⟨h,x,c,hi,hj⟩⟩
    dsimp only;rw[e1];exact this
   ·rintro ⟨i,j,x,c,hi,hj,hb'⟩;exact hself2 i j hb'
 obtain⟨hl,hH1⟩:=hkill.giveT (q:=0) hloose;have hN:E.N=H.length:=h.N;have hτr:(E.named 0 (val i off)).τ r=E.τ r:=by simp only[Env.named];rw[if_neg (by omega)]
 have hτN:(E.named 0 (val i off)).τ H.length=(0,val i off):=by simp[Env.named,hN]
 refine⟨b,cap,arr,val i off,k1,k2,n1,n2,zk,e',fun b'=>B b'/\¬Bs i off b',B2,hkz,hl,?_⟩;have hlen:(H.set r O.dead).length=H.length:=by simp
 have hset:(H.set r (O.tree q z e xs (fun b'=>B b'/\¬Bs i off b') (some (i,off,H.length,0))))++[O.tree 0 zk e' kid B2 none]=(H.set r O.dead++[O.tree 0 zk e' kid B2 none]).set r (O.tree q z e xs (fun b'=>B b'/\¬Bs i off b') (some (i,off,H.length,0))):=by
  rw[List.set_append,if_pos (by simpa using hrl),List.set_set]
 rw[hset];have hat:∀r',r'<H.length->r'≠r->(H.set r .dead++[O.tree 0 zk e' kid B2 none])[r']? = H[r']?:=fun r' hr' hne=>by
  rw[d_ (by simpa using hr'),f_ (Ne.symm hne)]
 refine hH1.turn (r0:=r) (Le.refl _) (by rw[List.length_set];exact hH1.N) (fun r' hr'=>by rw[f_ (Ne.symm hr')]) (fun o' ho'=>?_) (fun _ _ _=>rfl) (fun r' o' b' hr' ho' hb=>⟨rfl,fun i hs=>hs⟩) (fun _ hb=>hb) (fun b' i hs=>hH1.Slt b' i hs) (o0:=.tree q z e xs (fun b'=>B b'/\¬Bs i off b') (some (i,off,H.length,0))) ?_ (fun b' hb=>?_)
 ·rw[e_ (by simp;omega)] at ho'
  exact(Option.some.inj ho').symm
 ·refine⟨by rw[hτr];exact h1,h2,h3,fun b' hb'=>h4 b' hb'.1,.inr ⟨b,cap,arr,by rw[hτr];exact k1,k2,k3,k4,k5,k6,⟨val,fun i' j' b'=>Bs i' j' b'/\¬(i'=i/\j'=off),fun i' j' x' c hi hj=>?_,fun i' j' b' ⟨hb',hne'⟩=>⟨m2 i' j' b' hb',fun hb2=>hne' (m3 i' j' i off b' hb' hb2)⟩,fun i1 j1 i2 j2 b' hb1 hb2=>m3 i1 j1 i2 j2 b' hb1.1 hb2.1⟩,fun hb'=>k8 hb'.1,k9,?_⟩⟩
  ·obtain⟨g1,g2,g3⟩:=m1 i' j' x' c hi hj
   refine⟨g1,g2,fun hl'=>?_⟩;have e1:(fun b'=>Bs i' j' b'/\¬(i'=i/\j'=off))=Bs i' j':=by
    funext b';exact propext ⟨fun h=>h.1,fun h=>⟨h,hl'⟩⟩
   dsimp only;rw[e1];exact g3 (fun h=>h)
  ·refine⟨by simp[Env.named,hN],by rw[hτN];exact k_ _,fun _=>by rw[hτN];exact n1⟩
 ·have hb0:(O.tree q z e xs B none).block E r b':=by
   rcases hb with hb | hb
   ·rw[hτr] at hb;exact .inl hb
   ·exact .inr hb.1
  refine⟨h.pv r _ b' ho hb0,h.lt r _ b' ho hb0,fun r' o' hr' ho' hbb=>?_⟩;by_cases hlt:r'<H.length
  ·rw[hat r' hlt hr'] at ho'
   have hτ':(E.named 0 (val i off)).τ r'=E.τ r':=by simp only[Env.named];rw[if_neg (by omega)]
   rw[O.block_same (E:=E) (E':=E.named 0 (val i off)) rfl hτ'] at hbb;exact hr' (h.apart r' r o' _ b' ho' ho hbb hb0)
  ·have:r'=H.length:=by
    have:=(a_.1 ho').1;simp at this;omega
   subst this;rw[c_ (by simp)] at ho';simp at ho';subst ho';simp only[O.block,hτN] at hbb;have hbs:=hB2 b' hbb;rcases hb with hb | hb
   ·rw[hτr,k1] at hb
    simp only[ownB] at hb;split at hb
    ·cases hb
    ·cases hb;exact k8 (m2 i off b hbs)
   ·exact hb.2 hbs
def ACalls (P:Program) (f:FuncId) (args:List C) (H:List O) (R:C->List O->Prop):Prop:=
 ∀(E:Env) (vs:Array Value),RepH E H->vs.size=args.length->(∀(i:Nat) (c:C) (v:Value),args[i]? = some c->vs[i]? = some v->Rd E c v) ->
  Calls P f vs E.w fun e w'=>∃v r E' H',e=.returned v/\E'.w=w'/\RepH E' H'/\Le E E'/\Rd E' r v/\H'.length=H.length/\R r H'
theorem ACalls.mono {P:Program} {f:FuncId} {args:List C} {H:List O} {R R':C->List O->Prop} (h:ACalls P f args H R) (hr:∀r H',R r H'->R' r H'):ACalls P f args H R':=
 fun E vs hH hs ha=>(h E vs hH hs ha).mono fun _ _ ⟨v,r,E',H',h1,h2,h3,h4,h5,h6,h7⟩=>⟨v,r,E',H',h1,h2,h3,h4,h5,h6,hr _ _ h7⟩
def al2 (P:Program) (f:FuncId) (args:List C) (H:List O) (K:C->List O->Prop):Prop:=
 ∀(E:Env) (vs:Array Value),RepH E H->vs.size=args.length->(∀(i:Nat) (c:C) (v:Value),args[i]? = some c->vs[i]? = some v->Rd E c v) ->
  ∃v E' c H',(callFunc f vs).run P E.w=.ok (.value v) E'.w/\RepH E' H'/\Le E E'/\Rd E' c v/\K c H'
def isGo (P:Program) (f:FuncId):Bool:=match P.funcs[f]? with
 | some fn=>fn.body.isSome && !(fn.name == "runtime.NumGoroutine")
 | none=>false
def G9 (s:St):C->Option (List D)
 | .d (.agg ds)=>some ds
 | c=>bz6 ((cellsOf c).map (J3 s))
def ca3 (K:List (List D)->Prop) (ds:List D):List (List D)->Prop:=fun l=>K (ds :: l)
def kSl (K:C->List O->Prop) (n:Nat) (H:List O):List (List D)->Prop:=fun l=>K (if n=0 then .nil0 else .d (.sl l)) H
def kAt (K:C->List O->Prop) (H:List O):C->Prop:=fun c=>K c H
def E9 (s:St) (z:Nat) (K:List (List D)->Prop):List (Nat×Operand)->Nat->Prop
 | [],_=>K []
 | (i,x) :: r,k=>i=k/\l5 x=true/\N9 (ev s x)=true /\
  (match G9 s (ev s x) with
  | some ds=>ds.length=z/\E9 s z (ca3 K ds) r (k+1)
  | none=>False)
def af2 (P:Program) (s:St) (t:TypeId) (p x:C) (K:List O->Prop):Prop:=
 match D9 P t with
 | some n=>N9 x=true/\(cellsOf x).length=n /\
  (match p with
  | .ptr r off =>
   match s.H[r]? with
   | some (.box cs)=>off+n<=cs.length/\K (s.H.set r (.box (cs.take off++cellsOf x++cs.drop (off+n))))
   | _=>False
  | .eptr r z i off =>
   match s.H[r]?,G9 s x with
   | some (.row z' e xs),some ds=>z=z'/\i<xs.length/\off+n<=z/\ds.length=n /\
     K (s.H.set r (.row z e (xs.set i ((xs.getD i []).take off++ds++(xs.getD i []).drop (off+n)))))
   | _,_=>False
  | .tptr r q z i off =>
   match F3 s.H (cellsOf x) with
   | some (ds,H1) =>
    (match H1[r]? with
    | some (.tree q' z' e xs _ none)=>q=q'/\z=z'/\i<xs.length/\off+n<=z /\
      ∀B',K (H1.set r (.tree q z e (xs.set i ((xs.getD i []).take off++ds++(xs.getD i []).drop (off+n))) B' none))
    | _=>False)
   | none=>False
  | _=>False)
 | none=>False
def U7 (P:Program) (s:St) (t u:TypeId) (x y:C) (K:C->List O->Prop):Prop:=
 match D6 P t with
 | some (e,z,by_) =>
  (match J3 s y with
  | .d (.sl ys)=>(P.underlying u).isSome=true/\q9 P u=true/\(∀y',y'∈ys->y'.length=z) /\
   (match x with
   | .nil0=>ys.length<=maxLen/\ys.length * by_<=140737488355328/\K (.own s.H.length 1) (s.H++[.grow 1 z e ys])
   | .own r q =>
    (match s.H[r]? with
    | some (.grow q' z' e' xs)=>q=q'/\z=z'/\e=e'/\xs.length+ys.length<=maxLen/\(xs.length+ys.length) * by_<=140737488355328 /\
      K (.own r (q+1)) (s.H.set r (.grow (q+1) z e (xs++ys)))
    | some (.buf q' z' e' xs)=>q=q'/\z=z'/\e=e'/\xs.length+ys.length<=maxLen/\(xs.length+ys.length) * by_<=140737488355328 /\
      K (.own r (q+1)) (s.H.set r (.buf (q+1) z e (xs++ys)))
    | _=>False)
   | _=>False)
  | .d (.str l)=>F9 P u=true/\z=1 /\
   (match x with
   | .nil0=>l.length<=maxLen/\l.length * by_<=140737488355328/\K (.own s.H.length 1) (s.H++[.grow 1 z e (l.map fun b=>[.int .u8 b.toNat])])
   | .own r q =>
    (match s.H[r]? with
    | some (.grow q' z' e' xs)=>q=q'/\z=z'/\e=e'/\xs.length+l.length<=maxLen/\(xs.length+l.length) * by_<=140737488355328 /\
      K (.own r (q+1)) (s.H.set r (.grow (q+1) z e (xs++l.map fun b=>[.int .u8 b.toNat])))
    | some (.buf q' z' e' xs)=>q=q'/\z=z'/\e=e'/\xs.length+l.length<=maxLen/\(xs.length+l.length) * by_<=140737488355328 /\
      K (.own r (q+1)) (s.H.set r (.buf (q+1) z e (xs++l.map fun b=>[.int .u8 b.toNat])))
    | _=>False)
   | _=>False)
  | _=>False)
 | none=>False
def ar8 (P:Program) (s:St) (t:TypeId) (x:C) (K:C->List O->Prop):Prop:=
 match D6 P t,x with
 | some (e,z,by_),.d (.int .i64 m) =>
  (match (N8 P e).bind bU6 with
  | some zs=>zs.length=z/\0<=m/\m<=maxLen/\m * by_<=281474976710656/\K (.rsl s.H.length m.toNat) (s.H++[.row z e (List.replicate m.toNat zs)])
  | none=>False)
 | _,_=>False
def Q0 (P:Program) (s:St) (t:TypeId) (m k v:C) (K:List O->Prop):Prop:=
 match m,k,v with
 | .map r,.d kd,.d vd =>
  (match s.H[r]?,bo3 P t with
  | some (.map sk es),some (sk',_)=>sk=sk'/\am7 sk kd=true/\vd.cell=true/\K (s.H.set r (.map sk (am3 es kd vd)))
  | _,_=>False)
 | _,_,_=>False
def af3 (s:St) (x:C) (K:C->List O->Prop):Prop:=
 match x with
 | .map r =>
  (match s.H[r]? with
  | some (.map _ es)=>K (.ptr s.H.length 0) (s.H++[.iter r es.length es.length []])
  | _=>False)
 | _=>False
def aI4 (es:List (D×D)) (seen:List Nat) (e:Unit->Prop) (g:Nat->D×D->Prop):Prop:=
 ((∀i,i<es.length->i∈seen)->e ())/\∀i p,es[i]? = some p->i∉seen->g i p
theorem aI3 {es:List (D×D)} {seen:List Nat} {e:Unit->Prop} {g:Nat->D×D->Prop} (h:(∀i,i<es.length->i∈seen)->e ()) (k:∀i p,es[i]? = some p->i∉seen->g i p):aI4 es seen e g:=⟨h,k⟩
def ar7 (s:St) (x:C) (K:C->List O->Prop):Prop:=
 match x with
 | .ptr r 0 =>
  (match s.H[r]? with
  | some (.iter m since c0 seen) =>
   (match s.H[m]? with
   | some (.map _ es)=>since=es.length/\c0=es.length/\aI4 es seen (fun _=>K (.tup [.d (.bool false)]) s.H)
     (fun i p=>K (.tup [.d (.bool true),.d p.1,.d p.2]) (s.H.set r (.iter m since es.length (seen++[i]))))
   | _=>False)
  | _=>False)
 | _=>False
def bh4 (H:List O) (r q z e:Nat) (xs:List (List D)) (i off:Nat) (K:C->List O->Prop):D->Prop
 | .sl kid=>(kid=[]->K (.d (.sl [])) H)/\(kid≠[]->∀zk e' B1 B2,(∀y,y∈kid->y.length=zk) ->
   K (.own H.length 0) ((H.set r (.tree q z e xs B1 (some (i,off,H.length,0))))++[.tree 0 zk e' kid B2 none]))
 | .agg _=>False
 | .fset _=>False
 | .any=>False
 | .int k n=>K (.d (.int k n)) H
 | .bool b=>K (.d (.bool b)) H
 | .str s=>K (.d (.str s)) H
 | .raw _=>False
def aJ4 (P:Program) (s:St) (t:TypeId) (r q z i off:Nat) (K:C->List O->Prop):Prop:=
 match s.H[r]? with
 | some (.tree q' z' e xs _ none)=>q=q'/\z=z'/\i<xs.length/\off<z/\tAgg P t=some false/\idx xs i (fun x=>idx x off (bh4 s.H r q z e xs i off K))
 | _=>False
def K8 (P:Program) (s:St) (o:Oper) (K:C->List O->Prop):Prop:=
 match o.op with
 | .box _ x=>l5 x=true/\N9 (ev s x)=true/\K (.ptr s.H.length 0) (s.H++[.box (cellsOf (ev s x))])
 | .alloc e=>(match N8 P e with | some z=>K (.ptr s.H.length 0) (s.H++[.box (z.map cv1)]) | none=>False)
 | .store t p x=>l5 p=true/\l5 x=true/\af2 P s t (ev s p) (ev s x) (K .top)
 | .buildSlice t n ps=>(match D6 P t with
  | some (_,z,_)=>n * z<=16777216/\ps.size=n/\E9 s z (kSl K n s.H) ps.toList 0
  | none=>False)
 | .makeSlice t x y=>x=y/\l5 x=true/\ar8 P s t (ev s x) K
 | .makeMap t none=>(match bo3 P t with | some (sk,_)=>K (.map s.H.length) (s.H++[.map sk []]) | none=>False)
 | .insert t m k v=>l5 m=true/\l5 k=true/\l5 v=true/\Q0 P s t (ev s m) (J3 s (ev s k)) (J3 s (ev s v)) (K .top)
 | .mapUpdate t m k v=>l5 m=true/\l5 k=true/\l5 v=true/\Q0 P s t (ev s m) (J3 s (ev s k)) (J3 s (ev s v)) (K .top)
 | .range t x=>l5 x=true/\aA4 P t=true/\af3 s (ev s x) K
 | .next x false=>l5 x=true/\ar7 s (ev s x) K
 | .call c =>
  (match c.callee with
  | .builtin .append=>(match c.args.toList,c.argTypes.toList with
   | [x,y],[t,u]=>l5 x=true/\l5 y=true/\U7 P s t u (ev s x) (ev s y) K
   | _,_=>False)
  | .value f=>l5 f=true/\(c.args.all l5)=true/\(match ev s f with
   | .fn g caps=>isGo P g=true/\ACalls P g (c.args.toList.map (fun x=>norm s (ev s x))++caps) s.H K
   | .xfn g caps=>al2 P g (c.args.toList.map (fun x=>norm s (ev s x))++caps) s.H K
   | _=>False)
  | _=>o6 P s o.op (kAt K s.H))
 | .load t x=>(match ev s x with
  | .tptr r q z i off=>l5 x=true/\aJ4 P s t r q z i off K
  | _=>o6 P s o.op (kAt K s.H))
 | _=>o6 P s o.op (kAt K s.H)
def G6 (P:Program) (s:St) (o:Oper) (K:C->List O->Prop):Prop:=
 ∀E n a,RepSt E n s a->o.wp P a E.w (fun a' w'=>∃v E' c H',a'=a.put o.dst v/\E'.w=w'/\Rd E' c v/\RepH E' H'/\Le E E'/\K c H') (fun _ _ _=>False)
section
variable {P:Program}
theorem Q4 {s:St} {o:Oper} {K:C->List O->Prop} (h:o6 P s o.op (kAt K s.H)):G6 P s o K:=by
 obtain⟨c,hk,hall⟩:=an6 h;intro E n a hst;obtain⟨v,h1,h2⟩:=hall E n a hst;unfold Oper.wp;rw[h1];exact⟨v,E,c,s.H,rfl,rfl,h2,hst.heap,Le.refl E,hk⟩
theorem bx2 {s:St} {o:Oper} {K:C->List O->Prop} {t:TypeId} {x:Operand} (ho:o.op=.box t x) (hx:l5 x=true) (hc:N9 (ev s x)=true)
  (hk:K (.ptr s.H.length 0) (s.H++[.box (cellsOf (ev s x))])):G6 P s o K:=by
 intro E n a hst;have hf:=Q6 (o9 hst x hx) hc;unfold Oper.wp execOp;simp only[ho,Instr.box,newVar,newRow,Sem.run_bind,run_newObj,Result.andThen_ok,Sem.run_pure,Oper.upon];refine⟨_,E.newObj (.cells (a.eval x).cells t),_,_,rfl,rfl,?_,aB1 hst.heap hf,L6 hst.heap _,hk⟩;have e1:(⟨E.w.heap.size,0,none⟩:Addr)=⟨(E.newObj (.cells (a.eval x).cells t)).β s.H.length,0,none⟩:=by
  simp[Env.newObj,hst.heap.N]
 rw[e1];exact .ptr _ _ (by simp[Env.newObj,hst.heap.N])
theorem aV5 {s:St} {o:Oper} {K:C->List O->Prop} {t:TypeId} (ho:o.op=.alloc t)
  (h:match N8 P t with | some z=>K (.ptr s.H.length 0) (s.H++[.box (z.map cv1)]) | none=>False):G6 P s o K:=by
 intro E n a hst;split at h
 ·rename_i z hz
  unfold N8 at hz;cases hi:P.info? t with
  | none=>simp[hi] at hz
  | some i =>
   cases hv:i.zero with
   | none=>simp[hi,hv] at hz
   | some zv =>
    simp only[hi,hv,x_] at hz;split at hz
    ·rename_i hone
     simp only[Option.some.injEq] at hz;subst hz;have hf:Fits E (zv.cells.toList.map cv1) zv.cells:=by
      refine⟨by simp,fun i c v hc hv=>?_⟩;simp only[p_,i_,hv,D_,Option.some.injEq] at hc;subst hc;refine⟨aL3 E v,?_⟩;obtain⟨hlt,rfl⟩:=u_.1 hv;simp only[Array.all_eq_true] at hone;exact hone i hlt
     unfold Oper.wp execOp;simp only[ho,Instr.alloc,zeroValue,typeInfo,run_program,hi,hv,newVar,newRow,Sem.run_bind,run_newObj,Result.andThen_ok,Sem.run_pure,Oper.upon];refine⟨_,E.newObj (.cells zv.cells t),_,_,rfl,rfl,?_,aB1 hst.heap hf,L6 hst.heap _,h⟩;have e1:(⟨E.w.heap.size,0,none⟩:Addr)=⟨(E.newObj (.cells zv.cells t)).β s.H.length,0,none⟩:=by
      simp[Env.newObj,hst.heap.N]
     rw[e1];exact .ptr _ _ (by simp[Env.newObj,hst.heap.N])
    ·simp at hz
 ·exact h.elim
end
section
variable {P:Program} {E:Env}
theorem aR4 {s:St} {n:Nat} {a:Act} (hst:RepSt E n s a) {c:C} {v:Value} (hr:Rd E c v) (hok:N9 c=true) {ds:List D} (h:G9 s c=some ds) :
  v.cells.size=ds.length/\∀(i:Nat) (d:D) (u:Value),ds[i]? = some d->v.cells[i]? = some u->RdD E.w E.S d u/\u.oneCell'=true:=by
 have main:bz6 ((cellsOf c).map (J3 s))=some ds->v.cells.size=ds.length/\∀(i:Nat) (d:D) (u:Value),ds[i]? = some d->v.cells[i]? = some u->RdD E.w E.S d u/\u.oneCell'=true:=by
  intro h;obtain⟨h1,h2⟩:=Q6 hr hok;have e:=aE2 h;have hl:=congrArg List.length e;simp at hl;refine⟨by omega,fun i d u hd hu=>?_⟩;have h3:((cellsOf c).map (J3 s))[i]? = some (.d d):=by rw[e];simp[hd]
  simp only[p_,o_] at h3;obtain⟨c0,h4,h5⟩:=h3;obtain⟨h6,h7⟩:=h2 i c0 u h4 hu;have:=q8 hst h6;rw[h5] at this;cases this with
  | d _ _ hd=>exact⟨hd,h7⟩
 unfold G9 at h;split at h
 ·rename_i ds'
  simp only[Option.some.injEq] at h;subst h;cases hr with
  | d _ _ hd =>
   cases hd with
   | agg _ vs hl h1 hr=>exact⟨by simpa[Value.cells] using hl,fun i d u hd hu=>⟨hr i d u hd hu,h1 i u hu⟩⟩
 ·exact main h
theorem O5 {arr:Array Value} {off:Nat} {vs:Array Value} (h:off+vs.size<=arr.size) :
  (arr.toList.take off++vs.toList++arr.toList.drop (off+vs.toList.length)).toArray.size=arr.size /\
  ∀k,(arr.toList.take off++vs.toList++arr.toList.drop (off+vs.toList.length)).toArray[k]? = if off<=k/\k<off+vs.size then vs[k - off]? else arr[k]?:=by
 refine⟨by simp;omega,fun k=>?_⟩;rw[List.getElem?_toArray,q_];by_cases h1:k<off
 ·rw[d_ (by simp;omega),v_,if_pos h1,if_neg (by omega),i_]
 ·rw[c_ (by simp;omega)]
  have hmin:min off arr.size=off:=by omega
  simp only[z_,n_,hmin];by_cases h2:k<off+vs.size
  ·rw[d_ (by simp;omega),if_pos (by omega),i_]
  ·rw[c_ (by simp;omega),if_neg (by omega),w_,i_]
   congr 1;simp;omega
theorem Z0 {t:TypeId} {n b off:Nat} {e:TypeId} {arr:Array Value} {v:Value} (hn:D9 P t=some n) (hv:v.cells.size=n) (h1:∀(i:Nat) (u:Value),v.cells[i]? = some u->u.oneCell'=true)
  (hb:E.w.heap[b]? = some (.cells arr e (0,0))) (hle:off+n<=arr.size) :
  (Instr.storeAt t (.pointer (some ⟨b,off,none⟩)) v).run P E.w=.ok () (E.w.setRow b (arr.toList.take off++v.cells.toList++arr.toList.drop (off+v.cells.toList.length)).toArray):=by
 have hst:=run_storeCells_at P b off e v.cells.toList 0 arr E.w hb (by simp;omega) (fun u hu=>by
  obtain⟨i,hi⟩:=J_.1 hu;exact h1 i u (by simpa using hi))
 simp only[t_] at hst;simp[Instr.storeAt,Instr.sureAddr,storeVar,run_sizeOf hn,hv,hst]
theorem aV2 {s:St} {o:Oper} {K:C->List O->Prop} {t:TypeId} {p x:Operand} (ho:o.op=.store t p x) (hp:l5 p=true) (hx:l5 x=true)
  (h:af2 P s t (ev s p) (ev s x) (K .top)):G6 P s o K:=by
 unfold af2 at h;split at h
 ·rename_i n hn
  obtain⟨hok,hlen,h⟩:=h;intro E ns a hst;have hfx:=Q6 (o9 hst x hx) hok;have hone:∀(i:Nat) (u:Value),(a.eval x).cells[i]? = some u->u.oneCell'=true:=fun i u hu=>by
   have hi:i<(cellsOf (ev s x)).length:=by rw[<-hfx.1];exact(u_.1 hu).1
   exact(hfx.2 i _ u (b_ hi) hu).2
  have hpv:=o9 hst p hp;split at h
  ·rename_i r off hpe
   split at h
   ·rename_i cs hr
    obtain⟨hle,hk⟩:=h;rw[hpe] at hpv;generalize hg:a.eval p=pv at hpv;cases hpv with
    | ptr _ _ hrN =>
     obtain⟨arr,e,h1,h2,h3,h4⟩:=hst.heap.obj r _ hr;have hrun:=Z0 (P:=P) hn (by rw[hfx.1,hlen]) hone h1 (off:=off) (by omega);generalize hnew:(arr.toList.take off++(a.eval x).cells.toList++arr.toList.drop (off+(a.eval x).cells.toList.length)).toArray=arr' at hrun;have hcells:=O5 (arr:=arr) (off:=off) (vs:=(a.eval x).cells) (by rw[hfx.1,hlen];omega);rw[hnew] at hcells;have hl0:Le E (E.setRow (E.β r) arr'):=R7 (hst.heap.pv r _ _ hr rfl) h4;obtain⟨hl,hH⟩:=aA9 hst.heap (o0:=.box (cs.take off++cellsOf (ev s x)++cs.drop (off+n))) (arr:=arr') hr rfl (fun _ _ h=>h) h4 (by
      refine⟨arr',e,setRow_heap _ _ _ _ _ _ h1,by rw[hcells.1,h2];simp;omega,fun i c v hc hv=>?_,h4⟩;rw[hcells.2] at hv;rw[q_] at hc;by_cases hi:off<=i/\i<off+(a.eval x).cells.size
      ·rw[if_pos hi] at hv
       rw[c_ (by simp;omega),d_ (by simp;rw[<-hfx.1];omega)] at hc;simp only[z_] at hc;rw[show min off cs.length=off by omega] at hc;obtain⟨k1,k2⟩:=hfx.2 _ c v hc hv;exact⟨k1.le hl0,k2⟩
      ·rw[if_neg hi] at hv
       rw[hfx.1,hlen] at hi;have:cs[i]? = some c:=by
        by_cases hio:i<off
        ·rw[d_ (by simp;omega),v_,if_pos hio] at hc;exact hc
        ·rw[c_ (by simp;omega),c_ (by simp;omega),w_] at hc
         simp only[z_] at hc;rw[show off+n+(i - min off cs.length - (cellsOf (ev s x)).length)=i by omega] at hc;exact hc
       obtain⟨k1,k2⟩:=h3 i c v this hv;exact⟨k1.le hl0,k2⟩)
     unfold Oper.wp execOp;simp only[ho,hg,Sem.run_bind,hrun,Result.andThen_ok,Sem.run_pure,Oper.upon];exact⟨undef,_,_,_,rfl,rfl,.top _,hH,hl,hk⟩
   ·exact h.elim
  ·rename_i r z i off hpe
   split at h
   ·rename_i z' e xs ds hr hds
    obtain⟨rfl,hi,hle,hdl,hk⟩:=h;rw[hpe] at hpv;generalize hg:a.eval p=pv at hpv;cases hpv with
    | eptr _ _ _ _ hrN =>
     obtain⟨arr,h1,h2,h3,h3',h4,h5⟩:=hst.heap.obj r _ hr;obtain⟨hd1,hd2⟩:=aR4 hst (o9 hst x hx) hok hds;have hiz:i * z+z<=xs.length * z:=by
      have:(i+1) * z<=xs.length * z:=j_ _ hi;rw[y_] at this;omega
     have hrun:=Z0 (P:=P) hn (by rw[hfx.1,hlen]) hone h1 (off:=i * z+off) (by omega);generalize hnew:(arr.toList.take (i * z+off)++(a.eval x).cells.toList++arr.toList.drop (i * z+off+(a.eval x).cells.toList.length)).toArray=arr' at hrun;have hcells:=O5 (arr:=arr) (off:=i * z+off) (vs:=(a.eval x).cells) (by rw[hfx.1,hlen];omega);rw[hnew] at hcells;have hl0:Le E (E.setRow (E.β r) arr'):=R7 (hst.heap.pv r _ _ hr rfl) h5;have hxi:xs[i]? = some (xs.getD i []):=by rw[E_,b_ hi];rfl
     have hxl:(xs.getD i []).length=z:=h3 _ (m_ hxi);generalize xs.getD i []=y0 at hk hxl hxi;obtain⟨hl,hH⟩:=aA9 hst.heap (o0:=.row z e (xs.set i (y0.take off++ds++y0.drop (off+n)))) (arr:=arr') hr rfl (fun _ _ h=>h) h5 (by
      refine⟨arr',setRow_heap _ _ _ _ _ _ h1,by rw[hcells.1,h2];simp,fun y hy=>?_,by simpa using h3',fun k j y c hy hj=>?_,h5⟩
      ·rcases F_ hy with hy | rfl
       ·exact h3 y hy
       ·simp;omega
      ·by_cases hki:i=k
       ·subst hki
        rw[e_ hi] at hy;simp only[Option.some.injEq] at hy;subst hy;rw[q_] at hj;have hcell:∀j',j'<z->∃c',y0[j']? = some c':=fun j' hj'=>⟨_,b_ (by omega)⟩;have old:∀c,y0[j]? = some c->¬(off<=j/\j<off+n)->∃v,arr'[i * z+j]? = some v/\v.oneCell'=true/\RdD (E.setRow (E.β r) arr').w (E.setRow (E.β r) arr').S c v:=by
         intro c hc hno;obtain⟨v,k1,k2,k3⟩:=h4 i j _ c hxi hc;refine⟨v,?_,k2,k3.le hl0⟩;rw[hcells.2,if_neg (by rw[hfx.1,hlen];omega)];exact k1
        by_cases hj1:j<off
        ·rw[d_ (by simp;omega),v_,if_pos hj1] at hj
         exact old c hj (by omega)
        ·rw[c_ (by simp;omega)] at hj
         have hmin:min off y0.length=off:=by omega
         simp only[z_,hmin] at hj;by_cases hj2:j<off+n
         ·rw[d_ (by omega)] at hj
          have hv:(a.eval x).cells[j - off]? = some ((a.eval x).cells[j - off]'(by omega)):=g_ _;obtain⟨k1,k2⟩:=hd2 _ c _ hj hv;refine⟨_,?_,k2,k1.le hl0⟩;rw[hcells.2,if_pos (by rw[hfx.1,hlen];omega),show i * z+j - (i * z+off)=j - off by omega];exact hv
         ·rw[c_ (by omega),w_] at hj
          rw[show off+n+(j - off - ds.length)=j by omega] at hj;exact old c hj (by omega)
       ·rw[f_ hki] at hy
        obtain⟨v,k1,k2,k3⟩:=h4 k j y c hy hj;have hjz:j<z:=by rw[<-h3 y (m_ hy)];exact(a_.1 hj).1
        refine⟨v,?_,k2,k3.le hl0⟩;rw[hcells.2,if_neg]
        ·exact k1
        ·rw[hfx.1,hlen]
         rcases Nat.lt_or_gt_of_ne hki with hlt | hlt
         ·have:(i+1) * z<=k * z:=j_ _ hlt
          rw[y_] at this;omega
         ·have:(k+1) * z<=i * z:=j_ _ hlt
          rw[y_] at this;omega)
     unfold Oper.wp execOp;simp only[ho,hg,Sem.run_bind,hrun,Result.andThen_ok,Sem.run_pure,Oper.upon];exact⟨undef,_,_,_,rfl,rfl,.top _,hH,hl,hk⟩
   ·exact h.elim
  ·rename_i r q z i off hpe
   split at h
   ·rename_i ds H1 hmv
    split at h
    ·rename_i q' z' e xs B hr
     obtain⟨rfl,rfl,hi,hle,hk⟩:=h;rw[hpe] at hpv;generalize hg:a.eval p=pv at hpv;obtain⟨m1,m2,m3,m4,Bk,m5,m6,m7⟩:=ab2 _ _ _ _ (a.eval x).cells.toList hst.heap hmv (by simp[hfx.1]) (fun i c v hc hv=>hfx.2 i c v hc (by simpa using hv));have hdl:ds.length=n:=by rw[m3];exact hlen
     have hvl:(a.eval x).cells.size=n:=by rw[hfx.1];exact hlen
     obtain⟨b,cap,arr,k1,k2,k3,k4⟩:=m1.storeT hr hi (off:=off) (ds:=ds) (vs:=(a.eval x).cells.toList) (by omega) (by simp;omega) m5 m6;cases hpv with
     | tptr _ _ _ _ _ b' hrN hq hv =>
      obtain⟨n',cap',e1⟩:=hv ((m1.obj r _ hr).1.symm);rw[k1] at e1;cases e1;have hrun:=Z0 (P:=P) hn hvl hone k2 (off:=i * z+off) (by omega);generalize hnew:(arr.toList.take (i * z+off)++(a.eval x).cells.toList++arr.toList.drop (i * z+off+(a.eval x).cells.toList.length)).toArray=arr' at hrun;have hcells:=O5 (arr:=arr) (off:=i * z+off) (vs:=(a.eval x).cells) (by omega);rw[hnew] at hcells;obtain⟨B',hl,hH⟩:=k4 arr' hcells.1 (fun k=>by rw[hcells.2];simp);rw[hdl] at hH;unfold Oper.wp execOp;simp only[ho,hg,Sem.run_bind,hrun,Result.andThen_ok,Sem.run_pure,Oper.upon];exact⟨undef,_,_,_,rfl,rfl,.top _,hH,hl,hk B'⟩
    ·exact h.elim
   ·exact h.elim
  ·exact h.elim
 ·exact h.elim
theorem bj9 {s:St} {o:Oper} {K:C->List O->Prop} {t:TypeId} {x:Operand} {r q z i off:Nat} (ho:o.op=.load t x) (hx:l5 x=true) (hp:ev s x=.tptr r q z i off)
  (h:aJ4 P s t r q z i off K):G6 P s o K:=by
 unfold aJ4 at h;split at h
 ·rename_i q' z' e xs B hr
  obtain⟨rfl,rfl,hi,hoff,hag,h⟩:=h;intro E ns a hst;have hpv:=o9 hst x hx;rw[hp] at hpv;generalize hg:a.eval x=pv at hpv;obtain⟨h1,h2,h3,h4,h5⟩:=hst.heap.obj r _ hr;have hxi:xs[i]? = some xs[i]:=b_ hi;have hxl:xs[i].length=z:=h2 _ (A_ _);have hci:xs[i][off]? = some (xs[i][off]'(by omega)):=b_ _;have h:=h _ hxi _ hci;rcases h5 with ⟨ad,_,rfl⟩ | ⟨b,cap,arr,k1,k2,k3,k4,k5,k6,k7,k8,k9,_⟩
  ·simp at hi
  obtain⟨val,Bs,m1,m2,m3⟩:=k7;obtain⟨n1,n2,n3⟩:=m1 i off _ _ hxi hci;have n3:=n3 (fun h=>h);cases hpv with
  | tptr _ _ _ _ _ b' hrN hq hv =>
   obtain⟨n',cap',e1⟩:=hv h1.symm;rw[k1] at e1;cases e1;have hrun:(Instr.loadAt t (.pointer (some ⟨b,i * z+off,none⟩))).run P E.w=.ok (val i off) E.w:=by
    simp only[Instr.loadAt,Instr.sureAddr,Sem.run_bind,Sem.run_pure,Result.andThen_ok];exact R6 hag (by rw[cell_of_row _ _ _ _ _ _ k2];exact n1)
   have fin:∀(E':Env) (c:C) (H':List O),E'.w=E.w->Rd E' c (val i off)->RepH E' H'->Le E E'->K c H'->o.wp P a E.w (fun a' w'=>∃v E' c H',a'=a.put o.dst v/\E'.w=w'/\Rd E' c v/\RepH E' H'/\Le E E'/\K c H') (fun _ _ _=>False):=by
    intro E' c H' hw hrd hH hl hk;unfold Oper.wp execOp;simp only[ho,hg,Sem.run_bind,hrun,Result.andThen_ok,Sem.run_pure,Oper.upon];exact⟨val i off,E',c,H',rfl,hw,hrd,hH,hl,hk⟩
   generalize hcc:xs[i][off]'(by omega)=c0 at h n3 hci;cases c0 with
   | int k n=>exact fin E _ _ rfl (.d _ _ (aX7 rfl n3)) hst.heap (Le.refl E) h
   | bool bb=>exact fin E _ _ rfl (.d _ _ (aX7 rfl n3)) hst.heap (Le.refl E) h
   | str s=>exact fin E _ _ rfl (.d _ _ (aX7 rfl n3)) hst.heap (Le.refl E) h
   | agg _=>exact h.elim
   | fset _=>exact h.elim
   | any=>exact h.elim
   | raw _=>exact h.elim
   | sl kid =>
    obtain⟨g1,g2⟩:=h;by_cases hk:kid=[]
    ·subst hk
     exact fin E _ _ rfl (.d _ _ (aX7 rfl n3)) hst.heap (Le.refl E) (g1 rfl)
    ·obtain⟨b2,cap2,arr2,v2,e1,e2,e3,e4,zk,e',B1,B2,e5,e6,e7⟩:=hst.heap.lendT hr hxi hci hk
     rw[k1] at e1;cases e1;rw[k2] at e2;cases e2;rw[n1] at e3;cases e3;have hτ:(E.named 0 (val i off)).τ s.H.length=(0,val i off):=by simp[Env.named,hst.heap.N]
     exact fin (E.named 0 (val i off)) _ _ rfl (.own _ _ _ (by simp[Env.named,hst.heap.N]) n2 (by rw[hτ];exact k_ _) (fun _=>by rw[hτ])) e7 e6 (g2 hk zk e' B1 B2 e5)
 ·exact h.elim
end
section
variable {P:Program}
theorem ah0 {s:St} {z:Nat} {K:List (List D)->Prop}:∀(ps:List (Nat×Operand)) (k:Nat),E9 s z K ps k ->
  ∃ l,K l/\l.length=ps.length/\(∀x,x∈l->x.length=z)/\ps.map (·.1)=(List.range ps.length).map (k+·) /\
   ∀E n a,RepSt E n s a->∀(i:Nat) (p:Nat×Operand) (ds:List D),ps[i]? = some p->l[i]? = some ds ->
    (a.eval p.2).cells.size=z/\∀(j:Nat) (d:D) (u:Value),ds[j]? = some d->(a.eval p.2).cells[j]? = some u->RdD E.w E.S d u/\u.oneCell'=true
 | [],k,h=>⟨[],h,rfl,by simp,rfl,fun E n a _ i p ds hp=>by simp at hp⟩
 | (i0,x) :: r,k,h=>by
  unfold E9 at h;obtain⟨rfl,hx,hok,h⟩:=h;split at h
  ·rename_i ds0 hds
   obtain⟨hz,h⟩:=h;obtain⟨l,hk,hl,hlz,hidx,hall⟩:=ah0 r (i0+1) h;refine⟨ds0 :: l,hk,by simp[hl],fun y hy=>?_,?_,fun E n a hst i p ds hp hd=>?_⟩
   ·rcases List.mem_cons.1 hy with rfl | hy
    ·exact hz
    ·exact hlz y hy
   ·simp only[List.map_cons,List.length_cons,List.range_succ_eq_map,List.map_map]
    rw[hidx];simp only[t_,List.cons.injEq,true_and];apply List.map_congr_left;intro j _;simp only[Function.comp];omega
   ·cases i with
    | zero =>
     simp only[B_,Option.some.injEq] at hp hd;subst hp hd;obtain⟨h1,h2⟩:=aR4 hst (o9 hst x hx) hok hds;exact⟨by rw[h1,hz],h2⟩
    | succ i =>
     simp only[H_] at hp hd;exact hall E n a hst i p ds hp hd
  ·exact h.elim
theorem ae1 {z:Nat} (hz:0<z):∀(vs:List Value) (k:Nat) (arr:Array Value),(∀v,v∈vs->v.cells.size=z)->(k+vs.length) * z<=arr.size ->
  ∃arr',Instr.fill (fun i=>some (i * z,z)) arr (vs.zipIdx k |>.map fun x=>(x.2,x.1))=some arr'/\arr'.size=arr.size /\
   (∀i j v,vs[i]? = some v->j<z->arr'[(k+i) * z+j]? = v.cells[j]?)/\∀m,m<k * z->arr'[m]? = arr[m]?
 | [],k,arr,_,_=>⟨arr,rfl,rfl,fun i j v h=>by simp at h,fun _ _=>rfl⟩
 | v :: vs,k,arr,hv,hs=>by
  have hvz:=hv v (by simp);have hf:v.cells.zipIdx.foldl (fun (cs:Array Value) (x:Value×Nat)=>cs.setIfInBounds (k * z+x.2) x.1) arr=(v.cells.toList.zipIdx 0).foldl (fun (cs:Array Value) (x:Value×Nat)=>cs.setIfInBounds (k * z+x.2) x.1) arr:=by
   rw[<-Array.foldl_toList,Array.toList_zipIdx]
  obtain⟨h1,h2⟩:=foldl_set (k * z) v.cells.toList 0 arr;rw[<-hf] at h1 h2;have hkz:(k+1) * z=k * z+z:=by rw[y_];omega
  have hsz:(k+1+vs.length) * z<=arr.size:=by rw[show k+1+vs.length=k+(v :: vs).length by simp;omega];exact hs
  have hk1:k * z+z<=arr.size:=by
   have:(k+1) * z<=(k+1+vs.length) * z:=j_ _ (by omega);omega
  obtain⟨arr',h3,h4,h5,h6⟩:=ae1 hz vs (k+1) _ (fun u hu=>hv u (by simp[hu])) (by rw[h1];exact hsz);refine⟨arr',?_,by rw[h4,h1],fun i j u hi hj=>?_,fun m hm=>?_⟩
  ·simp only[List.zipIdx_cons,List.map_cons,Instr.fill]
   have hno:¬(v.cells.size≠z\/k * z+v.cells.size > arr.size):=by omega
   rw[if_neg (by simpa using hno)];exact h3
  ·cases i with
   | zero =>
    simp only[B_,Option.some.injEq] at hi;subst hi;rw[h6 _ (by rw[t_];omega),h2];simp only[t_,n_];rw[if_pos (by omega),show k * z+j - k * z=j by omega,i_]
   | succ i =>
    simp only[H_] at hi;have:=h5 i j u hi hj;rw[show k+(i+1)=k+1+i by omega];exact this
  ·rw[h6 m (by omega),h2,if_neg (by omega)]
theorem ap9 {s:St} {o:Oper} {K:C->List O->Prop} {t:TypeId} {n:Nat} {ps:Array (Nat×Operand)} (ho:o.op=.buildSlice t n ps)
  (h:match D6 P t with
   | some (_,z,_)=>n * z<=16777216/\ps.size=n/\E9 s z (kSl K n s.H) ps.toList 0
   | none=>False):G6 P s o K:=by
 split at h
 ·rename_i e z by_ ht
  obtain⟨hbig,hps,h⟩:=h;obtain⟨hte,hz,i,zv,hi,hzv,hzs,hiz,hib⟩:=J8 ht;obtain⟨l,hk,hl,hlz,hidx,hall⟩:=ah0 _ _ h;intro E ns a hst;change K (if n=0 then .nil0 else .d (.sl l)) s.H at hk
  have hln:l.length=n:=by rw[hl,n_,hps]
  -- the run
  have hparts:(ps.map fun (i,x)=>(i,a.eval x)).toList=((ps.toList.map fun p=>a.eval p.2).zipIdx 0).map fun x=>(x.2,x.1):=by
   apply List.ext_getElem?;intro j;simp only[Array.toList_map,p_,List.getElem?_zipIdx];cases hp:ps.toList[j]? with
   | none=>simp
   | some p =>
    have hj:j<ps.toList.length:=(a_.1 hp).1;have:(ps.toList.map (·.1))[j]? = some j:=by
     rw[hidx];have hj':j<ps.size:=by simpa using hj
     simp[List.getElem?_range hj']
    simp only[p_,hp,D_,Option.some.injEq] at this;simp[this]
  have hbigN:¬(n * i.size > 2 ^ 24):=by rw[hiz];omega
  unfold Oper.wp execOp;simp only[ho];by_cases hn:n=0
  ·subst hn
   have hps0:ps=#[]:=by
    apply h_;exact hps
   subst hps0;simp only[if_pos] at hk;have hrun0:(Instr.buildSlice t 0 (#[].map fun (i,x)=>(i,a.eval x))).run P E.w=.ok (.slice (some ⟨E.w.heap.size,0,none⟩) 0 0) (E.w.alloc (.cells #[] e)):=by
    have hr0:∀(f:Nat->Value),Array.map f (Array.range 0)=#[]:=fun f=>h_ (by simp);simp[Instr.buildSlice,run_underlying hte,sizeOf,typeInfo,hi,Instr.fill,newRow,hr0]
   simp only[Sem.run_bind,hrun0,Result.andThen_ok,Sem.run_pure,Oper.upon];exact⟨_,E.newData (.cells #[] e),_,_,rfl,rfl,.nil0 _,au2 hst.heap _,ad4 hst.heap _,hk⟩
  ·rw[if_neg hn] at hk
   have hnz:0<n * z:=Nat.mul_pos (by omega) hz;generalize hbase:(Array.range (n * z)).map (zv.cells[· % zv.cells.size]!)=base0;have hbs:base0.size=n * z:=by subst hbase;simp
   have hvs:∀v,v∈(ps.toList.map fun p=>a.eval p.2)->v.cells.size=z:=by
    intro v hv;obtain⟨p,hp,rfl⟩:=List.mem_map.1 hv;obtain⟨j,hj⟩:=J_.1 hp;have hjl:j<l.length:=by rw[hl];exact(a_.1 hj).1
    exact(hall E ns a hst j p _ hj (b_ hjl)).1
   obtain⟨arr',h1,h2,h3,_⟩:=ae1 hz (ps.toList.map fun p=>a.eval p.2) 0 base0 hvs (by simp only[List.length_map,n_,hps,C_];omega);rw[<-hparts] at h1;have hrun:(Instr.buildSlice t n (ps.map fun (i,x)=>(i,a.eval x))).run P E.w=.ok (.slice (some ⟨E.w.heap.size,0,none⟩) n n) (E.w.alloc (.cells arr' e)):=by
    have hne:¬(n * i.size=0):=by rw[hiz];omega
    have hb2:Array.map (fun x=>zv.cells[x % zv.cells.size]!) (Array.range (n * i.size))=base0:=by rw[hiz];exact hbase
    have h1':Instr.fill (fun j=>some (j * i.size,i.size)) base0 (ps.map fun (i,x)=>(i,a.eval x)).toList=some arr':=by rw[hiz];exact h1
    unfold Instr.buildSlice;simp only[Sem.run_bind,run_underlying hte,Result.andThen_ok,sizeOf,typeInfo,run_program,hi,Sem.run_pure,Sem.run_ite,if_neg hbigN,if_neg hne,zeroValue,hzv,hb2,h1',newRow,run_newObj];rfl
   simp only[Sem.run_bind,hrun,Result.andThen_ok,Sem.run_pure,Oper.upon];have hcellnew:∀j,(E.newData (.cells arr' e)).w.cell? ⟨E.w.heap.size,j,none⟩=arr'[j]?:=fun j=>World.cell?_alloc_new E.w arr' e j;refine⟨_,E.newData (.cells arr' e),_,_,rfl,rfl,?_,au2 hst.heap _,ad4 hst.heap _,hk⟩;have hget:∀i j,i<n->j<z->∃p u,ps.toList[i]? = some p/\(a.eval p.2).cells[j]? = some u/\arr'[i * z+j]? = some u:=by
    intro i j hi hj;have hp:ps.toList[i]? = some (ps.toList[i]'(by simp;omega)):=b_ _;have hv:=hvs _ (List.mem_map_of_mem (A_ (l:=ps.toList) (n:=i) (by simp;omega)));have hu:(a.eval (ps.toList[i]'(by simp;omega)).2).cells[j]? = some _:=g_ (by omega);refine⟨_,_,hp,hu,?_⟩;have:=h3 i j _ (by rw[p_,hp];rfl) hj;rw[C_] at this;rw[this];exact hu
   have hslice:RdD (E.newData (.cells arr' e)).w (E.newData (.cells arr' e)).S (.sl l) (.slice (some ⟨E.w.heap.size,0,none⟩) l.length n):=by
    refine .sl E.w.heap.size 0 n z l (fun i j=>arr'.getD (i * z+j) undef) (fun e=>by subst e;simp at hln;omega) (by omega) ?_ hlz (fun i j hi hj=>?_) (fun i j x c hx hc=>?_)
    ·have:n<=n * z:=Nat.le_mul_of_pos_right n hz
     simp only[maxLen];omega
    ·obtain⟨p,u,h5,h6,h7⟩:=hget i j (by omega) hj
     refine⟨.inr rfl,?_,?_⟩
     ·rw[C_,hcellnew,s_,h7];rfl
     ·rw[s_,h7]
      have hxi:l[i]? = some l[i]:=b_ hi;have hjl:j<(l[i]).length:=by rw[hlz _ (A_ _)];exact hj
      exact((hall E ns a hst i p _ h5 hxi).2 j _ u (b_ hjl) h6).2
    ·have hin:i<n:=by rw[<-hln];exact(a_.1 hx).1
     have hjz:j<z:=by rw[<-hlz x (m_ hx)];exact(a_.1 hc).1
     obtain⟨p,u,h5,h6,h7⟩:=hget i j hin hjz;rw[s_,h7];exact((hall E ns a hst i p x h5 hx).2 j c u hc h6).1.le (ad4 hst.heap _)
   rw[hln] at hslice;exact .d _ _ hslice
 ·exact h.elim
theorem bx7:∀{vs:List Value} {ds:List D},bU6 vs=some ds->ds.length=vs.length/\∀(w:World) (S:Nat->Nat->Prop) (i:Nat) (d:D) (v:Value),ds[i]? = some d->vs[i]? = some v->RdD w S d v
 | [],ds,h=>by simp[bU6] at h;subst h;exact⟨rfl,fun w S i d v hd=>by simp at hd⟩
 | v :: r,ds,h=>by
  unfold bU6 at h;split at h
  ·rename_i d l h1 h2
   simp only[Option.some.injEq] at h;subst h;obtain⟨h3,h4⟩:=bx7 h2;refine⟨by simp[h3],fun w S i d' v' hd hv=>?_⟩;cases i with
   | zero =>
    simp only[B_,Option.some.injEq] at hd hv;subst hd hv;unfold cvD at h1;split at h1<;>simp at h1<;>subst h1
    ·exact .int _ _
    ·exact .bool _
    ·rename_i s
     have:s=⟨s.data.toList.toArray⟩:=by cases s;simp
     rw[this];exact .str _
    ·exact .nil _ _
   | succ i=>exact h4 w S i d' v' (by simpa using hd) (by simpa using hv)
  ·simp at h
theorem aH1 (zs:Array Value) (n:Nat) (i j:Nat) (hi:i<n) (hj:j<zs.size) :
  ((Array.range (n * zs.size)).map (zs[· % zs.size]!))[i * zs.size+j]? = zs[j]?:=by
 have hlt:i * zs.size+j<n * zs.size:=by
  have:(i+1) * zs.size<=n * zs.size:=j_ _ hi;rw[y_] at this;omega
 have h2:(i * zs.size+j) % zs.size=j:=by rw[I_,Nat.mul_add_mod,Nat.mod_eq_of_lt hj]
 rw[Array.getElem?_map];simp[hlt,h2,hj]
theorem wrap64 {m:Int} (h1:-9223372036854775808<=m) (h2:m<=9223372036854775807):IntKind.i64.wrap m=m:=by
 have e:IntKind.i64.wrap m=if 9223372036854775808<=m % 18446744073709551616 then m % 18446744073709551616 - 18446744073709551616 else m % 18446744073709551616:=by
  simp[IntKind.wrap,IntKind.signed,IntKind.bits]
 rw[e];split<;>omega
theorem bj8 {s:St} {o:Oper} {K:C->List O->Prop} {t:TypeId} {x:Operand} (ho:o.op=.makeSlice t x x) (hx:l5 x=true) (h:ar8 P s t (ev s x) K):G6 P s o K:=by
 unfold ar8 at h;split at h
 ·rename_i e z by_ m ht hev
  split at h
  ·rename_i zs hzs0
   obtain⟨hzl,h0,hmax,hbytes,hk⟩:=h;obtain⟨hte,hz,i,zv,hi,hzv,hzs,hiz,hib⟩:=J8 ht;intro E ns a hst;have hvx:=o9 hst x hx;rw[hev] at hvx;generalize hg:a.eval x=v at hvx;cases hvx with
   | d _ _ hd =>
    cases hd;have hzv':N8 P e=some zv.cells.toList:=by
     unfold N8 at hzs0 |-;simp only[hi,hzv,x_] at hzs0 |-;split
     ·rfl
     ·rename_i hno
      simp[hno] at hzs0
    have hone:zv.cells.all (·.oneCell')=true:=by
     unfold N8 at hzv';simp only[hi,hzv,x_] at hzv';split at hzv'
     ·assumption
     ·simp at hzv'
    rw[hzv',x_] at hzs0;obtain⟨hl,hrd⟩:=bx7 hzs0;have hwrap:IntKind.i64.wrap m=m:=wrap64 (by omega) (by simp only[maxLen] at hmax;omega);have hrun:(Instr.makeSlice t (.int .i64 m) (.int .i64 m)).run P E.w=.ok (.slice (some ⟨E.w.heap.size,0,none⟩) m.toNat m.toNat) (E.w.alloc (.cells ((Array.range (m.toNat * z)).map (zv.cells[· % zv.cells.size]!)) e)):=by
     have hno1:¬(m<0):=by omega
     have hno2:¬((by_:Int) * m > 281474976710656):=by rw[Int.mul_comm];omega
     by_cases hm0:m.toNat * z=0
     ·have hmz:m.toNat=0:=by
       rcases Nat.mul_eq_zero.1 hm0 with h' | h'
       ·exact h'
       ·omega
      have hm00:m=0:=by omega
      subst hm00;have hr0:∀(f:Nat->Value),Array.map f (Array.range 0)=#[]:=fun f=>h_ (by simp);simp[Instr.makeSlice,run_underlying hte,asInt,asIntOf,typeInfo,hi,hwrap,sizeOf,newRow,hr0]
     ·have hne:¬(m.toNat * i.size=0):=by rw[hiz];exact hm0
      have hcond:¬((decide (IntKind.i64.wrap m<0) || decide (i.bytes * IntKind.i64.wrap m > 2 ^ 48))=true\/IntKind.i64.wrap m<0\/IntKind.i64.wrap m > IntKind.i64.wrap m):=by
       rw[hwrap,hib];simp;omega
      have hno2':¬(281474976710656<(i.bytes:Int) * m):=by rw[hib];omega
      simp[Instr.makeSlice,run_underlying hte,asInt,asIntOf,typeInfo,hi,hwrap,sizeOf,newRow,hno1,hno2',hne,zeroValue,hzv];rw[hiz]
    unfold Oper.wp execOp;simp only[ho,hg,Sem.run_bind,hrun,Result.andThen_ok,Sem.run_pure,Oper.upon];have hzz:zv.cells.size=z:=hzs;refine⟨_,E.newObj _,_,_,rfl,rfl,?_,bf5 hst.heap (z:=z) (xs:=List.replicate m.toNat zs) (by simp) (fun y hy=>by rw[G_ hy,hzl]) (by simp only[List.length_replicate];omega) (fun k j y c hy hc=>?_),L6 hst.heap _,hk⟩
    ·have e1:(⟨E.w.heap.size,0,none⟩:Addr)=⟨(E.newObj (.cells ((Array.range (m.toNat * z)).map (zv.cells[· % zv.cells.size]!)) e)).β s.H.length,0,none⟩:=by
      simp[Env.newObj,hst.heap.N]
     rw[e1];exact .rsl _ _ (by simp[Env.newObj,hst.heap.N])
    ·have hkm:k<m.toNat:=by simpa using (a_.1 hy).1
     have hyz:y=zs:=G_ (m_ hy);subst hyz;have hjz:j<zv.cells.size:=by rw[hzz,<-hzl];exact(a_.1 hc).1
     have hget:=aH1 zv.cells m.toNat k j hkm hjz;obtain⟨u,hv⟩:∃u,zv.cells[j]? = some u:=⟨_,g_ hjz⟩;have hu1:u.oneCell'=true:=by
      simp only[Array.all_eq_true] at hone;obtain⟨hlt,rfl⟩:=u_.1 hv;exact hone j hlt
     refine⟨u,?_,hu1,hrd _ _ j c _ hc (by rw[i_];exact hv)⟩;rw[<-hv,<-hget,hzz]
  ·exact h.elim
 ·exact h.elim
end
section
variable {P:Program} {E:Env}
def Env.setObj (E:Env) (b:Nat) (o:Obj):Env:={ E with w:={ E.w with heap:=E.w.heap.setIfInBounds b o } }
theorem U9 (w:World) (b b':Nat) (o:Obj) (h:b'≠b):({ w with heap:=w.heap.setIfInBounds b o }:World).heap[b']? = w.heap[b']?:=by
 show (w.heap.setIfInBounds b o)[b']? = _;rw[Array.getElem?_setIfInBounds_ne (fun e=>h e.symm)]
theorem at7 (w:World) (b:Nat) (o:Obj) (h:b<w.heap.size):({ w with heap:=w.heap.setIfInBounds b o }:World).heap[b]? = some o:=by
 show (w.heap.setIfInBounds b o)[b]? = _;rw[Array.getElem?_setIfInBounds_self_of_lt h]
theorem an2 (w:World) (b b' i:Nat) (o:Obj) (h:b'≠b):({ w with heap:=w.heap.setIfInBounds b o }:World).cell? ⟨b',i,none⟩=w.cell? ⟨b',i,none⟩:=by
 unfold World.cell?;rw[U9 w b b' o h]
theorem aM5 {b:Nat} {o:Obj} (hp:E.pv b) (hS:∀i,¬E.S b i):Le E (E.setObj b o) where
 os:=rfl
 tape:=rfl
 output:=rfl
 size:=by simp[Env.setObj]
 N:=k_ _
 β r hr:=rfl
 τ r hr:=⟨k_ _,fun _=>rfl⟩
 S b i hs:=hs
 cell b' i hs:=an2 E.w b b' i o (fun e=>hS i (by subst e;exact hs))
 blk b' hb hp':=U9 E.w b b' o (fun e=>hp' (by subst e;exact hp))
 newS b i hs:=.inl hs
 newP b hp:=.inl hp
 map b' i a n hs hh:=(U9 E.w b b' o (fun e=>hS i (by subst e;exact hs))).trans hh
theorem aB0 {H:List O} (h:RepH E H) {r0:Nat} {o o0:O} {ob:Obj} (ho:H[r0]? = some o) (hb0:o.block E r0 (E.β r0)) (hb1:∀(E':Env) (b:Nat),o0.block E' r0 b->E'.β r0=b)
  (hS:∀i,¬E.S (E.β r0) i) (hrep:J4 (E.setObj (E.β r0) ob) r0 o0):Le E (E.setObj (E.β r0) ob)/\RepH (E.setObj (E.β r0) ob) (H.set r0 o0):=by
 have hl:Le E (E.setObj (E.β r0) ob):=aM5 (h.pv r0 o _ ho hb0) hS;refine⟨hl,h.turn (r0:=r0) (o0:=o0) hl (by simp[Env.setObj,h.N]) (fun r hr=>?_) (fun o' ho'=>?_) (fun r hr hr'=>rfl) (fun r o' b hr ho' hb=>?_) (fun b hb=>hb) (fun b i hs=>?_) hrep (fun b hb=>?_)⟩
 ·rw[f_ (fun e=>hr e.symm)]
 ·rw[e_ (a_.1 ho).1] at ho'
  exact(Option.some.inj ho').symm
 ·refine⟨U9 E.w _ b ob (fun e=>?_),fun i hs=>hs⟩
  subst e;exact hr (h.apart r r0 o' o _ ho' ho hb hb0)
 ·have:=h.Slt b i hs
  simpa[Env.setObj] using this
 ·have hb':E.β r0=b:=hb1 _ _ hb
  subst hb';refine⟨h.pv r0 o _ ho hb0,by simpa[Env.setObj] using h.lt r0 o _ ho hb0,fun r o' hr ho' hb=>hr (h.apart r r0 o' o _ ho' ho hb hb0)⟩
theorem aB2 {H:List O} (h:RepH E H) {o:O} {ob:Obj} (hb:∀(E':Env) (r b:Nat),o.block E' r b->E'.β r=b) (hrep:J4 (E.newObj ob) H.length o):RepH (E.newObj ob) (H++[o]):=by
 have hl:=L6 h ob;refine h.turn (r0:=H.length) (o0:=o) hl (by simp[Env.newObj,h.N]) (fun r hr=>?_) (fun o ho=>?_) (fun r hr hr'=>rfl) (fun r o b hr ho hb=>?_) (fun b hb=>.inl hb) (fun b i hs=>?_) hrep (fun b hbb=>?_)
 ·by_cases hlt:r<H.length
  ·rw[d_ hlt]
  ·rw[l_ (by simp;omega),l_ (by omega)]
 ·simpa using ho.symm
 ·exact⟨Go.heap_alloc_old E.w _ (h.lt r o b ho hb),fun i hs=>hs⟩
 ·have:=h.Slt b i hs
  simp only[Env.newObj,World.size_alloc];omega
 ·have hβ:(E.newObj ob).β H.length=E.w.heap.size:=by simp[Env.newObj,h.N]
  have hbb':=hb _ _ _ hbb;rw[hβ] at hbb';subst hbb';refine⟨.inr rfl,by simp[Env.newObj],fun r o hr ho hb=>?_⟩;have:=h.lt r o _ ho hb;omega
theorem aH2 {s:St} {o:Oper} {K:C->List O->Prop} {t:TypeId} (ho:o.op=.makeMap t none)
  (h:match bo3 P t with | some (sk,_)=>K (.map s.H.length) (s.H++[.map sk []]) | none=>False):G6 P s o K:=by
 intro E n a hst;split at h
 ·rename_i sk zd hm
  have hβ:(E.newObj (.map #[] 0)).β s.H.length=E.w.heap.size:=by simp[Env.newObj,hst.heap.N]
  unfold Oper.wp execOp;simp only[ho,Option.map_none,Instr.makeMap,Sem.run_bind,Sem.run_pure,run_newObj,Result.andThen_ok,Oper.upon];refine⟨_,E.newObj (.map #[] 0),_,_,rfl,rfl,?_,aB2 (o:=.map _ []) hst.heap (fun _ _ _ h=>h) ?_,L6 hst.heap _,h⟩
  ·rw[<-hβ]
   exact .map _ (by simp[Env.newObj,hst.heap.N])
  ·refine⟨#[],by rw[hβ];exact Go.heap_alloc_new E.w _,rfl,fun i x m hx=>by simp at hx,fun i hs=>?_⟩
   rw[hβ] at hs;have:=hst.heap.Slt _ i hs;omega
 ·exact h.elim
theorem ap0 {s:St} {o:Oper} {K:C->List O->Prop} {t:TypeId} {m k v:Operand} (ho:o.op=.insert t m k v\/o.op=.mapUpdate t m k v) (hm:l5 m=true) (hk:l5 k=true) (hv:l5 v=true)
  (h:Q0 P s t (ev s m) (J3 s (ev s k)) (J3 s (ev s v)) (K .top)):G6 P s o K:=by
 intro E n a hst;unfold Q0 at h;split at h
 ·rename_i r kd vd hpm hpk hpv
  split at h
  ·rename_i sk es sk' zd hob htm
   obtain⟨rfl,hko,hvc,hK⟩:=h;obtain⟨kt,e,inf,zv,hu,huk,hinf,hzv,hzd⟩:=af4 htm;have rm:=o9 hst m hm;have rk:=q8 hst (o9 hst k hk);have rv:=q8 hst (o9 hst v hv);rw[hpm] at rm;rw[hpk] at rk;rw[hpv] at rv;generalize em:a.eval m=vm at rm;generalize ek:a.eval k=vk at rk;generalize evv:a.eval v=vv at rv;cases rm with
   | map _ hr =>
    cases rk with
    | d _ _ rk =>
     cases rv with
     | d _ _ rv =>
      obtain⟨arr,h1,h2,h3,h4⟩:=hst.heap.obj r _ hob;have hlt:E.β r<E.w.heap.size:=hst.heap.lt r _ _ hob rfl;have hvo:vv.oneCell'=true:=rv.oneCell hvc;have run:∃arr':Array MapEntry,(Instr.mapUpdate t (.map (some (E.β r))) vk vv).run P E.w=.ok () { E.w with heap:=E.w.heap.setIfInBounds (E.β r) (.map arr' (am3 es kd vd).length) } /\
        arr'.size=(am3 es kd vd).length/\∀(i:Nat) (x:D×D) (m:MapEntry),(am3 es kd vd)[i]? = some x->arr'[i]? = some m->am7 sk x.1=true/\RdD E.w E.S x.1 m.key/\RdD E.w E.S x.2 m.val/\m.val.oneCell'=true/\m.born=i:=by
       have hfn:=ae0 (desc:=if sk then .string else .int .i64) rfl hko rk es arr.toList 0 (by simpa using h2.symm) (fun i x m hx hm=>by
        obtain⟨a1,a2,_⟩:=h3 i x m hx (by simpa using hm);exact⟨a1,a2⟩)
       rcases hfn with ⟨e1,e2⟩ | ⟨j,p,m',e1,e2,e3,e4⟩
       ·have hms:=aL9 es kd vd e1
        refine⟨arr.push { key:=vk,val:=vv,born:=es.length },?_,by rw[hms];simp[h2],fun i x m hx hm=>?_⟩
        ·rw[hms]
         simp[Instr.mapUpdate,run_underlying hu,MapKept.run_getObj_map h1,run_checkKey E.w _ huk,run_findKey huk e2,MapKept.run_setObj_map _ h1]
        ·rw[hms] at hx
         by_cases hi:i<es.length
         ·rw[d_ hi] at hx
          rw[Array.getElem?_push_lt (by omega),<-g_] at hm;exact h3 i x m hx hm
         ·rw[c_ (by omega)] at hx
          have:i=es.length:=by
           have:=(a_.1 hx).1;simp at this;omega
          subst this;simp at hx;subst hx;rw[<-h2,Array.getElem?_push_size] at hm;cases hm;exact⟨hko,rk,rv,hvo,h2⟩
       ·obtain⟨q,hq,hms⟩:=aL8 es kd vd j e1
        rw[e2] at hq;cases hq;have hj:arr[j]? = some m':=by simpa using e3
        obtain⟨a0,a1,a2,a3,a4⟩:=h3 j p m' e2 hj;have hkeep:(Instr.keyThatStays m'.key vk).run P E.w=.ok vk E.w\/True:=.inr trivial;have hsame:m'.key=vk:=by
         have hkq:kEq kd p.1=true:=by
          clear hms hkeep;have gen:∀(es:List (D×D)) (j:Nat) (p:D×D),ag2 es kd=some j->es[j]? = some p->kEq kd p.1=true:=by
           intro es;induction es with
           | nil=>intro j p h;simp[ag2] at h
           | cons y r ih =>
            intro j p h hp;simp only[ag2] at h;split at h
            ·rename_i hk;cases h;simp at hp;subst hp;exact hk
            ·obtain⟨j',hj',rfl⟩:=o_.1 h
             exact ih j' p hj' (by simpa using hp)
          exact gen es j p e1 e2
         rcases R8 hko with ⟨_,s1,rfl⟩ | ⟨_,n1,rfl⟩
         ·generalize hpp:p.1=p1 at hkq a1 a0
          rcases R8 a0 with ⟨_,s2,rfl⟩ | ⟨_,n2,rfl⟩
          ·simp[kEq] at hkq
           subst hkq;generalize hmk:m'.key=mk at a1;cases a1;cases rk;rfl
          ·simp[kEq] at hkq
         ·generalize hpp:p.1=p1 at hkq a1 a0
          rcases R8 a0 with ⟨_,s2,rfl⟩ | ⟨_,n2,rfl⟩
          ·simp[kEq] at hkq
          ·simp[kEq] at hkq
           subst hkq;generalize hmk:m'.key=mk at a1;cases a1;cases rk;rfl
        have hstay:(Instr.keyThatStays m'.key vk).run P E.w=.ok vk E.w:=by
         rw[hsame];rcases R8 hko with ⟨_,s1,rfl⟩ | ⟨_,n1,rfl⟩
         ·cases rk;exact MapKept.run_keyThatStays (d:=.string) trivial
         ·cases rk;exact MapKept.run_keyThatStays (d:=.int .i64) rfl
        have hlen:(am3 es kd vd).length=es.length:=by rw[hms];simp
        refine⟨arr.modify j fun e=>{ e with key:=vk,val:=vv },?_,by rw[hlen];simp[h2],fun i x m hx hm=>?_⟩
        ·rw[hlen]
         rw[C_] at e4;simp[Instr.mapUpdate,run_underlying hu,MapKept.run_getObj_map h1,run_checkKey E.w _ huk,run_findKey huk e4,hj,hstay,MapKept.run_setObj_map _ h1]
        ·rw[hms] at hx
         rw[Array.getElem?_modify] at hm;by_cases hij:j=i
         ·subst hij
          rw[if_pos rfl,hj] at hm;simp at hm;subst hm;rw[e_ (a_.1 e2).1] at hx;cases hx;exact⟨a0,by rw[<-hsame];exact a1,rv,hvo,a4⟩
         ·rw[if_neg hij] at hm
          rw[f_ hij] at hx;exact h3 i x m hx hm
      obtain⟨arr',hrun,hsz,hall⟩:=run;obtain⟨hle,hrep⟩:=aB0 hst.heap (o0:=.map sk (am3 es kd vd)) (ob:=.map arr' (am3 es kd vd).length) hob rfl (fun _ _ h=>h) h4 (by
       refine⟨arr',at7 E.w _ _ hlt,hsz,fun i x m hx hm=>?_,h4⟩;have hle:=aM5 (E:=E) (o:=.map arr' (am3 es kd vd).length) (hst.heap.pv r _ _ hob rfl) h4;obtain⟨b0,b1,b2,b3⟩:=hall i x m hx hm;exact⟨b0,b1.le hle,b2.le hle,b3⟩)
      unfold Oper.wp execOp
      rcases ho with ho | ho <;>
       (simp only[ho,em,ek,evv,Sem.run_bind,hrun,Result.andThen_ok,Sem.run_pure,Oper.upon]
        exact⟨_,E.setObj (E.β r) _,.top,_,rfl,rfl,.top _,hrep,hle,hK⟩)
  ·exact h.elim
 ·exact h.elim
theorem aV3 {s:St} {o:Oper} {K:C->List O->Prop} {t:TypeId} {x:Operand} (ho:o.op=.range t x) (hx:l5 x=true) (ht:aA4 P t=true) (h:af3 s (ev s x) K):G6 P s o K:=by
 intro E n a hst;obtain⟨k,e,hu⟩:∃k e,P.underlying t=some (.map k e):=by
  unfold aA4 at ht;split at ht
  ·exact⟨_,_,by assumption⟩
  ·simp at ht
 unfold af3 at h;split at h
 ·rename_i r hp
  split at h
  ·rename_i sk es hob
   have hv:=o9 hst x hx;rw[hp] at hv;generalize ea:a.eval x=v at hv;cases hv with
   | map _ hr =>
    obtain⟨arr,h1,h2,h3,h4⟩:=hst.heap.obj r _ hob;have hrl:r<s.H.length:=(a_.1 hob).1;have hβ:(E.newObj (.mapIter (some (E.β r)) es.length #[] es.length)).β s.H.length=E.w.heap.size:=by simp[Env.newObj,hst.heap.N]
    have hβr:(E.newObj (.mapIter (some (E.β r)) es.length #[] es.length)).β r=E.β r:=by
     have:r≠E.N:=by rw[hst.heap.N];omega
     simp[Env.newObj,this]
    unfold Oper.wp execOp;simp only[ho,ea,Instr.range,Sem.run_bind,run_underlying hu,MapKept.run_getObj_map h1,Result.andThen_ok,Sem.run_pure,run_newObj,Oper.upon];refine⟨_,E.newObj (.mapIter (some (E.β r)) es.length #[] es.length),_,_,rfl,rfl,?_,aB2 (o:=.iter ..) hst.heap (fun _ _ _ h=>h) ?_,L6 hst.heap _,h⟩
    ·rw[<-hβ]
     exact .ptr _ _ (by simp[Env.newObj,hst.heap.N])
    ·refine⟨hrl,by rw[hβ,hβr];exact Go.heap_alloc_new E.w _,fun i hs=>?_⟩
     rw[hβ] at hs;have:=hst.heap.Slt _ i hs;omega
  ·exact h.elim
 ·exact h.elim
theorem run_choose (n:Nat) (hn:0<n) (w:World):∃j w1,j<n/\(w1=w\/w1=w.drew)/\(choose (.mapNext n)).run P w=.ok j w1:=by
 by_cases hf:n<=1
 ·exact⟨0,w,by omega,.inl rfl,by simp[choose,Sem.run,Question.forced,hf]⟩
 ·exact⟨_,w.drew,Nat.mod_lt _ (by omega),.inr rfl,by
   simp only[choose,Sem.run,Question.forced,decide_eq_true_eq,hf,if_false,Question.cut];rfl⟩
theorem bj7 {s:St} {o:Oper} {K:C->List O->Prop} {x:Operand} (ho:o.op=.next x false) (hx:l5 x=true) (h:ar7 s (ev s x) K):G6 P s o K:=by
 intro E n a hst;unfold ar7 at h;split at h
 ·rename_i r hp
  split at h
  ·rename_i m since c0 seen hob
   split at h
   ·rename_i sk es hom
    obtain⟨rfl,rfl,hend,hgo⟩:=h;have hv:=o9 hst x hx;rw[hp] at hv;generalize ea:a.eval x=v at hv;cases hv with
    | ptr _ _ hr =>
     obtain⟨h0,h1,h2⟩:=hst.heap.obj r _ hob;obtain⟨arr,g1,g2,g3,g4⟩:=hst.heap.obj m _ hom;have hlt:E.β r<E.w.heap.size:=hst.heap.lt r _ _ hob rfl;have born:∀i (hi:i<arr.size),arr[i].born=i:=fun i hi=>(g3 i es[i] arr[i] (b_ (by omega)) (g_ hi)).2.2.2.2;have hget:(getObj (E.β r)).run P E.w=.ok (.mapIter (some (E.β m)) es.length seen.toArray es.length) E.w:=by simp[getObj,Sem.run,h1]
     have hold:∀y∈arr.toList,y.born<es.length:=fun y hy=>by
      obtain⟨i,hi,rfl⟩:=List.getElem_of_mem hy;simp only[n_] at hi;rw[Array.getElem_toList,born i hi];omega
     have htest:=next_test_false seen.toArray arr es.length es.length hold (k_ _);have hrun:((∀i,i<es.length->i∈seen)/\(Instr.next (.pointer (some ⟨E.β r,0,none⟩)) false o.type).run P E.w=.ok (.tuple #[.bool false]) E.w) \/
       ∃i,∃hi:i<arr.size,i∉seen/\∃w1,(w1=E.w\/w1=E.w.drew)/\(Instr.next (.pointer (some ⟨E.β r,0,none⟩)) false o.type).run P E.w =
        .ok (.tuple #[.bool true,arr[i].key,arr[i].val]) { w1 with heap:=w1.heap.setIfInBounds (E.β r) (.mapIter (some (E.β m)) es.length (seen++[i]).toArray es.length) }:=by
      simp only[Instr.next,Sem.run_bind,hget,MapKept.run_getObj_map g1,Result.andThen_ok,htest,Bool.false_eq_true,if_false];have hmem:∀y∈(Array.filter (fun e=>!seen.toArray.contains e.born) arr),y.born<es.length/\∃i,∃hi:i<arr.size,y=arr[i]/\i∉seen:=fun y hy=>by
       rw[Array.mem_filter] at hy;obtain⟨hy1,hy2⟩:=hy;obtain⟨i,hi,rfl⟩:=Array.getElem_of_mem hy1;refine⟨by rw[born i hi];omega,i,hi,rfl,fun hs=>?_⟩;rw[born i hi] at hy2;simp[hs] at hy2
      have hall:(Array.filter (fun e=>!seen.toArray.contains e.born) arr).size=0->∀i,i<es.length->i∈seen:=fun hz i hi=>by
       apply Classical.byContradiction;intro hns;have hia:i<arr.size:=by omega
       have:arr[i]∈(Array.filter (fun e=>!seen.toArray.contains e.born) arr):=by
        rw[Array.mem_filter];refine⟨Array.getElem_mem hia,?_⟩;rw[born i hia];simp[hns]
       rw[h_ hz] at this;simp at this
      generalize Array.filter (fun e=>!seen.toArray.contains e.born) arr=L at hmem hall |-;have f1:L.filter (fun y=>decide (y.born<es.length))=L:=Array.filter_eq_self.2 (fun y hy=>by simpa using (hmem y hy).1);have f2:L.filter (fun y=>decide (y.born>=es.length))=#[]:=by
       rw[Array.filter_eq_empty_iff];intro y hy;have:=(hmem y hy).1;simp;omega
      simp only[f1,f2,Array.append_empty];by_cases hz:L.size=0
      ·left
       have hLe:L=#[]:=h_ hz;refine⟨hall hz,?_⟩;subst hLe;simp[choose,Sem.run,Question.forced]
      ·right
       have hne:L.isEmpty=false:=by simp[Array.isEmpty,hz]
       simp only[hne,Bool.false_eq_true,if_false,Array.empty_append,Array.size_map];obtain⟨j,w1,hj,hw1,hch⟩:=run_choose (P:=P) L.size (by omega) E.w;obtain⟨_,i,hi,hLi,hns⟩:=hmem L[j] (Array.getElem_mem hj);have h1':w1.heap[E.β r]? = some (.mapIter (some (E.β m)) es.length seen.toArray es.length):=by
        rcases hw1 with rfl | rfl<;>exact h1
       refine⟨i,hi,hns,w1,hw1,?_⟩;simp only[hch,Result.andThen_ok,Array.getElem?_map,g_ hj,D_,Sem.run_bind,setObj,Sem.run,h1',hLi];simp[born i hi]
     rcases hrun with ⟨hall,hrun⟩ | ⟨i,hi,hns,w1,hw1,hrun⟩
     ·unfold Oper.wp execOp
      simp only[ho,ea,Sem.run_bind,hrun,Result.andThen_ok,Sem.run_pure,Oper.upon];refine⟨_,E,_,_,rfl,rfl,.tup _ _ rfl (fun i c u hc hu=>?_),hst.heap,Le.refl E,hend hall⟩;match i with
      | 0=>simp at hc hu;subst hc hu;exact .d _ _ (.bool _)
      | i+1=>simp at hc
     ·have hie:i<es.length:=by omega
      have hes:es[i]? = some es[i]:=b_ hie;obtain⟨_,k1,k2,_,_⟩:=g3 i es[i] arr[i] hes (g_ hi);have hE1:∃E1,E1.w=w1/\Le E E1/\RepH E1 s.H/\E1.β=E.β:=by
       rcases hw1 with rfl | rfl
       ·exact⟨E,rfl,Le.refl E,hst.heap,rfl⟩
       ·exact⟨E.drew,rfl,ag4 E,aF3 hst.heap,rfl⟩
      obtain⟨E1,rfl,hl1,hr1,hβ1⟩:=hE1;have hlt1:E.β r<E1.w.heap.size:=Nat.lt_of_lt_of_le hlt hl1.size
      obtain⟨hle,hrep⟩:=aB0 hr1 (o0:=.iter m es.length es.length (seen++[i])) (ob:=.mapIter (some (E.β m)) es.length (seen++[i]).toArray es.length) hob rfl (fun _ _ h=>h) (fun i hs=>(hr1.obj r _ hob).2.2 i hs)
       ⟨h0,by
        show (E1.w.heap.setIfInBounds (E1.β r) _)[E1.β r]? = some (.mapIter (some (E1.β m)) _ _ _);rw[hβ1];exact at7 E1.w _ _ hlt1,fun i hs=>(hr1.obj r _ hob).2.2 i hs⟩
      rw[hβ1] at hle hrep;unfold Oper.wp execOp;simp only[ho,ea,Sem.run_bind,hrun,Result.andThen_ok,Sem.run_pure,Oper.upon];refine⟨_,E1.setObj (E.β r) _,_,_,rfl,rfl,.tup _ _ rfl (fun j c u hc hu=>?_),hrep,hl1.trans hle,hgo i es[i] hes hns⟩;match j with
      | 0=>simp at hc hu;subst hc hu;exact .d _ _ (.bool _)
      | 1=>simp at hc hu;subst hc hu;exact .d _ _ ((k1.le hl1).le hle)
      | 2=>simp at hc hu;subst hc hu;exact .d _ _ ((k2.le hl1).le hle)
      | j+3=>simp at hc
   ·exact h.elim
  ·exact h.elim
 ·exact h.elim
end
end Go.Abs
