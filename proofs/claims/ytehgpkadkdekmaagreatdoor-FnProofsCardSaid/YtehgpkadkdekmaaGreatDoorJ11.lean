import Derived.Test.YtehgpkadkdekmaaGreatDoorJ10
import Derived.Shelf.GgSortMore.Stable
import Derived.Lib.ReflectliteSwap
open List renaming getElem?_eq_some_iff->a_,getElem?_eq_getElem->b_,getElem?_append_left->c_,getElem?_set_self->d_,getElem?_set_ne->e_,getElem?_eq_none->f_,getElem?_map->h_,getElem?_append_right->i_,getElem?_range->l_,getD_eq_getElem?_getD->m_,ext_getElem?->n_,getElem?_take->p_,length_take->q_,getElem_mem->r_,mem_of_getElem?->s_,length_set->u_,getElem?_drop->w_,all_eq_true->y_,map_cons->z_,length_append->A_,length_cons->B_,length_map->D_,mem_or_eq_of_mem_set->F_,getElem?_cons_zero->H_,mem_iff_getElem?->L_,getElem?_toArray->M_
open Array renaming getD_eq_getD_getElem?->g_,length_toList->k_,getElem?_eq_getElem->x_,getElem?_eq_some_iff->E_,getElem?_toList->J_
open Nat renaming le_refl->j_,zero_add->o_,mul_le_mul_right->t_,min_eq_left->v_,add_mul->C_,add_sub_cancel_left->I_,sub_self->K_
open Option renaming map_eq_some_iff->G_
set_option linter.unusedSimpArgs false
set_option linter.unusedVariables false
namespace Go.Abs
structure Srtr {α:Type} (P:Program) (g:FuncId) (caps:List C) (sf:FuncId) (caps2:List C) (n m:Nat) (Hs:(Nat->α)->List O) (lt:α->α->Bool):Prop where
 gog:isGo P g=true
 hcaps:caps.all (C.refsLt1 m)=true
 hcaps2:caps2.all (C.refsLt1 m)=true
 len:∀f,(Hs f).length=m
 refs:∀f,(Hs f).all (O.refsLt m)=true
 less:∀(f:Nat->α) (X:List O) (i j:Nat),i<n->j<n->ACalls P g (.d (.int .i64 i) :: .d (.int .i64 j) :: caps) (Hs f++X) (fun c H'=>c=.d (.bool (lt (f i) (f j)))/\H'=Hs f++X)
 swap:∀(f:Nat->α) (X:List O) (i j:Nat),i<n->j<n->al2 P sf (.d (.int .i64 i) :: .d (.int .i64 j) :: caps2) (Hs f++X) (fun c H'=>c=.tup []/\H'=Hs (swp i j f)++X)
theorem al2.mono {P:Program} {f:FuncId} {args:List C} {H:List O} {K K':C->List O->Prop} (h:al2 P f args H K) (hk:∀c H',K c H'->K' c H'):al2 P f args H K':=fun E vs h1 h2 h3=>by
 obtain⟨v,E',c,H',k1,k2,k3,k4,k5⟩:=h E vs h1 h2 h3;exact⟨v,E',c,H',k1,k2,k3,k4,hk _ _ k5⟩
namespace Srtr
variable {α:Type} {P:Program} {g sf:FuncId} {cs ds:List C} {n m:Nat} {Hs:(Nat->α)->List O} {lt:α->α->Bool}
theorem at0 (h:Srtr P g cs sf ds n m Hs lt) (a:Nat->α) (X:List O):(Hs a++X)[m]? = X[0]?:=by
 rw[i_ (by rw[h.len];omega),h.len,K_]
theorem atj (h:Srtr P g cs sf ds n m Hs lt) (a:Nat->α) (X:List O) (j:Nat):(Hs a++X)[m+j]? = X[j]?:=by
 rw[i_ (by rw[h.len];omega),h.len,I_]
theorem set0 (h:Srtr P g cs sf ds n m Hs lt) (a:Nat->α) (X:List O) (o:O):(Hs a++X).set m o=Hs a++X.set 0 o:=by
 rw[List.set_append,if_neg (by rw[h.len];omega),h.len,K_]
theorem setj (h:Srtr P g cs sf ds n m Hs lt) (a:Nat->α) (X:List O) (j:Nat) (o:O):(Hs a++X).set (m+j) o=Hs a++X.set j o:=by
 rw[List.set_append,if_neg (by rw[h.len];omega),h.len,I_]
theorem tk (h:Srtr P g cs sf ds n m Hs lt) (a:Nat->α):(Hs a).take m=Hs a:=List.take_of_length_le (by rw[h.len];omega)
theorem tk0 (h:Srtr P g cs sf ds n m Hs lt) (a:Nat->α) (X:List O):(Hs a++X).take m=Hs a:=by
 rw[List.take_append_of_le_length (by rw[h.len];omega),h.tk]
theorem tkj (h:Srtr P g cs sf ds n m Hs lt) (a:Nat->α) (X:List O) (j:Nat):(Hs a++X).take (m+j)=Hs a++X.take j:=by
 rw[<-h.len a,List.take_length_add_append]
theorem refsj (h:Srtr P g cs sf ds n m Hs lt) (a:Nat->α) (j:Nat):(Hs a).all (O.refsLt (m+j))=true:=by
 have:=h.refs a;simp only[y_] at this |-;exact fun o ho=>O.refsLt_mono (this o ho)
theorem capsj (h:Srtr P g cs sf ds n m Hs lt) (j:Nat):cs.all (C.refsLt1 (m+j))=true:=by
 have:=h.hcaps;simp only[y_] at this |-;exact fun o ho=>C.refsLt1_mono (this o ho)
theorem capsj2 (h:Srtr P g cs sf ds n m Hs lt) (j:Nat):ds.all (C.refsLt1 (m+j))=true:=by
 have:=h.hcaps2;simp only[y_] at this |-;exact fun o ho=>C.refsLt1_mono (this o ho)
theorem ext (h:Srtr P g cs sf ds n m Hs lt) (X:List O) (hX:X.all (O.refsLt (m+X.length))=true):Srtr P g cs sf ds n (m+X.length) (fun f=>Hs f++X) lt:=
 ⟨h.gog,h.capsj _,h.capsj2 _,fun f=>by rw[A_,h.len],fun f=>by rw[List.all_append,h.refsj,hX];rfl,
  fun f Y i j hi hj=>by have:=h.less f (X++Y) i j hi hj;simpa only[List.append_assoc] using this,fun f Y i j hi hj=>by have:=h.swap f (X++Y) i j hi hj;simpa only[List.append_assoc] using this⟩
theorem sub (h:Srtr P g cs sf ds n m Hs lt) (k:Nat) (hk:k<=n):Srtr P g cs sf ds k m Hs lt:=
 ⟨h.gog,h.hcaps,h.hcaps2,h.len,h.refs,fun f X i j hi hj=>h.less f X i j (by omega) (by omega),fun f X i j hi hj=>h.swap f X i j (by omega) (by omega)⟩
end Srtr
end Go.Abs
set_option maxHeartbeats 1000000
namespace Go.Abs
theorem aa8 (b:Nat) (t:TypeId) (fr:Nat×Nat):∀(vs:List Value) (o:Nat) (arr:Array Value) (w:World),w.heap[b]? = some (.cells arr t fr)->o+vs.length<=arr.size ->
  w.setCells b o vs=w.setRow b (arr.toList.take o++vs++arr.toList.drop (o+vs.length)).toArray
 | [],o,arr,w,hg,_=>by
  simp only[World.setCells,List.append_nil,List.length_nil,Nat.add_zero,List.take_append_drop,Array.toArray_toList];rw[setRow_self w b arr t fr hg]
 | v :: r,o,arr,w,hg,hl=>by
  have hi:o<arr.size:=by simp at hl;omega
  rw[World.setCells,setCell_eq_setRow w b o arr t fr v hg,aa8 b t fr r (o+1) (arr.setIfInBounds o v) _ (setRow_heap w b arr _ t fr hg) (by simp at hl |-;omega),setRow_setRow];congr 2;apply n_;intro k;simp only[Array.toList_setIfInBounds,B_];by_cases h1:k<o
  ·rw[c_ (by simp;omega),c_ (by simp;omega),c_ (by simp;omega),c_ (by simp;omega),p_,p_,if_pos (by omega),if_pos h1,e_ (by omega)]
  ·by_cases h2:k=o
   ·subst h2
    rw[c_ (by simp;omega),c_ (by simp;omega),p_,if_pos (by omega),d_ (by simpa using hi),c_ (by simp only[A_,q_,k_,B_];omega),i_ (by simp only[q_,k_];omega)];simp only[q_,k_,v_ (Nat.le_of_lt hi),K_,H_]
   ·by_cases h3:k<o+1+r.length
    ·rw[c_ (by simp;omega),i_ (by simp;omega),c_ (by simp;omega),i_ (by simp;omega)]
     simp only[q_,u_,k_];rw[v_ (by omega),v_ (by omega)];obtain⟨m,rfl⟩:∃m,k=o+1+m:=⟨k - (o+1),by omega⟩;rw[show o+1+m - (o+1)=m by omega,show o+1+m - o=m+1 by omega];rfl
    ·rw[i_ (by simp;omega),i_ (by simp;omega),w_,w_]
     simp only[A_,q_,u_,k_,B_];rw[v_ (by omega),v_ (by omega),e_ (by omega)];congr 1;omega
theorem RepH.setB {E:Env} {H:List O} (h:RepH E H) {r q z e:Nat} {xs:List (List D)} (hr:H[r]? = some (.buf q z e xs)) {b cap:Nat} {arr:Array Value} (k1:(E.τ r).2=.slice (some ⟨b,0,none⟩) xs.length cap) (k2:E.w.heap[b]? = some (.cells arr e (0,0)))
  {i:Nat} (hi:i<xs.length) {y:List D} (hy:y.length=z) {vs:List Value} (hvl:vs.length=z) (hv:∀(k:Nat) (c:D) (v:Value),y[k]? = some c->vs[k]? = some v->RdD E.w E.S c v/\v.oneCell'=true) :
  Le E (E.setRow b (arr.toList.take (i * z)++vs++arr.toList.drop (i * z+vs.length)).toArray) /\
  RepH (E.setRow b (arr.toList.take (i * z)++vs++arr.toList.drop (i * z+vs.length)).toArray) (H.set r (.buf q z e (xs.set i y))):=by
 obtain⟨h1,h3,hz,h5⟩:=h.obj r _ hr;rcases h5 with ⟨ad,_,rfl⟩ | ⟨b',cap',arr0,j1,j2,k3,k4,k5,k6,h4,k8⟩
 ·simp at hi
 rw[k1] at j1;cases j1;rw[k2] at j2;cases j2;have hrl:=(a_.1 hr).1;have hblk:(O.buf q z e xs).block E r b:=by simp only[O.block,k1,ownB];rw[if_neg (by omega)]
 have hiz:i * z+z<=cap * z:=by
  have:(i+1) * z<=cap * z:=t_ _ (by omega);rw[C_] at this;omega
 generalize hnew:(arr.toList.take (i * z)++vs++arr.toList.drop (i * z+vs.length)).toArray=arr';have hcells:=O5 (arr:=arr) (off:=i * z) (vs:=vs.toArray) (by simp[hvl];omega);simp only[List.size_toArray,hvl] at hcells;rw[hvl] at hnew;have hnew2:(arr.toList.take (i * z)++vs++arr.toList.drop (i * z+z)).toArray=arr':=hnew;rw[hnew2] at hcells;have hc1:arr'.size=arr.size:=by rw[<-hnew2];simpa using hcells.1
 have hl0:Le E (E.setRow b arr'):=R7 (h.pv r _ _ hr hblk) k8;refine⟨hl0,?_⟩;refine h.turn (r0:=r) (o0:=.buf q z e (xs.set i y)) hl0 (by simp[Env.setRow,h.N]) (fun r' hr'=>?_) (fun o' ho'=>?_) (fun _ _ _=>rfl) (fun r' o' b' hr' ho' hb=>?_) (fun _ hb=>hb) (fun b' i' hs=>?_) ?_ (fun b2 hb2=>?_)
 ·rw[e_ (fun e=>hr' e.symm)]
 ·rw[d_ hrl] at ho'
  exact(Option.some.inj ho').symm
 ·exact⟨setRow_other E.w b b' arr' (fun e=>hr' (h.apart r' r o' _ b' ho' hr hb (by rw[e];exact hblk))),fun i hs=>hs⟩
 ·have:=h.Slt b' i' hs
  simpa[Env.setRow] using this
 ·refine⟨h1,fun y' hy'=>?_,hz,.inr ⟨b,cap,arr',by rw[u_];exact k1,setRow_heap _ _ _ _ _ _ k2,by intro e;apply k3;simpa using e,by simpa using k4,k5,by rw[hc1];exact k6,fun k j y' c hy' hj=>?_,k8⟩⟩
  ·rcases F_ hy' with hy' | rfl
   ·exact h3 y' hy'
   ·exact hy
  ·by_cases hki:i=k
   ·subst hki
    rw[d_ hi] at hy';simp only[Option.some.injEq] at hy';subst hy';have hjz:j<z:=by rw[<-hy];exact(a_.1 hj).1
    have hvj:vs[j]? = some (vs[j]'(by omega)):=b_ _;obtain⟨g1,g2⟩:=hv j c _ hj hvj;refine⟨_,?_,g2,g1.le hl0⟩;rw[hcells.2,if_pos (by omega),show i * z+j - i * z=j by omega];simp
   ·rw[e_ hki] at hy'
    obtain⟨v,k1,k2,k3⟩:=h4 k j y' c hy' hj;have hjz:j<z:=by rw[<-h3 y' (s_ hy')];exact(a_.1 hj).1
    refine⟨v,?_,k2,k3.le hl0⟩;rw[hcells.2,if_neg]
    ·exact k1
    ·rcases Nat.lt_or_gt_of_ne hki with hlt | hlt
     ·have:(i+1) * z<=k * z:=t_ _ hlt
      rw[C_] at this;omega
     ·have:(k+1) * z<=i * z:=t_ _ hlt
      rw[C_] at this;omega
 ·have hb2':(O.buf q z e xs).block E r b2:=hb2
  exact⟨h.pv r _ b2 hr hb2',by simpa[Env.setRow] using h.lt r _ b2 hr hb2',fun r' o' hr' ho' hb3=>hr' (h.apart r' r o' _ b2 ho' hr hb3 hb2')⟩
theorem al2.swapB {P:Program} {sf:FuncId} (gS:Bool) (hx:∀args W,(callFunc sf args).run P W=((Extern.ReflectliteSwapper.swap gS args).run P W).andThen fun v w'=>.ok (.value v) w')
  (et:TypeId) (ie:TypeInfo) (hie:P.info? et=some ie) (hagg:∀w,(isAgg et).run P w=.ok true w) {H:List O} {r q e:Nat} {xs:List (List D)} (hr:H[r]? = some (.buf q ie.size e xs)) {i j:Nat} (hi:i<xs.length) (hj:j<xs.length) :
  al2 P sf [.d (.int .i64 i),.d (.int .i64 j),.own r q,.val (typeHandle P et)] H (fun c H'=>c=.tup []/\H'=H.set r (.buf q ie.size e ((xs.set i (xs.getD j [])).set j (xs.getD i [])))):=by
 intro E vs hE hsz ha;obtain⟨v0,v1,v2,v3,rfl⟩:∃v0 v1 v2 v3,vs=#[v0,v1,v2,v3]:=by
  match vs,hsz with
  | ⟨[v0,v1,v2,v3]⟩,_=>exact⟨v0,v1,v2,v3,rfl⟩
 have e0:v0=.int .i64 i:=by have:=ha 0 _ v0 rfl rfl;cases this with | d _ _ hd=>cases hd;rfl
 have e1:v1=.int .i64 j:=by have:=ha 1 _ v1 rfl rfl;cases this with | d _ _ hd=>cases hd;rfl
 have e3:v3=typeHandle P et:=by have:=ha 3 _ v3 rfl rfl;cases this;rfl
 have hobj:=hE.obj r _ hr;have e2:v2=(E.τ r).2:=by
  have:=ha 2 _ v2 rfl rfl;cases this with
  | own _ _ _ _ _ _ hv=>exact hv hobj.1.symm
 obtain⟨h1,h3,hz,h5⟩:=hobj;rcases h5 with ⟨ad,_,rfl⟩ | ⟨b,cap,arr,k1,k2,k3,k4,k5,k6,h4,k8⟩
 ·simp at hi
 rw[k1] at e2;subst e0 e1 e2 e3;have rows:∀m,m<xs.length->m * ie.size+ie.size<=arr.size:=fun m hm=>by
  have:(m+1) * ie.size<=cap * ie.size:=t_ _ (by omega);rw[C_] at this;omega
 have seg:∀m,m<xs.length->∃X:List Value,X.length=ie.size/\(∀v∈X,v.oneCell'=true)/\(∀k v,X[k]? = some v->E.w.cell? ⟨b,0+m * ie.size+k,none⟩=some v) /\
   ∀(k:Nat) (c:D) (v:Value),(xs.getD m [])[k]? = some c->X[k]? = some v->RdD E.w E.S c v/\v.oneCell'=true:=fun m hm=>by
  have hxm:xs[m]? = some (xs.getD m []):=by rw[m_,b_ hm];rfl
  have hxl:=h3 _ (s_ hxm);have hrow:=rows m hm;have hget:∀k v,((arr.toList.drop (m * ie.size)).take ie.size)[k]? = some v->k<ie.size/\arr[m * ie.size+k]? = some v:=fun k v hv=>by
   rw[p_] at hv;split at hv
   ·rename_i hk
    rw[w_,J_] at hv;exact⟨hk,hv⟩
   ·simp at hv
  refine⟨(arr.toList.drop (m * ie.size)).take ie.size,by simp;omega,fun v hv=>?_,fun k v hv=>?_,fun k c v hc hv=>?_⟩
  ·obtain⟨k,hk⟩:=List.getElem?_of_mem hv
   obtain⟨hk1,hk2⟩:=hget k v hk;obtain⟨u,g1,g2,g3⟩:=h4 m k _ ((xs.getD m [])[k]'(by omega)) hxm (b_ _);rw[hk2] at g1;cases g1;exact g2
  ·obtain⟨hk1,hk2⟩:=hget k v hv
   rw[cell_of_row _ _ _ _ _ _ k2,o_];exact hk2
  ·obtain⟨hk1,hk2⟩:=hget k v hv
   obtain⟨u,g1,g2,g3⟩:=h4 m k _ c hxm hc;rw[hk2] at g1;cases g1;exact⟨g3,g2⟩
 obtain⟨X,x1,x2,x3,x4⟩:=seg i hi;obtain⟨Y,y1,y2,y3,y4⟩:=seg j hj;have hfr:∀(o:Nat),E.w.frozen? ⟨b,o,none⟩=false:=fun o=>by simp[World.frozen?,k2]
 have hrun:=Lib.run_swap_cells (P:=P) gS et ie hie hagg b 0 xs.length cap i j hi hj X Y x1 y1 x2 y2 E.w x3 y3 (fun k _=>hfr _) (fun k _=>hfr _);have hyl:∀m,m<xs.length->(xs.getD m []).length=ie.size:=fun m hm=>by
  have hxm:xs[m]? = some (xs.getD m []):=by rw[m_,b_ hm];rfl
  exact h3 _ (s_ hxm)
 obtain⟨l1,r1⟩:=hE.setB hr k1 k2 hi (hyl j hj) y1 y4;have s1:=aa8 b e (0,0) Y (0+i * ie.size) arr E.w k2 (by have:=rows i hi;omega);rw[o_] at s1;generalize ha1:(arr.toList.take (i * ie.size)++Y++arr.toList.drop (i * ie.size+Y.length)).toArray=arr1 at l1 r1 s1;have hsz1:arr1.size=arr.size:=by
  rw[<-ha1];have:=rows i hi;simp;omega
 have hh1:(E.setRow b arr1).w.heap[b]? = some (.cells arr1 e (0,0)):=setRow_heap _ _ _ _ _ _ k2;have hrl:=(a_.1 hr).1;obtain⟨l2,r2⟩:=r1.setB (r:=r) (q:=q) (z:=ie.size) (e:=e) (by rw[d_ hrl]) (b:=b) (cap:=cap) (arr:=arr1) (by rw[u_];exact k1) hh1 (i:=j) (by simpa using hj) (hyl i hi) x1 (fun k c v hc hv=>⟨(x4 k c v hc hv).1.le l1,(x4 k c v hc hv).2⟩);have s2:=aa8 b e (0,0) X (0+j * ie.size) arr1 (E.setRow b arr1).w hh1 (by have:=rows j hj;omega);rw[o_] at s2;rw[List.set_set] at r2;refine⟨.tuple #[],_,.tup [],_,?_,r2,l1.trans l2,.tup [] #[] rfl (fun i c v hc=>by simp at hc),rfl,rfl⟩;rw[hx,hrun];simp only[Result.andThen,o_];rw[s1];show Result.ok _ ((E.setRow b arr1).w.setCells b (j * ie.size) X)=_;rw[s2];rfl
theorem aY6 {α:Type} {l:List α} {i:Nat} {a:α} (h:l[i]? = some a):l.set i a=l:=by
 obtain⟨h1,rfl⟩:=a_.1 h;exact List.set_getElem_self h1
theorem aL1 {E:Env} {H:List O} (h:RepH E H) (os:Array Obj):Le E { E with w:=Sort.grow E.w os }/\RepH { E with w:=Sort.grow E.w os } H:=aZ9 h 0 os
theorem H6 {α:Type} (enc:α->List D) (f:Nat->α) {n i:Nat} (h:i<n):((List.range n).map (fun k=>enc (f k)))[i]? = some (enc (f i)):=by
 rw[h_,l_ h];rfl
theorem X7 {P:Program} {ρ:Go.Shelf.Ren} (L:Go.Proofs.LaysGt.n8 P ρ) (t et:TypeId) (it ie:TypeInfo) (hi:P.info? t=some it) (hd:it.desc=.slice et) (hpk:P.packed t=false) (hie:P.info? et=some ie) (ke:Nat)
  (hke:∀w,(Extern.Rtype.kind et).run P w=.ok ke w) (hagg:∀w,(isAgg et).run P w=.ok true w) (f0 f1 sf:FuncId)
  (hf0:P.funcs.findIdx? (·.name == "internal/reflectlite" ++ ".Swapper$" ++ toString (Lib.swapperK 0 ie ke))=some f0) (hf1:P.funcs.findIdx? (·.name == "internal/reflectlite" ++ ".Swapper$" ++ toString (Lib.swapperK 1 ie ke))=some f1)
  (hf:∀n,2<=n->P.funcs.findIdx? (·.name == "internal/reflectlite" ++ ".Swapper$" ++ toString (Lib.swapperK n ie ke))=some sf) (gS:Bool)
  (hx:∀args W,(callFunc sf args).run P W=((Extern.ReflectliteSwapper.swap gS args).run P W).andThen fun v w'=>.ok (.value v) w')
  {α:Type} (enc:α->List D) (henc:∀x,(enc x).length=ie.size) (lt:α->α->Bool) {g:FuncId} {caps:List C} {H:List O} {r q e:Nat} {xs:List α} (hgo:isGo P g=true) (hcaps:caps.all (C.refsLt1 H.length)=true)
  (hrefs:H.all (O.refsLt H.length)=true) (hr:H[r]? = some (.buf q ie.size e (xs.map enc))) (hn:xs.length<=1000000000000)
  (hst:∀(caps2:List C) (n m:Nat) (Hs:(Nat->α)->List O),n<=1000000000000->Srtr P g caps sf caps2 n m Hs lt->∀f0,ACalls P (ρ.f 15) [.agg [.fn g caps,.xfn sf caps2],.d (.int .i64 n)] (Hs f0) (fun c H'=>c=.tup []/\∃f1,((List.range n).map f1).Perm ((List.range n).map f0)/\srt lt f1 0 n/\H'=Hs f1))
  (hless:∀(f:Nat->α) (X:List O) (i j:Nat),i<xs.length->j<xs.length->ACalls P g (.d (.int .i64 i) :: .d (.int .i64 j) :: caps) (H.set r (.buf q ie.size e ((List.range xs.length).map fun k=>enc (f k)))++X) (fun c H'=>c=.d (.bool (lt (f i) (f j)))/\H'=H.set r (.buf q ie.size e ((List.range xs.length).map fun k=>enc (f k)))++X)) :
  ACalls P (ρ.f 8) [.ifc t (.own r q),.fn g caps] H (fun c H'=>c=.tup []/\∃ys:List α,ys.Perm xs/\ys.Pairwise (fun a b=>lt b a=false)/\H'=H.set r (.buf q ie.size e (ys.map enc))):=by
 intro E vs hE hsz ha;obtain⟨v0,v1,rfl⟩:∃v0 v1,vs=#[v0,v1]:=by
  match vs,hsz with
  | ⟨[v0,v1]⟩,_=>exact⟨v0,v1,rfl⟩
 have hrl:=(a_.1 hr).1;have hobj:=hE.obj r _ hr;have e0:v0=.iface t (E.τ r).2:=by
  have:=ha 0 _ v0 rfl rfl;cases this with
  | ifc _ _ v h=>cases h with | own _ _ _ _ _ _ hv=>rw[hv hobj.1.symm]
 have hfn:=ha 1 _ v1 rfl rfl;obtain⟨lb,e1,hlb1,hlb2⟩:∃lb:Array Value,v1=.func (.func g) #[] lb/\lb.size=caps.length/\∀(i:Nat) (c:C) (v:Value),caps[i]? = some c->lb[i]? = some v->Rd E c v:=by
  cases hfn with
  | fn _ _ vs hl hr=>exact⟨vs,rfl,hl,hr⟩
 subst e0 e1;by_cases h1:xs.length<=1
 ·have hsl:∃p c,(E.τ r).2=.slice p xs.length c:=by
   obtain⟨_,_,_,h5⟩:=hobj;rcases h5 with ⟨ad,g5,g6⟩ | ⟨b,cap,arr,g5,_⟩
   ·have:xs.length=0:=by cases xs with | nil=>rfl | cons=>simp at g6
    exact⟨ad,0,by rw[g5,this]⟩
   ·rw[D_] at g5;exact⟨_,cap,g5⟩
  obtain⟨p,c,hsl⟩:=hsl;rw[hsl];obtain⟨ff,hff⟩:∃ff,P.funcs.findIdx? (·.name == "internal/reflectlite" ++ ".Swapper$" ++ toString (Lib.swapperK xs.length ie ke))=some ff:=by
   rcases Nat.lt_or_ge xs.length 1 with h0 | h0
   ·rw[show xs.length=0 by omega];exact⟨_,hf0⟩
   ·rw[show xs.length=1 by omega];exact⟨_,hf1⟩
  refine(Go.Proofs.Any.sort_SliceStable_tiny L t et it ie hi hd hpk hie ke hke p xs.length c h1 ff hff (.func g) #[] lb E.w).mono ?_;rintro ex w' ⟨rfl,os,rfl⟩;obtain⟨l1,r1⟩:=aL1 hE os;refine⟨_,.tup [],_,H,rfl,rfl,r1,l1,.tup [] #[] rfl (fun i c v hc=>by simp at hc),rfl,rfl,xs,.refl _,?_,?_⟩
  ·match xs,h1 with
   | [],_=>exact List.Pairwise.nil
   | [x],_=>exact List.pairwise_singleton _ _
  ·rw[aY6 hr]
 ·have hq1:=hobj.1
  obtain⟨_,_,_,h5⟩:=hobj;rcases h5 with ⟨ad,g5,g6⟩ | ⟨b,cap,arr,g5,_⟩
  ·have:xs.length=0:=by cases xs with | nil=>rfl | cons=>simp at g6
   omega
  rw[D_] at g5;rw[g5];refine(Go.Proofs.Any.sort_SliceStable_of_stable L t et it ie hi hd hpk hie ke hke (some ⟨b,0,none⟩) xs.length cap (by omega) sf (hf _ (by omega)) (.func g) #[] lb E.w (fun w'=>∃E' H',E'.w=w'/\RepH E' H'/\Le E E'/\H'.length=H.length/\∃ys:List α,ys.Perm xs/\ys.Pairwise (fun a b=>lt b a=false)/\H'=H.set r (.buf q ie.size e (ys.map enc))) ?_).mono ?_;rotate_left
  ·rintro ex w' ⟨rfl,E',H',k1,k2,k3,k4,k5⟩
   exact⟨_,.tup [],E',H',rfl,k1,k2,k3,.tup [] #[] rfl (fun i c v hc=>by simp at hc),k4,rfl,k5⟩
  have hB:Go.Proofs.sliceBound P et ie ke (some ⟨b,0,none⟩) xs.length cap=#[.slice (some ⟨b,0,none⟩) xs.length cap,typeHandle P et]:=by
   unfold Go.Proofs.sliceBound;rw[if_neg (Go.Proofs.swapperK_gt _ _ _ (by omega))]
  rw[hB];have hW:Go.Proofs.stableWorld P ρ t (some ⟨b,0,none⟩) xs.length cap E.w=Sort.grow E.w #[.cells #[.slice (some ⟨b,0,none⟩) xs.length cap] t,.cells #[.pointer (some ⟨P.globals.size,t,none⟩),.pointer (some ⟨E.w.heap.size,0,none⟩),.int .u64 151] (ρ.t 36)]:=by
   unfold Go.Proofs.stableWorld;rw[Sort.alloc_eq_grow,Sort.alloc_eq_grow,Sort.grow_grow];rfl
  rw[hW];obtain⟨l1,r1⟩:=aL1 hE #[.cells #[.slice (some ⟨b,0,none⟩) xs.length cap] t,.cells #[.pointer (some ⟨P.globals.size,t,none⟩),.pointer (some ⟨E.w.heap.size,0,none⟩),.int .u64 151] (ρ.t 36)];generalize (#[.cells #[.slice (some ⟨b,0,none⟩) xs.length cap] t,.cells #[.pointer (some ⟨P.globals.size,t,none⟩),.pointer (some ⟨E.w.heap.size,0,none⟩),.int .u64 151] (ρ.t 36)]:Array Obj)=os at l1 r1
  -- rows az a function of their number
  obtain⟨x0,hx0⟩:∃x0,xs[0]? = some x0:=⟨_,b_ (by omega)⟩;have hrows:(List.range xs.length).map (fun k=>xs.getD k x0)=xs:=by
   apply n_;intro k;rw[h_];by_cases hk:k<xs.length
   ·rw[l_ hk,b_ hk]
    simp[m_,hk]
   ·rw[f_ (by simpa using hk),f_ (by omega)];rfl
  have henc0:(List.range xs.length).map (fun k=>enc (xs.getD k x0))=xs.map enc:=by
   conv=>rhs;rw[<-hrows]
   rw[List.map_map];rfl
  have hHs0:H.set r (.buf q ie.size e ((List.range xs.length).map fun k=>enc (xs.getD k x0)))=H:=by rw[henc0,aY6 hr]
  have S:Srtr P g caps sf [.own r q,.val (typeHandle P et)] xs.length H.length (fun f=>H.set r (.buf q ie.size e ((List.range xs.length).map fun k=>enc (f k)))) lt:=by
   refine⟨hgo,hcaps,by simp[C.refsLt1,hrl],fun f=>by simp,fun f=>?_,hless,fun f X i j hi hj=>?_⟩
   ·rw[y_] at hrefs |-
    intro o ho;rcases F_ ho with ho | rfl
    ·exact hrefs o ho
    ·rfl
   ·have hb:(H.set r (.buf q ie.size e ((List.range xs.length).map fun k=>enc (f k)))++X)[r]? = some (.buf q ie.size e ((List.range xs.length).map fun k=>enc (f k))):=by
     rw[c_ (by simpa using hrl),d_ hrl]
    refine(al2.swapB gS hx et ie hie hagg hb (i:=i) (j:=j) (by simpa using hi) (by simpa using hj)).mono ?_;rintro c H' ⟨rfl,rfl⟩;refine⟨rfl,?_⟩;rw[List.set_append_left _ _ (by simpa using hrl),List.set_set];congr 3;have h2:=bs8 xs.length i j (fun k=>enc (f k)) hi hj;have e1:((List.range xs.length).map (fun k=>enc (f k))).getD j []=enc (f j):=by rw[m_,H6 enc f hj];rfl
    have e2:((List.range xs.length).map (fun k=>enc (f k))).getD i []=enc (f i):=by rw[m_,H6 enc f hi];rfl
    rw[e1,e2,<-h2];apply List.map_congr_left;intro k _;unfold swp;split
    ·rfl
    ·split<;>rfl
  have hc:=hst _ _ _ _ hn S (fun k=>xs.getD k x0);simp only[hHs0] at hc;refine(hc { E with w:=Sort.grow E.w os } #[.agg #[.func (.func g) #[] lb,.func (.func sf) #[] #[.slice (some ⟨b,0,none⟩) xs.length cap,typeHandle P et]],.int .i64 xs.length] r1 rfl (fun i c v hc hv=>?_)).mono ?_
  ·match i with
   | 0 =>
    simp only[H_,Option.some.injEq] at hc;simp at hv;subst hc hv;refine .agg _ _ rfl (fun i v hv=>?_) (fun i c v hc hv=>?_)
    ·match i with
     | 0=>simp at hv;subst hv;rfl
     | 1=>simp at hv;subst hv;rfl
     | i+2=>simp at hv
    ·match i with
     | 0 =>
      simp at hc hv;subst hc hv;exact(Rd.fn g caps lb hlb1 hlb2).le l1
     | 1 =>
      simp at hc hv;subst hc hv;refine .xfn _ _ _ rfl (fun i c v hc hv=>?_);match i with
      | 0 =>
       simp at hc hv;subst hc hv;rw[<-g5];exact(Rd.own (E:=E) r q _ (by rw[hE.N];exact hrl) (by rw[g5];rfl) (by omega) (fun _=>rfl)).le l1
      | 1 =>
       simp at hc hv;subst hc hv;exact .val _
      | i+2=>simp at hc
     | i+2=>simp at hc
   | 1 =>
    simp at hc hv;subst hc hv;exact .d _ _ (.int _ _)
   | i+2=>simp at hc
  ·rintro ex w' ⟨v,rr,E',H',rfl,rfl,h3,h4,h5,h6,rfl,f1,p1,s1,rfl⟩
   have hv:v=.tuple #[]:=by
    cases h5 with
    | tup _ vs hl _=>simp at hl;subst hl;rfl
   subst hv;refine⟨rfl,E',_,rfl,h3,l1.trans h4,h6,(List.range xs.length).map f1,?_,?_,?_⟩
   ·rw[hrows] at p1;exact p1
   ·rw[List.pairwise_map,List.pairwise_iff_getElem]
    intro i j hi hj hij;simp only[List.length_range] at hi hj;simp only[List.getElem_range];exact s1 i j (Nat.zero_le _) hij hj
   ·rw[List.map_map];rfl
def Env.still (E:Env):Env:={ E with S:=fun b _=>b<E.w.heap.size,N:=0,pv:=fun _=>False }
theorem RepH.still (E:Env):RepH E.still []:=
 ⟨rfl,fun r o h=>by simp at h,fun r o b h=>by simp at h,fun r o b h=>by simp at h,fun r r' o o' b h=>by simp at h,fun b i h=>h⟩
theorem ACalls.peek {P:Program} {f:FuncId} {args args':List C} {H:List O} {d:D} (h:ACalls P f args' [] (fun c _=>c=.d d)) (hf:d.flat=true) (hl:args'.length=args.length)
  (hp:∀E:Env,RepH E H->∀(i:Nat) (c c':C) (v:Value),args[i]? = some c->args'[i]? = some c'->Rd E c v->Rd E.still c' v):ACalls P f args H (fun c H'=>c=.d d/\H'=H):=by
 intro E vs hE hs ha;refine(h E.still vs (RepH.still E) (by rw[hl];exact hs) (fun i c' v hc' hv=>?_)).mono ?_
 ·have hi:i<args.length:=by rw[<-hl];exact(a_.1 hc').1
  exact hp E hE i _ c' v (b_ hi) hc' (ha i _ v (b_ hi) hv)
 ·rintro ex w' ⟨v,c,E',H',rfl,rfl,h3,h4,h5,h6,rfl⟩
  have hb:∀b,b<E.w.heap.size->E'.w.heap[b]? = E.w.heap[b]?:=fun b hb=>h4.blk b hb (fun h=>h);have hl:Le E { E with w:=E'.w }:=by
   refine⟨h4.os,h4.tape,h4.output,h4.size,j_ _,fun _ _=>rfl,fun _ _=>⟨j_ _,fun _=>rfl⟩,fun _ _ hs=>hs,fun b i hs=>?_,fun b hlt _=>hb b hlt,fun _ _ hs=>.inl hs,fun _ hp=>.inl hp,fun b i arr n hs hh=>(hb b (hE.Slt b i hs)).trans hh⟩;show E'.w.cell? _=_;simp only[World.cell?,hb b (hE.Slt b i hs)]
  refine⟨v,.d d,{ E with w:=E'.w },H,rfl,rfl,?_,hl,?_,rfl,rfl,rfl⟩
  ·exact hE.keep hl rfl (fun _ _=>rfl) (fun r o b ho hbk=>⟨hb b (hE.lt r o b ho hbk),fun _ hs=>hs⟩) (fun _ hp=>hp) (fun b i hs=>Nat.lt_of_lt_of_le (hE.Slt b i hs) h4.size)
  ·cases h5 with
   | d _ _ hd=>exact .d _ _ (bb8 hf hd)
theorem au4 {E:Env} {H:List O} (hE:RepH E H) {x:D} {v:Value} (h:RdD E.w E.S x v):RdD E.still.w E.still.S x v:=
 h.mono (fun b i hs=>hE.Slt b i hs) (fun _ _ _=>rfl) (fun _ _ _ _ _ hh=>hh)
theorem bD5 {E:Env} {H:List O} (hE:RepH E H) {r q z e:Nat} {xs:List (List D)} (hr:H[r]? = some (.buf q z e xs)):RdD E.still.w E.still.S (.sl xs) (E.τ r).2:=by
 have hobj:=hE.obj r _ hr;obtain⟨h1,h3,hz,h5⟩:=hobj;rcases h5 with ⟨ad,g5,rfl⟩ | ⟨b,cap,arr,k1,k2,k3,k4,k5,k6,h4,k8⟩
 ·rw[g5];exact .nil _ _
 ·rw[k1]
  have hblk:(O.buf q z e xs).block E r b:=by simp only[O.block,k1,ownB];rw[if_neg (by have:=List.length_pos_iff.2 k3;omega)]
  have hlb:=hE.lt r _ _ hr hblk;refine .sl b 0 cap z xs (fun i j=>arr.getD (i * z+j) undef) k3 k4 k5 h3 (fun i j hi hj=>?_) (fun i j x c hi hj=>?_)
  ·have hxz:=h3 xs[i] (r_ _)
   obtain⟨v,k2',k3',k4'⟩:=h4 i j xs[i] (xs[i][j]'(by omega)) (b_ hi) (b_ _);refine⟨hlb,?_,?_⟩
   ·simp only[o_]
    show E.w.cell? _=_;rw[cell_of_row _ _ _ _ _ _ k2,k2',g_,k2'];rfl
   ·rw[g_,k2'];exact k3'
  ·obtain⟨v,k2',k3',k4'⟩:=h4 i j x c hi hj
   rw[g_,k2'];exact au4 hE k4'
theorem bq9 {E:Env} {H:List O} (hE:RepH E H) {rb r q z e:Nat} {xs:List (List D)} (hb:H[rb]? = some (.box [.own r q])) (hr:H[r]? = some (.buf q z e xs)) {v:Value} (hv:Rd E (.ptr rb 0) v):Rd E.still (.cptr [.sl xs]) v:=by
 cases hv with
 | ptr _ _ hN =>
  obtain⟨arr,e',h1,h2,h3,h4⟩:=hE.obj rb _ hb;have hlb:E.β rb<E.w.heap.size:=(E_.1 h1).1;have hs:arr.size=1:=h2;have hv0:arr[0]? = some (arr[0]'(by omega)):=x_ _;obtain⟨g1,g2⟩:=h3 0 _ _ rfl hv0;have hq:=(hE.obj r _ hr).1;refine .cptr _ 0 _ (fun _=>arr[0]'(by omega)) (fun j hj=>?_) (fun j c hc=>?_)
  ·have hj0:j=0:=by simp at hj;exact hj
   subst hj0;refine⟨hlb,?_,g2⟩;show E.w.cell? _=_;rw[cell_of_row _ _ _ _ _ _ h1];exact hv0
  ·have hj0:j=0:=by have:=(a_.1 hc).1;simp at this;exact this
   subst hj0;simp at hc;subst hc;generalize arr[0]'(by omega)=u at g1;cases g1 with
   | own _ _ _ _ _ _ hvv=>rw[hvv hq.symm];exact bD5 hE hr
theorem ca0 {P:Program} {g:FuncId} {H:List O} {rb r q z e:Nat} (hb:H[rb]? = some (.box [.own r q])) (hne:rb≠r) (hrl:r<H.length) {xs:List (List D)} {i j:Int} {b:Bool} (X:List O)
  (h:ACalls P g [.d (.int .i64 i),.d (.int .i64 j),.cptr [.sl xs]] [] (fun c _=>c=.d (.bool b))) :
  ACalls P g [.d (.int .i64 i),.d (.int .i64 j),.ptr rb 0] (H.set r (.buf q z e xs)++X) (fun c H'=>c=.d (.bool b)/\H'=H.set r (.buf q z e xs)++X):=by
 have hbl:=(a_.1 hb).1;refine ACalls.peek h rfl rfl (fun E hE k c c' v hc hc' hv=>?_);match k with
 | 0=>simp at hc hc';subst hc hc';cases hv with | d _ _ hd=>exact .d _ _ (au4 hE hd)
 | 1=>simp at hc hc';subst hc hc';cases hv with | d _ _ hd=>exact .d _ _ (au4 hE hd)
 | 2 =>
  simp at hc hc';subst hc hc';refine bq9 hE (rb:=rb) (r:=r) (q:=q) (z:=z) (e:=e) ?_ ?_ hv
  ·rw[c_ (by simpa using hbl),e_ (Ne.symm hne)];exact hb
  ·rw[c_ (by simpa using hrl),d_ hrl]
 | k+3=>simp at hc
def aX3 (P:Program) (s:St) (t u:TypeId) (y:C) (K:C->List O->Prop):Prop:=
 match D6 P t,J3 s y with
 | some (e,z,by_),.d (.sl ys)=>(P.underlying u).isSome=true/\q9 P u=true/\(∀y',y'∈ys->y'.length=z)/\ys.length<=maxLen/\ys.length * by_<=140737488355328/\K (.own s.H.length 1) (s.H++[.buf 1 z e ys])
 | _,_=>False
theorem bk7 {P:Program} {s:St} {o:Oper} {K:C->List O->Prop} {x y:Operand} {t u:TypeId} (ho:o.op=.call { callee:=.builtin .append,args:=#[x,y],argTypes:=#[t,u] })
  (hx:l5 x=true) (hy:l5 y=true) (hev:ev s x=.nil0) (h:aX3 P s t u (ev s y) K):G6 P s o K:=by
 unfold aX3 at h;split at h
 ·rename_i e z by_ ys ht hys
  obtain⟨_,hu,hyz,h1,h2,hk⟩:=h;have hz:0<z:=(J8 ht).2.1;intro E ns a hst;have hv:=q8 hst (o9 hst y hy);rw[hys] at hv;have hs:Src P E z u ys (a.eval y):=by
   generalize a.eval y=v at hv |-;cases hv with
   | d _ _ hd=>exact bp0 hu hyz hd
  obtain⟨L,hL,hfx⟩:=hs.cells;have hvx:=o9 hst x hx;rw[hev] at hvx;generalize hg:a.eval x=v at hvx;cases hvx with
  | nil0 ad =>
   obtain⟨hl0,hH0⟩:=ad1 hst.heap ad e hz;have hr:(s.H++[O.buf 0 z e []])[s.H.length]? = some (.buf 0 z e []):=by simp
   have hτ0:((E.ghost ad).τ s.H.length).2=.slice ad 0 0:=by simp[Env.ghost,hst.heap.N]
   obtain⟨v',E',k1,k2,k3,k4,k5⟩:=an4 (P:=P) (ty:=o.type) hH0 ht hs.plain hr (x:=a.eval y) hL hs.len hfx (by simpa using h1) (by simpa using h2);rw[hτ0] at k1;have k1:(Builtin.append_ #[t,u] o.type #[.slice ad 0 0,a.eval y]).run P E.w=.ok v' E'.w:=k1;unfold Oper.wp execOp;simp only[ho,resolve,invoke,builtin,Sem.run_bind,Sem.run_pure,Result.andThen_ok,List.map_toArray,z_,List.map_nil,hg,k1,Oper.upon];exact⟨v',E',.own s.H.length 1,_,rfl,rfl,.own _ _ v' (by rw[k3.N];simp) k5 (by rw[k4];exact j_ _) (fun _=>by rw[k4]),k3,hl0.trans k2,by simpa using hk⟩
 ·exact h.elim
def bA6 (P:Program) (s:St) (o:Oper) (K:C->List O->Prop):Prop:=
 match o.op with
 | .call c =>
  (match c.callee with
  | .builtin .append=>(match c.args.toList,c.argTypes.toList with
   | [x,y],[t,u]=>l5 x=true/\l5 y=true/\(match ev s x with
    | .nil0=>aX3 P s t u (ev s y) K
    | _=>U7 P s t u (ev s x) (ev s y) K)
   | _,_=>False)
  | _=>K8 P s o K)
 | _=>K8 P s o K
theorem aR1 {P:Program} {s:St} {o:Oper} {K:C->List O->Prop} (h:bA6 P s o K):G6 P s o K:=by
 unfold bA6 at h;split at h
 ·rename_i c ho
  obtain⟨callee,args,argTypes⟩:=c;dsimp only at h;split at h
  ·split at h
   ·rename_i x y t u hargs hts
    have e1:args=#[x,y]:=Array.toList_inj.1 (by simpa using hargs);have e2:argTypes=#[t,u]:=Array.toList_inj.1 (by simpa using hts);subst e1 e2;obtain⟨h1,h2,h3⟩:=h;split at h3
    ·exact bk7 ho h1 h2 (by assumption) h3
    ·exact ap2 ho h1 h2 h3
   ·exact h.elim
  ·exact u7 h
 ·exact u7 h
def bT8 (P:Program) (n:Nat) (K:St->Prop):List Oper->St->Prop
 | [],⟨σ,H⟩=>K ⟨σ,H⟩
 | o :: rest,⟨σ,H⟩=>H9 n o=true/\o.guard=none/\bA6 P ⟨σ,H⟩ o (kR (bT8 P n K rest) ⟨σ,H⟩ o.dst)
theorem az9 {P:Program} {n:Nat} {K:St->Prop} {ops:Array Oper} {E0:Env}:∀(os:List Oper) (l:List Nat) (s:St) (E:Env) (a:Act),l.map (ops[·]?)=os.map some->RepSt E n s a->Le E0 E->bT8 P n K os s ->
  wpOps P ops (Behind n E0 K) l a E.w
 | [],l,s,E,a,hl,hst,hle,h=>by
  have:l=[]:=by simpa using hl
  subst this;exact⟨rfl,E,s,rfl,hst,hle,h⟩
 | o :: os,l,s,E,a,hl,hst,hle,h=>by
  cases l with
  | nil=>simp at hl
  | cons i l =>
   simp only[z_,List.cons.injEq] at hl;obtain⟨ho,hl⟩:=hl;unfold bT8 at h;obtain⟨hd,hg,h⟩:=h;have hdst:∀d,o.dst=some d->d<n:=fun d hd'=>by
    unfold H9 at hd;rw[hd'] at hd;simpa using hd
   rw[Go.wpOps_cons];refine af1 (n:=n) ho hg ((aR1 h).run hst (fun v E' c H' h1 h2 h3 h4=>?_));exact az9 os l _ E' _ hl (hst.put h3 h2 hdst h1) (hle.trans h3) h4
theorem AW.regS {P:Program} {n:Nat} {f:FuncId} {n0:Nat} {R:C->List O->Prop} {id:Nat} {ops:Array Oper} {k:List Item} {s:St} (h:bT8 P n (AW P f n n0 R k) ops.toList s):AW P f n n0 R (.code (.region id ops false) :: k) s:=by
 refine AW.of_behind (k':=k) fun _ E a b cs hst=>?_;have hw:=az9 (ops:=ops) ops.toList (List.range ops.size) s E a (by
  apply n_;intro j;simp only[h_];by_cases hj:j<ops.size
  ·rw[l_ hj]
   simp[hj]
  ·rw[f_ (by simpa using hj),f_ (by simpa using hj)]
   rfl) hst (Le.refl E) h
 obtain⟨e,a',w',⟨rfl,E',s',rfl,h1,h2,h3⟩,harr⟩:=wp_region (id:=id) hw b k cs;exact⟨a',E',s',harr,h1,h2,h3⟩
attribute [go_sem] aX3.eq_1 bA6.eq_def bT8.eq_1 bT8.eq_2
theorem RepH.frzB {E:Env} {H:List O} (h:RepH E H) {r q z e:Nat} {xs:List (List D)} (hr:H[r]? = some (.buf q z e xs)) :
  ∃E',E'.w=E.w/\Le E E'/\RepH E' (H.set r .dead)/\E'.β=E.β/\RdD E'.w E'.S (.sl xs) (E.τ r).2/\(∀b i,E'.S b i->E.S b i\/(O.buf q z e xs).block E r b):=by
 obtain⟨h1,h2,h3,h4⟩:=h.obj r _ hr;rcases h4 with ⟨ad,h5,rfl⟩ | ⟨b0,cap,arr,h5,h6,h7,h8,h9,h10,h11,h12⟩
 ·refine⟨E,rfl,Le.refl E,?_,rfl,by rw[h5];exact .nil _ _,fun b i hs=>.inl hs⟩
  refine h.turn (r0:=r) (o0:=.dead) (Le.refl E) (by simp[h.N]) (fun r' hr'=>?_) (fun o' ho'=>?_) (fun _ _ _=>rfl) (fun r' o' b hr' ho' hb=>⟨rfl,fun i hs=>hs⟩) (fun _ hb=>hb) (fun b i hs=>h.Slt b i hs) trivial (fun b hb=>by simp[O.block] at hb)
  ·rw[e_ (fun e=>hr' e.symm)]
  ·rw[d_ (a_.1 hr).1] at ho'
   exact(Option.some.inj ho').symm
 ·have hx:=List.length_pos_iff.2 h7
  have hblk:(O.buf q z e xs).block E r b0:=by simp[O.block,h5,ownB];omega
  have hpv:=h.pv r _ _ hr hblk;have hlb:=h.lt r _ _ hr hblk;have hl:Le E (E.freezeBlk b0):=by
   refine⟨rfl,rfl,rfl,j_ _,j_ _,fun _ _=>rfl,fun _ _=>⟨j_ _,fun _=>rfl⟩,fun _ _ hs=>.inl hs,fun _ _ _=>rfl,fun _ _ _=>rfl,fun b i hs=>?_,fun _ hp=>.inl hp,fun _ _ _ _ _ hh=>hh⟩;rcases hs with hs | rfl
   ·exact .inl hs
   ·exact .inr (.inr hpv)
  refine⟨E.freezeBlk b0,rfl,hl,?_,rfl,?_,fun b i hs=>?_⟩
  ·refine h.turn (r0:=r) (o0:=.dead) hl (by simp[Env.freezeBlk,h.N]) (fun r' hr'=>?_) (fun o' ho'=>?_) (fun _ _ _=>rfl) (fun r' o' b hr' ho' hb=>⟨rfl,fun i hs=>?_⟩) (fun _ hb=>hb) (fun b i hs=>?_) trivial (fun b hb=>by simp[O.block] at hb)
   ·rw[e_ (fun e=>hr' e.symm)]
   ·rw[d_ (a_.1 hr).1] at ho'
    exact(Option.some.inj ho').symm
   ·rcases hs with hs | rfl
    ·exact hs
    ·exact absurd (h.apart r' r o' _ _ ho' hr hb hblk) hr'
   ·rcases hs with hs | rfl
    ·exact h.Slt b i hs
    ·exact hlb
  ·rw[h5]
   refine .sl b0 0 cap z xs (fun i j=>arr.getD (i * z+j) undef) h7 h8 h9 h2 (fun i j hi hj=>?_) (fun i j x c hi hj=>?_)
   ·have hxz:=h2 xs[i] (r_ _)
    obtain⟨v,k2,k3,k4⟩:=h11 i j xs[i] (xs[i][j]'(by omega)) (b_ hi) (b_ _);refine⟨.inr rfl,?_,?_⟩
    ·simp only[o_]
     show E.w.cell? _=_;rw[cell_of_row _ _ _ _ _ _ h6,k2,g_,k2];rfl
    ·rw[g_,k2];exact k3
   ·obtain⟨v,k2,k3,k4⟩:=h11 i j x c hi hj
    rw[g_,k2];exact k4.le hl
  ·rcases hs with hs | rfl
   ·exact .inl hs
   ·exact .inr hblk
theorem RepH.frzBox {E:Env} {H:List O} (h:RepH E H) {rb j r q z e:Nat} {cs:List C} {xs:List (List D)} (hb:H[rb]? = some (.box cs)) (hj:cs[j]? = some (.own r q)) (hr:H[r]? = some (.buf q z e xs)) (hne:rb≠r) :
  ∃E',E'.w=E.w/\Le E E'/\RepH E' ((H.set r .dead).set rb (.box (cs.set j (.d (.sl xs))))):=by
 obtain⟨E',e1,hl,hH,eβ,hd,hS⟩:=h.frzB hr;refine⟨E',e1,hl,?_⟩;have hb':(H.set r .dead)[rb]? = some (.box cs):=by rw[e_ (Ne.symm hne)];exact hb
 have hlen:rb<(H.set r .dead).length:=(a_.1 hb').1;have at0:∀(r':Nat) (o:O),((H.set r .dead).set rb (.box (cs.set j (.d (.sl xs)))))[r']? = some o->(r'=rb/\o=.box (cs.set j (.d (.sl xs))))\/(H.set r .dead)[r']? = some o:=by
  intro r' o ho;by_cases e:r'=rb
  ·subst e
   rw[d_ hlen] at ho;exact .inl ⟨rfl,(Option.some.inj ho).symm⟩
  ·rw[e_ (fun e'=>e e'.symm)] at ho
   exact .inr ho
 have old:∀(r':Nat) (o:O),((H.set r .dead).set rb (.box (cs.set j (.d (.sl xs)))))[r']? = some o->∃o',(H.set r .dead)[r']? = some o'/\o'.block E' r'=o.block E' r':=by
  intro r' o ho;rcases at0 r' o ho with ⟨rfl,rfl⟩ | ho
  ·exact⟨_,hb',rfl⟩
  ·exact⟨o,ho,rfl⟩
 refine⟨by rw[u_];exact hH.N,fun r' o ho=>?_,fun r' o b ho hk=>?_,fun r' o b ho hk=>?_,fun r1 r2 o1 o2 b h1 h2 k1 k2=>?_,hH.Slt⟩
 ·rcases at0 r' o ho with ⟨rfl,rfl⟩ | ho
  ·obtain⟨arr,ty,a1,a2,a3,a4⟩:=hH.obj _ _ hb'
   obtain⟨arr2,ty2,c1,c2,c3,c4⟩:=h.obj _ _ hb;rw[eβ,e1] at a1;rw[c1] at a1;cases a1;refine⟨arr,ty,by rw[eβ,e1];exact c1,by simpa using a2,fun i c v hc hv=>?_,a4⟩;by_cases hij:i=j
   ·subst hij
    have hjl:=(a_.1 hj).1;rw[d_ hjl] at hc;obtain⟨k1,k2⟩:=c3 i _ v hj hv;refine⟨?_,k2⟩;rw[<-Option.some.inj hc];cases k1 with
    | own _ _ _ _ _ _ hvv=>rw[hvv (h.obj r _ hr).1.symm];exact .d _ _ hd
   ·rw[e_ (fun e'=>hij e'.symm)] at hc
    exact a3 i c v hc hv
  ·exact hH.obj r' o ho
 ·obtain⟨o',h1,h2⟩:=old r' o ho
  exact hH.pv r' o' b h1 (by rw[h2];exact hk)
 ·obtain⟨o',h1,h2⟩:=old r' o ho
  exact hH.lt r' o' b h1 (by rw[h2];exact hk)
 ·obtain⟨o1',g1,e1⟩:=old r1 o1 h1
  obtain⟨o2',g2,e2⟩:=old r2 o2 h2;exact hH.apart r1 r2 o1' o2' b g1 g2 (by rw[e1];exact k1) (by rw[e2];exact k2)
theorem AW.frzBox {P:Program} {f:FuncId} {n n0:Nat} {R:C->List O->Prop} {k:List Item} {s:St} (rb j r:Nat) {q z e:Nat} {cs:List C} {xs:List (List D)} (hb:s.H[rb]? = some (.box cs)) (hj:cs[j]? = some (.own r q)) (hr:s.H[r]? = some (.buf q z e xs)) (hne:rb≠r)
  (h:AW P f n n0 R k ⟨s.σ,(s.H.set r .dead).set rb (.box (cs.set j (.d (.sl xs))))⟩):AW P f n n0 R k s:=by
 refine AW.recast (s':=⟨s.σ,(s.H.set r .dead).set rb (.box (cs.set j (.d (.sl xs))))⟩) (fun hn0 E a hst=>?_);obtain⟨E',e1,hl,hH⟩:=hst.heap.frzBox hb hj hr hne;exact⟨E',e1,hl,⟨hst.size,hst.defers,hH,fun t=>(hst.slot t).le hl⟩,h⟩
theorem bk3 {P:Program} {s:St} {o:Oper} {K:C->List O->Prop} {t:TypeId} {x:Operand} {r q q' z z' e i off n:Nat} {xs:List (List D)} (ho:o.op=.load t x) (hx:l5 x=true) (hp:ev s x=.tptr r q z i off) (hr:s.H[r]? = some (.buf q' z' e xs))
  (hag:tAgg P t=some true) (hn:D9 P t=some n) (h:q=q'/\z=z'/\i<xs.length/\0<n/\off+n<=z/\idx xs i (fun x=>K (.d (.agg ((x.drop off).take n))) s.H)):G6 P s o K:=by
 obtain⟨rfl,rfl,hi,hn0,hoff,h⟩:=h;intro E ns a hst;have hpv:=o9 hst x hx;rw[hp] at hpv;generalize hg:a.eval x=pv at hpv;obtain⟨h1,h2,h3,h5⟩:=hst.heap.obj r _ hr;have hxi:xs[i]? = some xs[i]:=b_ hi;have hxl:xs[i].length=z:=h2 _ (r_ _);have h:=h _ hxi;rcases h5 with ⟨ad,_,rfl⟩ | ⟨b,cap,arr,k1,k2,k3,k4,k5,k6,k7,k8⟩
 ·simp at hi
 have hcell:∀j,j<n->∃c v,xs[i][off+j]? = some c/\arr[i * z+off+j]? = some v/\v.oneCell'=true/\RdD E.w E.S c v:=fun j hj=>by
  have hc:xs[i][off+j]? = some (xs[i][off+j]'(by omega)):=b_ _;obtain⟨v,n1,n2,n3⟩:=k7 i (off+j) _ _ hxi hc;exact⟨_,v,hc,by rw[Nat.add_assoc];exact n1,n2,n3⟩
 have hsz:i * z+off+n<=arr.size:=by
  obtain⟨c,v,_,hv,_⟩:=hcell (n - 1) (by omega);have:=(E_.1 hv).1;omega
 cases hpv with
 | tptr _ _ _ _ _ b' hrN hq hv =>
  obtain⟨n',cap',e1⟩:=hv h1.symm;rw[k1] at e1;cases e1;have hld:=O3 (P:=P) (E:=E) k2 hsz;have hrun:=O0 hag hn hld;generalize hvs:((List.range n).map _).toArray=vs at hrun;have hrun':(Instr.loadAt t (.pointer (some ⟨b,i * z+off,none⟩))).run P E.w=.ok (.agg vs) E.w:=by
   simp only[Instr.loadAt,Instr.sureAddr,Sem.run_bind,Sem.run_pure,Result.andThen_ok];exact hrun
  have hvat:∀(j:Nat) (v:Value),vs[j]? = some v->j<n/\arr[i * z+off+j]? = some v:=fun j v hv=>by
   rw[<-hvs] at hv;simp only[M_,h_] at hv;by_cases hj:j<n
   ·rw[l_ hj] at hv
    simp only[Option.map_some,Option.some.injEq] at hv;obtain⟨c,v',_,g1,_⟩:=hcell j hj;refine⟨hj,?_⟩;rw[<-hv,g_,g1];rfl
   ·rw[f_ (by simpa using hj)] at hv;cases hv
  unfold Oper.wp execOp;simp only[ho,hg,Sem.run_bind,hrun',Result.andThen_ok,Sem.run_pure,Oper.upon];refine⟨_,E,_,_,rfl,rfl,?_,hst.heap,Le.refl E,h⟩;refine .d _ _ (.agg _ _ ?_ (fun j v hv=>?_) (fun j c v hc hv=>?_))
  ·rw[<-hvs];simp;omega
  ·obtain⟨hj,g⟩:=hvat j v hv
   obtain⟨c,v',_,g1,g2,_⟩:=hcell j hj;rw[g] at g1;cases g1;exact g2
  ·obtain⟨hj,g⟩:=hvat j v hv
   obtain⟨c',v',g0,g1,g2,g3⟩:=hcell j hj;rw[g] at g1;cases g1;rw[p_,if_pos hj,w_,g0] at hc;cases hc;exact g3
def bn2 (P:Program) (s:St) (o:Oper) (K:C->List O->Prop):Prop:=
 match o.op with
 | .load t x=>(match ev s x with
  | .tptr r q z i off=>(match s.H[r]? with
   | some (.buf q' z' e xs)=>(match tAgg P t,D9 P t with
    | some true,some n=>l5 x=true/\q=q'/\z=z'/\i<xs.length/\0<n/\off+n<=z/\idx xs i (fun x=>K (.d (.agg ((x.drop off).take n))) s.H)
    | _,_=>Q7 P s o K)
   | _=>Q7 P s o K)
  | _=>Q7 P s o K)
 | _=>Q7 P s o K
theorem ar6 {P:Program} {s:St} {o:Oper} {K:C->List O->Prop} (h:bn2 P s o K):G6 P s o K:=by
 unfold bn2 at h;split at h
 ·rename_i t x ho
  split at h
  ·rename_i r q z i off hp
   split at h
   ·rename_i q' z' e xs hr
    split at h
    ·rename_i n hag hn
     exact bk3 ho h.1 hp hr hag hn h.2
    ·exact G7 h
   ·exact G7 h
  ·exact G7 h
 ·exact G7 h
def bU0 (P:Program) (n:Nat) (K:St->Prop):List Oper->St->Prop
 | [],⟨σ,H⟩=>K ⟨σ,H⟩
 | o :: rest,⟨σ,H⟩=>H9 n o=true/\o.guard=none/\bn2 P ⟨σ,H⟩ o (kR (bU0 P n K rest) ⟨σ,H⟩ o.dst)
theorem aA1 {P:Program} {n:Nat} {K:St->Prop} {ops:Array Oper} {E0:Env}:∀(os:List Oper) (l:List Nat) (s:St) (E:Env) (a:Act),l.map (ops[·]?)=os.map some->RepSt E n s a->Le E0 E->bU0 P n K os s ->
  wpOps P ops (Behind n E0 K) l a E.w
 | [],l,s,E,a,hl,hst,hle,h=>by
  have:l=[]:=by simpa using hl
  subst this;exact⟨rfl,E,s,rfl,hst,hle,h⟩
 | o :: os,l,s,E,a,hl,hst,hle,h=>by
  cases l with
  | nil=>simp at hl
  | cons i l =>
   simp only[z_,List.cons.injEq] at hl;obtain⟨ho,hl⟩:=hl;unfold bU0 at h;obtain⟨hd,hg,h⟩:=h;have hdst:∀d,o.dst=some d->d<n:=fun d hd'=>by
    unfold H9 at hd;rw[hd'] at hd;simpa using hd
   rw[Go.wpOps_cons];refine af1 (n:=n) ho hg ((ar6 h).run hst (fun v E' c H' h1 h2 h3 h4=>?_));exact aA1 os l _ E' _ hl (hst.put h3 h2 hdst h1) (hle.trans h3) h4
theorem AW.regA {P:Program} {n:Nat} {f:FuncId} {n0:Nat} {R:C->List O->Prop} {id:Nat} {ops:Array Oper} {k:List Item} {s:St} (h:bU0 P n (AW P f n n0 R k) ops.toList s):AW P f n n0 R (.code (.region id ops false) :: k) s:=by
 refine AW.of_behind (k':=k) fun _ E a b cs hst=>?_;have hw:=aA1 (ops:=ops) ops.toList (List.range ops.size) s E a (by
  apply n_;intro j;simp only[h_];by_cases hj:j<ops.size
  ·rw[l_ hj]
   simp[hj]
  ·rw[f_ (by simpa using hj),f_ (by simpa using hj)]
   rfl) hst (Le.refl E) h
 obtain⟨e,a',w',⟨rfl,E',s',rfl,h1,h2,h3⟩,harr⟩:=wp_region (id:=id) hw b k cs;exact⟨a',E',s',harr,h1,h2,h3⟩
attribute [go_sem] bn2.eq_def bU0.eq_1 bU0.eq_2
section
variable {P:Program} {f:FuncId} {n n0:Nat} {R:C->List O->Prop}
theorem AW.adoptBB {k:List Item} {s:St} (rb j z e:Nat) {cs:List C} (hz:0<z) (hb:s.H[rb]? = some (.box cs)) (hj:cs[j]? = some .nil0)
  (h:AW P f n n0 R k ⟨s.σ,(s.H.set rb (.box (cs.set j (.own s.H.length 0))))++[.buf 0 z e []]⟩):AW P f n n0 R k s:=by
 refine AW.recast (s':=⟨s.σ,(s.H.set rb (.box (cs.set j (.own s.H.length 0))))++[.buf 0 z e []]⟩) (fun h0 E a hst=>?_);obtain⟨arr,ty,h1,h2,h3,h4⟩:=hst.heap.obj rb _ hb;have hjl:=(a_.1 hj).1;have haj:arr[j]? = some (arr[j]'(by omega)):=x_ _;obtain⟨k1,k2⟩:=h3 j _ _ hj haj;obtain⟨ad,had⟩:∃ad,arr[j]'(by omega)=.slice ad 0 0:=by
  generalize arr[j]'(by omega)=v at k1;cases k1 with
  | nil0 a=>exact⟨a,rfl⟩
 rw[had] at haj;obtain⟨hl,hH⟩:=ad1 hst.heap ad e hz;have hrl:rb<s.H.length:=(a_.1 hb).1;have hb':(s.H++[O.buf 0 z e []])[rb]? = some (.box cs):=by rw[c_ hrl];exact hb
 have hH2:=hH.recell (c1:=.own s.H.length 0) hb' hj (fun arr' ty' v hh hv hr=>by
  have e1:E.w.heap[E.β rb]? = some (.cells arr' ty' (0,0)):=hh;rw[h1] at e1;cases e1;rw[haj] at hv;cases hv;have hτ:(E.ghost ad).τ s.H.length=(0,.slice ad 0 0):=by simp[Env.ghost,hst.heap.N]
  exact .own _ _ _ (by simp[Env.ghost,hst.heap.N]) rfl (by rw[hτ];exact j_ _) (fun _=>by rw[hτ]))
 rw[List.set_append_left _ _ hrl] at hH2;exact⟨E.ghost ad,rfl,hl,⟨hst.size,hst.defers,hH2,fun t=>(hst.slot t).le hl⟩,h⟩
end
section
variable {P:Program} {E:Env}
theorem bG9 {H:List O} (h:RepH E H) {r0 q q' z e:Nat} {xs xs':List (List D)} (ho:H[r0]? = some (.buf q z e xs)) (hq:q<q') (hz:0<z)
  {L rest:List Value} (hL:Cells E.w E.S z xs' L) {cap:Nat} (hc:xs'.length<=cap) (hne:xs'≠[]) (hc0:0<cap) (hm:cap<=maxLen) (hs:(L++rest).length=cap * z)
  (w1:World) (hw1:w1=E.w.alloc (.cells (L++rest).toArray e)) :
  Le E (E.growNew w1 r0 q' (.slice (some ⟨E.w.heap.size,0,none⟩) xs'.length cap) 0) /\
  RepH (E.growNew w1 r0 q' (.slice (some ⟨E.w.heap.size,0,none⟩) xs'.length cap) 0) (H.set r0 (.buf q' z e xs')):=by
 subst hw1;have hq0:(E.τ r0).1=q:=(h.obj r0 _ ho).1;have hN:r0<E.N:=by rw[h.N];exact(a_.1 ho).1
 have hl:Le E (E.growNew (E.w.alloc (.cells (L++rest).toArray e)) r0 q' (.slice (some ⟨E.w.heap.size,0,none⟩) xs'.length cap) 0):=by
  refine⟨rfl,rfl,rfl,by simp[Env.growNew],j_ _,fun _ _=>rfl,fun r hr=>?_,fun _ _ hs=>.inl hs,fun b i hs=>?_,fun b hb hp=>heap_alloc_old E.w _ hb,fun b i hs=>?_,fun b hp=>?_,fun b i arr n hs hh=>(heap_alloc_old E.w _ (h.Slt b i hs)).trans hh⟩
  ·simp only[Env.growNew]
   by_cases er:r=r0
   ·subst er
    rw[if_pos rfl];exact⟨by simp only;omega,fun he=>by simp only at he;omega⟩
   ·rw[if_neg er];exact⟨j_ _,fun _=>rfl⟩
  ·exact World.cell?_alloc_lt E.w _ _ (h.Slt b i hs)
  ·rcases hs with hs | ⟨rfl,_⟩
   ·exact .inl hs
   ·exact .inr (.inl (j_ _))
  ·rcases hp with hp | rfl
   ·exact .inl hp
   ·exact .inr (j_ _)
 refine⟨hl,h.turn (r0:=r0) (o0:=.buf q' z e xs') hl (by simp[Env.growNew,h.N]) (fun r hr=>?_) (fun o' ho'=>?_) (fun r hr hr'=>?_) (fun r o' b hr ho' hb=>?_) (fun b hb=>.inl hb) (fun b i hs=>?_) ?_ (fun b hb=>?_)⟩
 ·rw[e_ (fun e=>hr e.symm)]
 ·rw[d_ (a_.1 ho).1] at ho'
  exact(Option.some.inj ho').symm
 ·simp only[Env.growNew];rw[if_neg hr]
 ·have hlt:=h.lt r o' b ho' hb
  refine⟨heap_alloc_old E.w _ hlt,fun i hs=>?_⟩;rcases hs with hs | ⟨rfl,_⟩
  ·exact hs
  ·exact absurd hlt (Nat.lt_irrefl _)
 ·simp only[Env.growNew,World.size_alloc]
  rcases hs with hs | ⟨rfl,_⟩
  ·have:=h.Slt b i hs;omega
  ·omega
 ·refine⟨by simp[Env.growNew],hL.each,hz,.inr ⟨E.w.heap.size,cap,(L++rest).toArray,by simp[Env.growNew],heap_alloc_new E.w _,hne,hc,hm,by simpa using hs,fun i j x c hi hj=>?_,fun i hS=>?_⟩⟩
  ·obtain⟨u,h1,h2,h3⟩:=hL.rd i j x c hi hj
   have hlt:=(a_.1 h1).1;refine⟨u,?_,h2,h3.le hl⟩;rw[M_,c_ hlt];exact h1
  ·rcases hS with hS | ⟨_,hlt⟩
   ·have:=h.Slt _ i hS;omega
   ·omega
 ·simp only[O.block,Env.growNew,if_pos,ownB] at hb
  rw[if_neg (by omega)] at hb;simp only[Option.some.injEq] at hb;subst hb;refine⟨.inr rfl,by simp[Env.growNew],fun r o' hr ho' hb=>?_⟩;have:=h.lt r o' _ ho' hb;omega
end
theorem aP4 {P:Program} {s:St} {o:Oper} {K:C->List O->Prop} {t:TypeId} {n:Nat} {ps:Array (Nat×Operand)} (ho:o.op=.buildSlice t n ps) {e z by_:Nat} (ht:D6 P t=some (e,z,by_))
  (h:n * z<=16777216/\ps.size=n/\0<n/\E9 s z (fun l=>K (.own s.H.length 1) (s.H++[.buf 1 z e l])) ps.toList 0):G6 P s o K:=by
 obtain⟨hbig,hps,hn0,h⟩:=h;obtain⟨hte,hz,i,zv,hi,hzv,hzs,hiz,hib⟩:=J8 ht;obtain⟨l,hk,hl,hlz,hidx,hall⟩:=ah0 _ _ h;intro E ns a hst;have hln:l.length=n:=by rw[hl,k_,hps]
 have hparts:(ps.map fun (i,x)=>(i,a.eval x)).toList=((ps.toList.map fun p=>a.eval p.2).zipIdx 0).map fun x=>(x.2,x.1):=by
  apply n_;intro j;simp only[Array.toList_map,h_,List.getElem?_zipIdx];cases hp:ps.toList[j]? with
  | none=>simp
  | some p =>
   have hj:j<ps.toList.length:=(a_.1 hp).1;have:(ps.toList.map (·.1))[j]? = some j:=by
    rw[hidx];have hj':j<ps.size:=by simpa using hj
    simp[l_ hj']
   simp only[h_,hp,Option.map_some,Option.some.injEq] at this;simp[this]
 have hbigN:¬(n * i.size > 2 ^ 24):=by rw[hiz];omega
 unfold Oper.wp execOp;simp only[ho];have hnz:0<n * z:=Nat.mul_pos hn0 hz;generalize hbase:(Array.range (n * z)).map (zv.cells[· % zv.cells.size]!)=base0;have hbs:base0.size=n * z:=by subst hbase;simp
 have hvs:∀v,v∈(ps.toList.map fun p=>a.eval p.2)->v.cells.size=z:=by
  intro v hv;obtain⟨p,hp,rfl⟩:=List.mem_map.1 hv;obtain⟨j,hj⟩:=L_.1 hp;have hjl:j<l.length:=by rw[hl];exact(a_.1 hj).1
  exact(hall E ns a hst j p _ hj (b_ hjl)).1
 obtain⟨arr',h1,h2,h3,_⟩:=ae1 hz (ps.toList.map fun p=>a.eval p.2) 0 base0 hvs (by simp only[D_,k_,hps,o_];omega);rw[<-hparts] at h1;have hrun:(Instr.buildSlice t n (ps.map fun (i,x)=>(i,a.eval x))).run P E.w=.ok (.slice (some ⟨E.w.heap.size,0,none⟩) n n) (E.w.alloc (.cells arr' e)):=by
  have hne:¬(n * i.size=0):=by rw[hiz];omega
  have hb2:Array.map (fun x=>zv.cells[x % zv.cells.size]!) (Array.range (n * i.size))=base0:=by rw[hiz];exact hbase
  have h1':Instr.fill (fun j=>some (j * i.size,i.size)) base0 (ps.map fun (i,x)=>(i,a.eval x)).toList=some arr':=by rw[hiz];exact h1
  unfold Instr.buildSlice;simp only[Sem.run_bind,run_underlying hte,Result.andThen_ok,sizeOf,typeInfo,run_program,hi,Sem.run_pure,Sem.run_ite,if_neg hbigN,if_neg hne,zeroValue,hzv,hb2,h1',newRow,run_newObj];rfl
 simp only[Sem.run_bind,hrun,Result.andThen_ok,Sem.run_pure,Oper.upon];have hget:∀i j,i<n->j<z->∃p u,ps.toList[i]? = some p/\(a.eval p.2).cells[j]? = some u/\arr'[i * z+j]? = some u:=by
  intro i j hi hj;have hp:ps.toList[i]? = some (ps.toList[i]'(by simp;omega)):=b_ _;have hv:=hvs _ (List.mem_map_of_mem (r_ (l:=ps.toList) (n:=i) (by simp;omega)));have hu:(a.eval (ps.toList[i]'(by simp;omega)).2).cells[j]? = some _:=x_ (by omega);refine⟨_,_,hp,hu,?_⟩;have:=h3 i j _ (by rw[h_,hp];rfl) hj;rw[o_] at this;rw[this];exact hu
 have hsz:arr'.size=n * z:=by rw[h2,hbs]
 have hrd:∀(i j:Nat) (x:List D) (c:D),l[i]? = some x->x[j]? = some c->∃(u:Value),arr'.toList[i * z+j]? = some u/\u.oneCell'=true/\RdD E.w E.S c u:=fun i j x c hx hc=>by
  have hin:i<n:=by rw[<-hln];exact(a_.1 hx).1
  have hjz:j<z:=by rw[<-hlz x (s_ hx)];exact(a_.1 hc).1
  obtain⟨p,u,h5,h6,h7⟩:=hget i j hin hjz;have hh:=(hall E ns a hst i p x h5 hx).2 j c u hc h6;exact⟨u,by rw[J_];exact h7,hh.2,hh.1⟩
 have hL:Cells E.w E.S z l arr'.toList:=by
  refine⟨by rw[k_,hsz,hln],hlz,hrd,fun u hu=>?_⟩;obtain⟨k,hk2⟩:=L_.1 hu;have hkl:k<n * z:=by rw[<-hsz,<-k_];exact(a_.1 hk2).1
  have hd:k / z<n:=(Nat.div_lt_iff_lt_mul hz).2 hkl;have hm:k % z<z:=Nat.mod_lt _ hz;have hxl:=hlz (l[k / z]'(by omega)) (r_ _);obtain⟨v,g1,g2,_⟩:=hrd (k / z) (k % z) (l[k / z]'(by omega)) ((l[k / z]'(by omega))[k % z]'(by omega)) (b_ (by omega)) (b_ _);rw[Nat.div_add_mod' k z,hk2] at g1;cases g1;exact g2
 obtain⟨gl,gH⟩:=ad1 hst.heap none e hz;have hLg:Cells (E.ghost none).w (E.ghost none).S z l arr'.toList:=hL;have hnm:n<=maxLen:=by
  have:n<=n * z:=Nat.le_mul_of_pos_right n hz;simp only[maxLen];omega
 obtain⟨k1,k2⟩:=bG9 gH (r0:=s.H.length) (q:=0) (q':=1) (z:=z) (e:=e) (xs:=[]) (by simp) (by omega) hz hLg (rest:=[]) (cap:=n) (by omega) (by intro e0;rw[e0] at hln;simp at hln;omega) hn0 hnm (by simp[hsz]) _ rfl;have hset:(s.H++[O.buf 0 z e []]).set s.H.length (.buf 1 z e l)=s.H++[.buf 1 z e l]:=by simp
 rw[hset] at k2;have hNN:=hst.heap.N;refine⟨_,_,.own s.H.length 1,_,rfl,?_,?_,k2,gl.trans k1,hk⟩
 ·simp[Env.growNew,Env.ghost]
 ·have hτ:(((E.ghost none).growNew ((E.ghost none).w.alloc (.cells (arr'.toList++[]).toArray e)) s.H.length 1 (.slice (some ⟨(E.ghost none).w.heap.size,0,none⟩) l.length n) 0).τ s.H.length)=(1,.slice (some ⟨E.w.heap.size,0,none⟩) n n):=by simp[Env.growNew,Env.ghost,hln]
  exact .own _ _ _ (by simp[Env.growNew,Env.ghost,hNN]) rfl (by rw[hτ];exact j_ _) (fun _=>by rw[hτ])
def bA5 (P:Program) (s:St) (o:Oper) (K:C->List O->Prop):Prop:=
 match o.op with
 | .buildSlice t n ps=>(match D6 P t with
  | some (e,z,_)=>n * z<=16777216/\ps.size=n/\0<n/\E9 s z (fun l=>K (.own s.H.length 1) (s.H++[.buf 1 z e l])) ps.toList 0
  | none=>False)
 | _=>bn2 P s o K
theorem aQ9 {P:Program} {s:St} {o:Oper} {K:C->List O->Prop} (h:bA5 P s o K):G6 P s o K:=by
 unfold bA5 at h;split at h
 ·rename_i t n ps ho
  split at h
  ·rename_i e z by_ ht
   exact aP4 ho ht h
  ·exact h.elim
 ·exact ar6 h
def bT6 (P:Program) (n:Nat) (K:St->Prop):List Oper->St->Prop
 | [],⟨σ,H⟩=>K ⟨σ,H⟩
 | o :: rest,⟨σ,H⟩=>H9 n o=true/\o.guard=none/\bA5 P ⟨σ,H⟩ o (kR (bT6 P n K rest) ⟨σ,H⟩ o.dst)
theorem az7 {P:Program} {n:Nat} {K:St->Prop} {ops:Array Oper} {E0:Env}:∀(os:List Oper) (l:List Nat) (s:St) (E:Env) (a:Act),l.map (ops[·]?)=os.map some->RepSt E n s a->Le E0 E->bT6 P n K os s ->
  wpOps P ops (Behind n E0 K) l a E.w
 | [],l,s,E,a,hl,hst,hle,h=>by
  have:l=[]:=by simpa using hl
  subst this;exact⟨rfl,E,s,rfl,hst,hle,h⟩
 | o :: os,l,s,E,a,hl,hst,hle,h=>by
  cases l with
  | nil=>simp at hl
  | cons i l =>
   simp only[z_,List.cons.injEq] at hl;obtain⟨ho,hl⟩:=hl;unfold bT6 at h;obtain⟨hd,hg,h⟩:=h;have hdst:∀d,o.dst=some d->d<n:=fun d hd'=>by
    unfold H9 at hd;rw[hd'] at hd;simpa using hd
   rw[Go.wpOps_cons];refine af1 (n:=n) ho hg ((aQ9 h).run hst (fun v E' c H' h1 h2 h3 h4=>?_));exact az7 os l _ E' _ hl (hst.put h3 h2 hdst h1) (hle.trans h3) h4
theorem AW.regU {P:Program} {n:Nat} {f:FuncId} {n0:Nat} {R:C->List O->Prop} {id:Nat} {ops:Array Oper} {k:List Item} {s:St} (h:bT6 P n (AW P f n n0 R k) ops.toList s):AW P f n n0 R (.code (.region id ops false) :: k) s:=by
 refine AW.of_behind (k':=k) fun _ E a b cs hst=>?_;have hw:=az7 (ops:=ops) ops.toList (List.range ops.size) s E a (by
  apply n_;intro j;simp only[h_];by_cases hj:j<ops.size
  ·rw[l_ hj]
   simp[hj]
  ·rw[f_ (by simpa using hj),f_ (by simpa using hj)]
   rfl) hst (Le.refl E) h
 obtain⟨e,a',w',⟨rfl,E',s',rfl,h1,h2,h3⟩,harr⟩:=wp_region (id:=id) hw b k cs;exact⟨a',E',s',harr,h1,h2,h3⟩
attribute [go_sem] bA5.eq_def bT6.eq_1 bT6.eq_2
def bz2 (P:Program) (n:Nat) (ops:Array Oper) (K:St->Prop):List Oper->St->Prop
 | [],⟨σ,H⟩=>K ⟨σ,H⟩
 | o :: rest,⟨σ,H⟩=>H9 n o=true /\
  (match o.guard with
  | none=>Q7 P ⟨σ,H⟩ o (kR (bz2 P n ops K rest) ⟨σ,H⟩ o.dst)
  | some (j,want) =>
   match (ops[j]?).bind (·.dst) with
   | some t =>
    match get σ t with
    | .d (.bool b) =>
     br (b == want) (app (Q7 P (put ⟨σ,H⟩ (some t) (.d (.bool want))) o) (kR (bz2 P n ops K rest) (put ⟨σ,H⟩ (some t) (.d (.bool want))) o.dst))
      (app (bz2 P n ops K rest) (put (put ⟨σ,H⟩ (some t) (.d (.bool (!want)))) o.dst (.tup [])))
    | .tup []=>bz2 P n ops K rest (put ⟨σ,H⟩ o.dst (.tup []))
    | _=>False
   | none=>False)
section
variable (P:Program) (f:FuncId) (n n0:Nat) (R:C->List O->Prop) (rs:List ResultVar)
def ac9:Nat->List Item->St->Prop
 | 0,k,⟨σ,H⟩=>AW P f n n0 R k ⟨σ,H⟩
 | _+1,[],⟨σ,H⟩=>aJ0 P rs n0 R ⟨σ,H⟩
 | fuel+1,.inBlock _ :: k,⟨σ,H⟩=>ac9 fuel k ⟨σ,H⟩
 | fuel+1,.code c :: k,⟨σ,H⟩ =>
  (match c with
  | .ret=>aJ0 P rs n0 R ⟨σ,H⟩
  | .skip=>ac9 fuel k ⟨σ,H⟩
  | .label _=>ac9 fuel k ⟨σ,H⟩
  | .seq x y=>ac9 fuel (.code x :: .code y :: k) ⟨σ,H⟩
  | .block id x=>ac9 fuel (.code x :: .inBlock id :: k) ⟨σ,H⟩
  | .exit id=>(match exitTo id k with | some k'=>ac9 fuel k' ⟨σ,H⟩ | none=>False)
  | .cond c x y=>l5 c=true/\(match ev ⟨σ,H⟩ c with
   | .d (.bool b)=>br b (app (ac9 fuel (.code x :: k)) ⟨σ,H⟩) (app (ac9 fuel (.code y :: k)) ⟨σ,H⟩)
   | _=>False)
  | .region _ ops false=>bz2 P n ops (ac9 fuel k) ops.toList ⟨σ,H⟩
  | .region _ ops true=>vcD P n ops (ac9 fuel k) ops.toList ⟨σ,H⟩
  | c=>AW P f n n0 R (.code c :: k) ⟨σ,H⟩)
 | _+1,k,⟨σ,H⟩=>AW P f n n0 R k ⟨σ,H⟩
end
section
variable {P:Program} {f:FuncId} {n n0:Nat} {R:C->List O->Prop} {rs:List ResultVar} {k:List Item} {s s':St}
@[congr] theorem cg5 {ops:Array Oper} {os:List Oper} {KS:St->Prop} (h:s=s'):bz2 P n ops KS os s=bz2 P n ops KS os s':=by rw[h]
@[congr] theorem cn0 {fuel:Nat} (h:s=s'):ac9 P f n n0 R rs fuel k s=ac9 P f n n0 R rs fuel k s':=by rw[h]
theorem aS0 {fuel id:Nat} {l:List Oper} {σ:List (Nat×C)} {H:List O}:ac9 P f n n0 R rs (fuel+1) (.code (.region id (List.toArray l) false) :: k) ⟨σ,H⟩=bz2 P n (List.toArray l) (ac9 P f n n0 R rs fuel k) l ⟨σ,H⟩:=by
 rw[ac9]
theorem bq2 {fuel id:Nat} {l:List Oper} {σ:List (Nat×C)} {H:List O}:ac9 P f n n0 R rs (fuel+1) (.code (.region id (List.toArray l) true) :: k) ⟨σ,H⟩=vcD P n (List.toArray l) (ac9 P f n n0 R rs fuel k) l ⟨σ,H⟩:=by
 rw[ac9]
theorem bq0 {fuel:Nat} {c:Code} {σ:List (Nat×C)} {H:List O}:ac9 P f n n0 R rs (fuel+1) (.code (.loop c) :: k) ⟨σ,H⟩=AW P f n n0 R (.code (.loop c) :: k) ⟨σ,H⟩:=by
 rw[ac9]<;>simp
theorem aS1 {fuel:Nat} {c:Code} {σ:List (Nat×C)} {H:List O}:ac9 P f n n0 R rs (fuel+1) (.inLoop c :: k) ⟨σ,H⟩=AW P f n n0 R (.inLoop c :: k) ⟨σ,H⟩:=by
 rw[ac9]<;>simp
def bA0 (P:Program) (f:FuncId) (n n0:Nat) (R:C->List O->Prop) (rs:List ResultVar) (fuel j:Nat) (k:List Item) (s:St):Prop:=
 match Go.exitTo j k with
 | some k'=>ac9 P f n n0 R rs fuel k' s
 | none=>False
@[congr] theorem cn9 {fuel j:Nat} (h:s=s'):bA0 P f n n0 R rs fuel j k s=bA0 P f n n0 R rs fuel j k s':=by rw[h]
theorem bq1 {fuel j:Nat} {σ:List (Nat×C)} {H:List O}:ac9 P f n n0 R rs (fuel+1) (.code (.exit j) :: k) ⟨σ,H⟩=bA0 P f n n0 R rs fuel j k ⟨σ,H⟩:=by
 rw[ac9];rfl
theorem bw5 {fuel j:Nat} {c:Code}:bA0 P f n n0 R rs fuel j (.code c :: k) s=bA0 P f n n0 R rs fuel j k s:=rfl
theorem aV0 {fuel j:Nat} {c:Code}:bA0 P f n n0 R rs fuel j (.inLoop c :: k) s=bA0 P f n n0 R rs fuel j k s:=rfl
theorem bj5 {fuel j j':Nat}:bA0 P f n n0 R rs fuel j (.inBlock j' :: k) s=if j'=j then ac9 P f n n0 R rs fuel k s else bA0 P f n n0 R rs fuel j k s:=by
 unfold bA0;rw[exitTo.eq_1];by_cases h:j'=j
 ·simp[h]
 ·rw[if_neg (by simpa using h),if_neg h]
end
attribute [go_sem] aS0 bq2 bq0 aS1 bq1 bw5 aV0 bj5 ac9.eq_2 ac9.eq_3 ac9.eq_4 ac9.eq_5 ac9.eq_6 ac9.eq_7 ac9.eq_8 ac9.eq_10
attribute [go_sem] bz2.eq_1 bz2.eq_2
theorem ACalls.unpb {P:Program} {f:FuncId} {ds cs:List D} {R:C->List O->Prop} (h:ACalls P f (.ptr 0 0 :: ds.map .d) [.box (cs.map .d)] R) {K:C->List O->Prop}
  (hk:∀c H',R c H'->∃d,c=.d d/\K c [.dead]):ACalls P f (.own 0 1 :: ds.map .d) [.pb cs] K:=by
 intro E vs hH hs ha;obtain⟨hq,b,arr,e,h1,h2,h3,h4,h5⟩:=hH.obj 0 _ rfl;have hN:E.N=1:=hH.N;have hpv:=hH.pv 0 _ b rfl h1;have hlb:=hH.lt 0 _ b rfl h1;let E1:Env:={ E with β:=fun _=>b }
 have hH1:RepH E1 [.box (cs.map .d)]:=by
  refine⟨hN,fun r o ho=>?_,fun r o b' ho hb=>?_,fun r o b' ho hb=>?_,fun r r' o o' b' ho ho' hb hb'=>?_,fun b' i hS=>hH.Slt b' i hS⟩
  ·cases r with
   | zero =>
    cases ho;refine⟨arr,e,h2,by simpa using h3,fun j c v hc hv=>?_,h5⟩;rw[h_] at hc;obtain⟨d,hd,rfl⟩:=G_.1 hc;obtain⟨k1,k2⟩:=h4 j d v hd hv;exact⟨.d _ _ k1,k2⟩
   | succ r=>simp at ho
  ·cases r with
   | zero=>cases ho;have hb':b=b':=hb;subst hb';exact hpv
   | succ r=>simp at ho
  ·cases r with
   | zero=>cases ho;have hb':b=b':=hb;subst hb';exact hlb
   | succ r=>simp at ho
  ·cases r with
   | zero =>
    cases r' with
    | zero=>rfl
    | succ r'=>simp at ho'
   | succ r=>simp at ho
 refine(h E1 vs hH1 (by simpa using hs) (fun i c v hi hv=>?_)).mono fun e' w' ⟨v,r,E',H',k1,k2,k3,k4,k5,k6,k7⟩=>?_
 ·cases i with
  | zero =>
   simp at hi;subst hi;have hr:=ha 0 (.own 0 1) v rfl hv;cases hr with
   | own _ _ _ hN' h1' hq' hv' =>
    have hv':=hv' hq.symm;subst hv';rw[h1];exact .ptr 0 0 (by show 0<E.N;omega)
  | succ i =>
   have hr:=ha (i+1) c v (by simpa using hi) hv;simp only[List.getElem?_cons_succ,h_] at hi;obtain⟨d,hd,rfl⟩:=G_.1 hi;cases hr with
   | d _ _ hd'=>exact .d _ _ hd'
 ·obtain⟨d,rfl,hK⟩:=hk _ _ k7
  refine⟨v,.d d,{ E' with N:=E.N,β:=E.β,τ:=E.τ },[.dead],k1,k2,?_,?_,?_,rfl,hK⟩
  ·refine⟨hN,fun r o ho=>?_,fun r o b' ho hb=>?_,fun r o b' ho hb=>?_,fun r r' o o' b' ho ho' hb hb'=>?_,fun b' i hS=>k3.Slt b' i hS⟩
   ·cases r with
    | zero=>cases ho;trivial
    | succ r=>simp at ho
   ·cases r with
    | zero=>cases ho;exact hb.elim
    | succ r=>simp at ho
   ·cases r with
    | zero=>cases ho;exact hb.elim
    | succ r=>simp at ho
   ·cases r with
    | zero=>cases ho;exact hb.elim
    | succ r=>simp at ho
  ·exact⟨k4.os,k4.tape,k4.output,k4.size,j_ _,fun _ _=>rfl,fun _ _=>⟨j_ _,fun _=>rfl⟩,k4.S,k4.cell,k4.blk,k4.newS,k4.newP,k4.map⟩
  ·cases k5 with
   | d _ _ hd'=>exact .d _ _ hd'
section
variable {P:Program}
end
section
variable {w:World}
end
section
variable {P:Program} {f:FuncId} {n n0:Nat} {R:C->List O->Prop}
end
section
variable {P:Program} {n:Nat} {ops:Array Oper} {LA:Array Bool} {F:List (Nat×O)} {K:St->Prop}
end
section
variable {P:Program} {f:FuncId} {n n0:Nat} {R:C->List O->Prop}
theorem AW.anyCell {k:List Item} {s:St} (rb j:Nat) {cs:List C} {c0:C} (hb:s.H[rb]? = some (.box cs)) (hj:cs[j]? = some c0)
  (h:AW P f n n0 R k ⟨s.σ,s.H.set rb (.box (cs.set j (.d .any)))⟩):AW P f n n0 R k s:=by
 refine AW.recast (s':=⟨s.σ,s.H.set rb (.box (cs.set j (.d .any)))⟩) (fun h0 E a hst=>?_);exact⟨E,rfl,Le.refl E,⟨hst.size,hst.defers,hst.heap.recell hb hj (fun _ _ v _ _ _=>.d _ _ (.any v)),hst.slot⟩,by simpa using h⟩
end
section
variable {P:Program} {f:FuncId} {n n0:Nat} {R:C->List O->Prop}
theorem AW.treeBF {k:List Item} {s:St} (r:Nat) {q z e:Nat} {xs:List (List D)} {B:Nat->Prop} (hr:s.H[r]? = some (.tree q z e xs B none))
  (h:AW P f n n0 R k ⟨s.σ,s.H.set r (.buf q z e xs)⟩):AW P f n n0 R k s:=by
 refine AW.recast (s':=⟨s.σ,s.H.set r (.buf q z e xs)⟩) (fun h0 E a hst=>?_);obtain⟨h1,h2,h3,h3',h4⟩:=hst.heap.obj r _ hr;have hl:Le E (E.freezeSet B):=by
  refine⟨rfl,rfl,rfl,j_ _,j_ _,fun _ _=>rfl,fun _ _=>⟨j_ _,fun _=>rfl⟩,fun _ _ hs=>.inl hs,fun _ _ _=>rfl,fun _ _ _=>rfl,fun b i hs=>?_,fun _ hp=>.inl hp,fun _ _ _ _ _ hh=>hh⟩;rcases hs with hs | hs
  ·exact .inl hs
  ·exact .inr (.inr (hst.heap.pv r _ _ hr (.inr hs)))
 refine⟨E.freezeSet B,rfl,hl,⟨hst.size,hst.defers,?_,fun t=>(hst.slot t).le hl⟩,by simpa using h⟩;refine hst.heap.turn (r0:=r) (o0:=.buf q z e xs) hl (by simp[Env.freezeSet,hst.heap.N]) (fun r' hr'=>by rw[e_ (Ne.symm hr')]) (fun o' ho'=>?_) (fun _ _ _=>rfl) (fun r' o' b hr' ho' hb=>⟨rfl,fun i hs=>?_⟩) (fun _ hb=>hb) (fun b i hs=>?_) ?_ (fun b' hb=>?_)
 ·rw[d_ (a_.1 hr).1] at ho'
  exact(Option.some.inj ho').symm
 ·rcases hs with hs | hs
  ·exact hs
  ·exact absurd (hst.heap.apart r' r o' _ _ ho' hr hb (.inr hs)) hr'
 ·rcases hs with hs | hs
  ·exact hst.heap.Slt b i hs
  ·exact hst.heap.lt r _ _ hr (.inr hs)
 ·refine⟨h1,h2,h3,?_⟩
  rcases h4 with h4 | ⟨b,cap,arr,k1,k2,k3,k4,k5,k6,⟨val,Bs,k7,kB,_⟩,kn,k8,_⟩
  ·exact .inl h4
  ·refine .inr ⟨b,cap,arr,k1,k2,k3,k4,k5,k6,fun i j x c hi hj=>?_,fun i hs=>hs.elim (k8 i) kn⟩
   obtain⟨m1,m2,m3⟩:=k7 i j x c hi hj;exact⟨_,m1,m2,(m3 (by simp[cn4])).rdD (fun b' hb' _=>.inr (kB i j b' hb'))⟩
 ·have hb':(O.tree q z e xs B none).block E r b':=.inl hb
  exact⟨hst.heap.pv r _ b' hr hb',hst.heap.lt r _ b' hr hb',fun r' o' hr' ho' hb2=>hr' (hst.heap.apart r' r o' _ b' ho' hr hb2 hb')⟩
end
end Go.Abs
