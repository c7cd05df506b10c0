import Derived.Test.YtancdeoodnpimaaGreatDoorJ10
import Derived.Shelf.GgSortMore.Stable
import Derived.Lib.ReflectliteSwap
open List renaming getElem?_eq_some_iff->a_,getElem?_append_left->b_,getElem?_eq_getElem->c_,getElem?_set_self->d_,getElem?_set_ne->e_,getElem?_append_right->f_,getD_eq_getElem?_getD->h_,getElem?_eq_none->i_,getElem?_map->j_,length_map->l_,length_take->n_,length_set->p_,getElem?_take->s_,ext_getElem?->t_,all_eq_true->v_,mem_of_getElem?->w_,getElem?_range->x_,length_append->y_,getElem?_drop->z_,length_cons->A_,mem_or_eq_of_mem_set->C_,getElem?_cons_zero->D_
open Array renaming getD_eq_getD_getElem?->g_,length_toList->k_
open Nat renaming le_refl->m_,mul_le_mul_right->o_,min_eq_left->q_,zero_add->r_,add_mul->B_,add_sub_cancel_left->E_,sub_self->F_
open Option renaming map_eq_some_iff->u_
set_option linter.unusedSimpArgs false
set_option linter.unusedVariables false
namespace Go.Abs
structure Srtr {α:Type} (P:Program) (g:FuncId) (caps:List C) (sf:FuncId) (caps2:List C) (n m:Nat) (Hs:(Nat->α)->List O) (lt:α->α->Bool):Prop where
 gog:isGo P g=true
 hcaps:caps.all (C.refsLt1 m)=true
 hcaps2:caps2.all (C.refsLt1 m)=true
 len:∀f,(Hs f).length=m
 refs:∀f,(Hs f).all (O.refsLt m)=true
 less:∀(f:Nat->α) (X:List O) (i j:Nat),i<n->j<n->ACalls P g (.d (.int .i64 i) :: .d (.int .i64 j) :: caps) (Hs f++X) (fun c H'=>c=.d (.bool (lt (f i) (f j)))/\H'=Hs f++X)
 swap:∀(f:Nat->α) (X:List O) (i j:Nat),i<n->j<n->aj2 P sf (.d (.int .i64 i) :: .d (.int .i64 j) :: caps2) (Hs f++X) (fun c H'=>c=.tup []/\H'=Hs (swp i j f)++X)
theorem aj2.mono {P:Program} {f:FuncId} {args:List C} {H:List O} {K K':C->List O->Prop} (h:aj2 P f args H K) (hk:∀c H',K c H'->K' c H'):aj2 P f args H K':=fun E vs h1 h2 h3=>by
 obtain ⟨v,E',c,H',k1,k2,k3,k4,k5⟩:=h E vs h1 h2 h3;exact ⟨v,E',c,H',k1,k2,k3,k4,hk _ _ k5⟩
namespace Srtr
variable {α:Type} {P:Program} {g sf:FuncId} {cs ds:List C} {n m:Nat} {Hs:(Nat->α)->List O} {lt:α->α->Bool}
theorem at0 (h:Srtr P g cs sf ds n m Hs lt) (a:Nat->α) (X:List O):(Hs a++X)[m]? = X[0]?:=by
 rw [f_ (by rw [h.len];omega),h.len,F_]
theorem atj (h:Srtr P g cs sf ds n m Hs lt) (a:Nat->α) (X:List O) (j:Nat):(Hs a++X)[m+j]? = X[j]?:=by
 rw [f_ (by rw [h.len];omega),h.len,E_]
theorem set0 (h:Srtr P g cs sf ds n m Hs lt) (a:Nat->α) (X:List O) (o:O):(Hs a++X).set m o=Hs a++X.set 0 o:=by
 rw [List.set_append,if_neg (by rw [h.len];omega),h.len,F_]
theorem setj (h:Srtr P g cs sf ds n m Hs lt) (a:Nat->α) (X:List O) (j:Nat) (o:O):(Hs a++X).set (m+j) o=Hs a++X.set j o:=by
 rw [List.set_append,if_neg (by rw [h.len];omega),h.len,E_]
theorem tk (h:Srtr P g cs sf ds n m Hs lt) (a:Nat->α):(Hs a).take m=Hs a:=List.take_of_length_le (by rw [h.len];omega)
theorem tk0 (h:Srtr P g cs sf ds n m Hs lt) (a:Nat->α) (X:List O):(Hs a++X).take m=Hs a:=by
 rw [List.take_append_of_le_length (by rw [h.len];omega),h.tk]
theorem tkj (h:Srtr P g cs sf ds n m Hs lt) (a:Nat->α) (X:List O) (j:Nat):(Hs a++X).take (m+j)=Hs a++X.take j:=by
 rw [<-h.len a,List.take_length_add_append]
theorem refsj (h:Srtr P g cs sf ds n m Hs lt) (a:Nat->α) (j:Nat):(Hs a).all (O.refsLt (m+j))=true:=by
 have:=h.refs a;simp only [v_] at this |-;exact fun o ho=>O.refsLt_mono (this o ho)
theorem capsj (h:Srtr P g cs sf ds n m Hs lt) (j:Nat):cs.all (C.refsLt1 (m+j))=true:=by
 have:=h.hcaps;simp only [v_] at this |-;exact fun o ho=>C.refsLt1_mono (this o ho)
theorem capsj2 (h:Srtr P g cs sf ds n m Hs lt) (j:Nat):ds.all (C.refsLt1 (m+j))=true:=by
 have:=h.hcaps2;simp only [v_] at this |-;exact fun o ho=>C.refsLt1_mono (this o ho)
theorem ext (h:Srtr P g cs sf ds n m Hs lt) (X:List O) (hX:X.all (O.refsLt (m+X.length))=true):Srtr P g cs sf ds n (m+X.length) (fun f=>Hs f++X) lt:=
 ⟨h.gog,h.capsj _,h.capsj2 _,fun f=>by rw [y_,h.len],fun f=>by rw [List.all_append,h.refsj,hX];rfl,
  fun f Y i j hi hj=>by have:=h.less f (X++Y) i j hi hj;simpa only [List.append_assoc] using this,fun f Y i j hi hj=>by have:=h.swap f (X++Y) i j hi hj;simpa only [List.append_assoc] using this⟩
theorem sub (h:Srtr P g cs sf ds n m Hs lt) (k:Nat) (hk:k<=n):Srtr P g cs sf ds k m Hs lt:=
 ⟨h.gog,h.hcaps,h.hcaps2,h.len,h.refs,fun f X i j hi hj=>h.less f X i j (by omega) (by omega),fun f X i j hi hj=>h.swap f X i j (by omega) (by omega)⟩
end Srtr
end Go.Abs
set_option maxHeartbeats 1000000
namespace Go.Abs
theorem ab0 (b:Nat) (t:TypeId) (fr:Nat×Nat):∀(vs:List Value) (o:Nat) (arr:Array Value) (w:World),w.heap[b]? = some (.cells arr t fr)->o+vs.length<=arr.size ->
  w.setCells b o vs=w.setRow b (arr.toList.take o++vs++arr.toList.drop (o+vs.length)).toArray
 | [],o,arr,w,hg,_=>by
  simp only [World.setCells,List.append_nil,List.length_nil,Nat.add_zero,List.take_append_drop,Array.toArray_toList];rw [setRow_self w b arr t fr hg]
 | v :: r,o,arr,w,hg,hl=>by
  have hi:o<arr.size:=by simp at hl;omega
  rw [World.setCells,setCell_eq_setRow w b o arr t fr v hg,ab0 b t fr r (o+1) (arr.setIfInBounds o v) _ (setRow_heap w b arr _ t fr hg) (by simp at hl |-;omega),setRow_setRow];congr 2;apply t_;intro k;simp only [Array.toList_setIfInBounds,A_];by_cases h1:k<o
  ·rw [b_ (by simp;omega),b_ (by simp;omega),b_ (by simp;omega),b_ (by simp;omega),s_,s_,if_pos (by omega),if_pos h1,e_ (by omega)]
  ·by_cases h2:k=o
   ·subst h2
    rw [b_ (by simp;omega),b_ (by simp;omega),s_,if_pos (by omega),d_ (by simpa using hi),b_ (by simp only [y_,n_,k_,A_];omega),f_ (by simp only [n_,k_];omega)];simp only [n_,k_,q_ (Nat.le_of_lt hi),F_,D_]
   ·by_cases h3:k<o+1+r.length
    ·rw [b_ (by simp;omega),f_ (by simp;omega),b_ (by simp;omega),f_ (by simp;omega)]
     simp only [n_,p_,k_];rw [q_ (by omega),q_ (by omega)];obtain ⟨m,rfl⟩:∃m,k=o+1+m:=⟨k - (o+1),by omega⟩;rw [show o+1+m - (o+1)=m by omega,show o+1+m - o=m+1 by omega];rfl
    ·rw [f_ (by simp;omega),f_ (by simp;omega),z_,z_]
     simp only [y_,n_,p_,k_,A_];rw [q_ (by omega),q_ (by omega),e_ (by omega)];congr 1;omega
theorem RepH.setB {E:Env} {H:List O} (h:RepH E H) {r q z e:Nat} {xs:List (List D)} (hr:H[r]? = some (.buf q z e xs)) {b cap:Nat} {arr:Array Value} (k1:(E.τ r).2=.slice (some ⟨b,0,none⟩) xs.length cap) (k2:E.w.heap[b]? = some (.cells arr e (0,0)))
  {i:Nat} (hi:i<xs.length) {y:List D} (hy:y.length=z) {vs:List Value} (hvl:vs.length=z) (hv:∀(k:Nat) (c:D) (v:Value),y[k]? = some c->vs[k]? = some v->RdD E.w E.S c v/\v.oneCell'=true) :
  Le E (E.setRow b (arr.toList.take (i * z)++vs++arr.toList.drop (i * z+vs.length)).toArray) /\
  RepH (E.setRow b (arr.toList.take (i * z)++vs++arr.toList.drop (i * z+vs.length)).toArray) (H.set r (.buf q z e (xs.set i y))):=by
 obtain ⟨h1,h3,hz,h5⟩:=h.obj r _ hr;rcases h5 with ⟨ad,_,rfl⟩ | ⟨b',cap',arr0,j1,j2,k3,k4,k5,k6,h4,k8⟩
 ·simp at hi
 rw [k1] at j1;cases j1;rw [k2] at j2;cases j2;have hrl:=(a_.1 hr).1;have hblk:(O.buf q z e xs).block E r b:=by simp only [O.block,k1,ownB];rw [if_neg (by omega)]
 have hiz:i * z+z<=cap * z:=by
  have:(i+1) * z<=cap * z:=o_ _ (by omega);rw [B_] at this;omega
 generalize hnew:(arr.toList.take (i * z)++vs++arr.toList.drop (i * z+vs.length)).toArray=arr';have hcells:=N9 (arr:=arr) (off:=i * z) (vs:=vs.toArray) (by simp [hvl];omega);simp only [List.size_toArray,hvl] at hcells;rw [hvl] at hnew;have hnew2:(arr.toList.take (i * z)++vs++arr.toList.drop (i * z+z)).toArray=arr':=hnew;rw [hnew2] at hcells;have hc1:arr'.size=arr.size:=by rw [<-hnew2];simpa using hcells.1
 have hl0:Le E (E.setRow b arr'):=R4 (h.pv r _ _ hr hblk) k8;refine ⟨hl0,?_⟩;refine h.turn (r0:=r) (o0:=.buf q z e (xs.set i y)) hl0 (by simp [Env.setRow,h.N]) (fun r' hr'=>?_) (fun o' ho'=>?_) (fun _ _ _=>rfl) (fun r' o' b' hr' ho' hb=>?_) (fun _ hb=>hb) (fun b' i' hs=>?_) ?_ (fun b2 hb2=>?_)
 ·rw [e_ (fun e=>hr' e.symm)]
 ·rw [d_ hrl] at ho'
  exact (Option.some.inj ho').symm
 ·exact ⟨setRow_other E.w b b' arr' (fun e=>hr' (h.apart r' r o' _ b' ho' hr hb (by rw [e];exact hblk))),fun i hs=>hs⟩
 ·have:=h.Slt b' i' hs
  simpa [Env.setRow] using this
 ·refine ⟨h1,fun y' hy'=>?_,hz,.inr ⟨b,cap,arr',by rw [p_];exact k1,setRow_heap _ _ _ _ _ _ k2,by intro e;apply k3;simpa using e,by simpa using k4,k5,by rw [hc1];exact k6,fun k j y' c hy' hj=>?_,k8⟩⟩
  ·rcases C_ hy' with hy' | rfl
   ·exact h3 y' hy'
   ·exact hy
  ·by_cases hki:i=k
   ·subst hki
    rw [d_ hi] at hy';simp only [Option.some.injEq] at hy';subst hy';have hjz:j<z:=by rw [<-hy];exact (a_.1 hj).1
    have hvj:vs[j]? = some (vs[j]'(by omega)):=c_ _;obtain ⟨g1,g2⟩:=hv j c _ hj hvj;refine ⟨_,?_,g2,g1.le hl0⟩;rw [hcells.2,if_pos (by omega),show i * z+j - i * z=j by omega];simp
   ·rw [e_ hki] at hy'
    obtain ⟨v,k1,k2,k3⟩:=h4 k j y' c hy' hj;have hjz:j<z:=by rw [<-h3 y' (w_ hy')];exact (a_.1 hj).1
    refine ⟨v,?_,k2,k3.le hl0⟩;rw [hcells.2,if_neg]
    ·exact k1
    ·rcases Nat.lt_or_gt_of_ne hki with hlt | hlt
     ·have:(i+1) * z<=k * z:=o_ _ hlt
      rw [B_] at this;omega
     ·have:(k+1) * z<=i * z:=o_ _ hlt
      rw [B_] at this;omega
 ·have hb2':(O.buf q z e xs).block E r b2:=hb2
  exact ⟨h.pv r _ b2 hr hb2',by simpa [Env.setRow] using h.lt r _ b2 hr hb2',fun r' o' hr' ho' hb3=>hr' (h.apart r' r o' _ b2 ho' hr hb3 hb2')⟩
theorem aj2.swapB {P:Program} {sf:FuncId} (gS:Bool) (hx:∀args W,(callFunc sf args).run P W=((Extern.ReflectliteSwapper.swap gS args).run P W).andThen fun v w'=>.ok (.value v) w')
  (et:TypeId) (ie:TypeInfo) (hie:P.info? et=some ie) (hagg:∀w,(isAgg et).run P w=.ok true w) {H:List O} {r q e:Nat} {xs:List (List D)} (hr:H[r]? = some (.buf q ie.size e xs)) {i j:Nat} (hi:i<xs.length) (hj:j<xs.length) :
  aj2 P sf [.d (.int .i64 i),.d (.int .i64 j),.own r q,.val (typeHandle P et)] H (fun c H'=>c=.tup []/\H'=H.set r (.buf q ie.size e ((xs.set i (xs.getD j [])).set j (xs.getD i [])))):=by
 intro E vs hE hsz ha;obtain ⟨v0,v1,v2,v3,rfl⟩:∃v0 v1 v2 v3,vs=#[v0,v1,v2,v3]:=by
  match vs,hsz with
  | ⟨[v0,v1,v2,v3]⟩,_=>exact ⟨v0,v1,v2,v3,rfl⟩
 have e0:v0=.int .i64 i:=by have:=ha 0 _ v0 rfl rfl;cases this with | d _ _ hd=>cases hd;rfl
 have e1:v1=.int .i64 j:=by have:=ha 1 _ v1 rfl rfl;cases this with | d _ _ hd=>cases hd;rfl
 have e3:v3=typeHandle P et:=by have:=ha 3 _ v3 rfl rfl;cases this;rfl
 have hobj:=hE.obj r _ hr;have e2:v2=(E.τ r).2:=by
  have:=ha 2 _ v2 rfl rfl;cases this with
  | own _ _ _ _ _ _ hv=>exact hv hobj.1.symm
 obtain ⟨h1,h3,hz,h5⟩:=hobj;rcases h5 with ⟨ad,_,rfl⟩ | ⟨b,cap,arr,k1,k2,k3,k4,k5,k6,h4,k8⟩
 ·simp at hi
 rw [k1] at e2;subst e0 e1 e2 e3;have rows:∀m,m<xs.length->m * ie.size+ie.size<=arr.size:=fun m hm=>by
  have:(m+1) * ie.size<=cap * ie.size:=o_ _ (by omega);rw [B_] at this;omega
 have seg:∀m,m<xs.length->∃X:List Value,X.length=ie.size/\(∀v∈X,v.oneCell'=true)/\(∀k v,X[k]? = some v->E.w.cell? ⟨b,0+m * ie.size+k,none⟩=some v) /\
   ∀(k:Nat) (c:D) (v:Value),(xs.getD m [])[k]? = some c->X[k]? = some v->RdD E.w E.S c v/\v.oneCell'=true:=fun m hm=>by
  have hxm:xs[m]? = some (xs.getD m []):=by rw [h_,c_ hm];rfl
  have hxl:=h3 _ (w_ hxm);have hrow:=rows m hm;have hget:∀k v,((arr.toList.drop (m * ie.size)).take ie.size)[k]? = some v->k<ie.size/\arr[m * ie.size+k]? = some v:=fun k v hv=>by
   rw [s_] at hv;split at hv
   ·rename_i hk
    rw [z_,Array.getElem?_toList] at hv;exact ⟨hk,hv⟩
   ·simp at hv
  refine ⟨(arr.toList.drop (m * ie.size)).take ie.size,by simp;omega,fun v hv=>?_,fun k v hv=>?_,fun k c v hc hv=>?_⟩
  ·obtain ⟨k,hk⟩:=List.getElem?_of_mem hv
   obtain ⟨hk1,hk2⟩:=hget k v hk;obtain ⟨u,g1,g2,g3⟩:=h4 m k _ ((xs.getD m [])[k]'(by omega)) hxm (c_ _);rw [hk2] at g1;cases g1;exact g2
  ·obtain ⟨hk1,hk2⟩:=hget k v hv
   rw [cell_of_row _ _ _ _ _ _ k2,r_];exact hk2
  ·obtain ⟨hk1,hk2⟩:=hget k v hv
   obtain ⟨u,g1,g2,g3⟩:=h4 m k _ c hxm hc;rw [hk2] at g1;cases g1;exact ⟨g3,g2⟩
 obtain ⟨X,x1,x2,x3,x4⟩:=seg i hi;obtain ⟨Y,y1,y2,y3,y4⟩:=seg j hj;have hfr:∀(o:Nat),E.w.frozen? ⟨b,o,none⟩=false:=fun o=>by simp [World.frozen?,k2]
 have hrun:=Lib.run_swap_cells (P:=P) gS et ie hie hagg b 0 xs.length cap i j hi hj X Y x1 y1 x2 y2 E.w x3 y3 (fun k _=>hfr _) (fun k _=>hfr _);have hyl:∀m,m<xs.length->(xs.getD m []).length=ie.size:=fun m hm=>by
  have hxm:xs[m]? = some (xs.getD m []):=by rw [h_,c_ hm];rfl
  exact h3 _ (w_ hxm)
 obtain ⟨l1,r1⟩:=hE.setB hr k1 k2 hi (hyl j hj) y1 y4;have s1:=ab0 b e (0,0) Y (0+i * ie.size) arr E.w k2 (by have:=rows i hi;omega);rw [r_] at s1;generalize ha1:(arr.toList.take (i * ie.size)++Y++arr.toList.drop (i * ie.size+Y.length)).toArray=arr1 at l1 r1 s1;have hsz1:arr1.size=arr.size:=by
  rw [<-ha1];have:=rows i hi;simp;omega
 have hh1:(E.setRow b arr1).w.heap[b]? = some (.cells arr1 e (0,0)):=setRow_heap _ _ _ _ _ _ k2;have hrl:=(a_.1 hr).1;obtain ⟨l2,r2⟩:=r1.setB (r:=r) (q:=q) (z:=ie.size) (e:=e) (by rw [d_ hrl]) (b:=b) (cap:=cap) (arr:=arr1) (by rw [p_];exact k1) hh1 (i:=j) (by simpa using hj) (hyl i hi) x1 (fun k c v hc hv=>⟨(x4 k c v hc hv).1.le l1,(x4 k c v hc hv).2⟩);have s2:=ab0 b e (0,0) X (0+j * ie.size) arr1 (E.setRow b arr1).w hh1 (by have:=rows j hj;omega);rw [r_] at s2;rw [List.set_set] at r2;refine ⟨.tuple #[],_,.tup [],_,?_,r2,l1.trans l2,.tup [] #[] rfl (fun i c v hc=>by simp at hc),rfl,rfl⟩;rw [hx,hrun];simp only [Result.andThen,r_];rw [s1];show Result.ok _ ((E.setRow b arr1).w.setCells b (j * ie.size) X)=_;rw [s2];rfl
theorem aV5 {α:Type} {l:List α} {i:Nat} {a:α} (h:l[i]? = some a):l.set i a=l:=by
 obtain ⟨h1,rfl⟩:=a_.1 h;exact List.set_getElem_self h1
theorem aJ8 {E:Env} {H:List O} (h:RepH E H) (os:Array Obj):Le E { E with w:=Sort.grow E.w os }/\RepH { E with w:=Sort.grow E.w os } H:=aW2 h 0 os
theorem M8 {α:Type} (enc:α->List D) (f:Nat->α) {n i:Nat} (h:i<n):((List.range n).map (fun k=>enc (f k)))[i]? = some (enc (f i)):=by
 rw [j_,x_ h];rfl
theorem aj7 {P:Program} {ρ:Go.Shelf.Ren} (L:Go.Proofs.LaysGt.n8 P ρ) (t et:TypeId) (it ie:TypeInfo) (hi:P.info? t=some it) (hd:it.desc=.slice et) (hpk:P.packed t=false) (hie:P.info? et=some ie) (ke:Nat)
  (hke:∀w,(Extern.Rtype.kind et).run P w=.ok ke w) (hagg:∀w,(isAgg et).run P w=.ok true w) (f0 f1 sf:FuncId)
  (hf0:P.funcs.findIdx? (·.name == "internal/reflectlite" ++ ".Swapper$" ++ toString (Lib.swapperK 0 ie ke))=some f0) (hf1:P.funcs.findIdx? (·.name == "internal/reflectlite" ++ ".Swapper$" ++ toString (Lib.swapperK 1 ie ke))=some f1)
  (hf:∀n,2<=n->P.funcs.findIdx? (·.name == "internal/reflectlite" ++ ".Swapper$" ++ toString (Lib.swapperK n ie ke))=some sf) (gS:Bool)
  (hx:∀args W,(callFunc sf args).run P W=((Extern.ReflectliteSwapper.swap gS args).run P W).andThen fun v w'=>.ok (.value v) w')
  {α:Type} (enc:α->List D) (henc:∀x,(enc x).length=ie.size) (lt:α->α->Bool) {g:FuncId} {caps:List C} {H:List O} {r q e:Nat} {xs:List α} (hgo:isGo P g=true) (hcaps:caps.all (C.refsLt1 H.length)=true)
  (hrefs:H.all (O.refsLt H.length)=true) (hr:H[r]? = some (.buf q ie.size e (xs.map enc))) (hn:xs.length<=1000000000000)
  (hst:∀(caps2:List C) (n m:Nat) (Hs:(Nat->α)->List O),n<=1000000000000->Srtr P g caps sf caps2 n m Hs lt->∀f0,ACalls P (ρ.f 15) [.agg [.fn g caps,.xfn sf caps2],.d (.int .i64 n)] (Hs f0) (fun c H'=>c=.tup []/\∃f1,((List.range n).map f1).Perm ((List.range n).map f0)/\srt lt f1 0 n/\H'=Hs f1))
  (hless:∀(f:Nat->α) (X:List O) (i j:Nat),i<xs.length->j<xs.length->ACalls P g (.d (.int .i64 i) :: .d (.int .i64 j) :: caps) (H.set r (.buf q ie.size e ((List.range xs.length).map fun k=>enc (f k)))++X) (fun c H'=>c=.d (.bool (lt (f i) (f j)))/\H'=H.set r (.buf q ie.size e ((List.range xs.length).map fun k=>enc (f k)))++X)) :
  ACalls P (ρ.f 8) [.ifc t (.own r q),.fn g caps] H (fun c H'=>c=.tup []/\∃ys:List α,ys.Perm xs/\ys.Pairwise (fun a b=>lt b a=false)/\H'=H.set r (.buf q ie.size e (ys.map enc))):=by
 intro E vs hE hsz ha;obtain ⟨v0,v1,rfl⟩:∃v0 v1,vs=#[v0,v1]:=by
  match vs,hsz with
  | ⟨[v0,v1]⟩,_=>exact ⟨v0,v1,rfl⟩
 have hrl:=(a_.1 hr).1;have hobj:=hE.obj r _ hr;have e0:v0=.iface t (E.τ r).2:=by
  have:=ha 0 _ v0 rfl rfl;cases this with
  | ifc _ _ v h=>cases h with | own _ _ _ _ _ _ hv=>rw [hv hobj.1.symm]
 have hfn:=ha 1 _ v1 rfl rfl;obtain ⟨lb,e1,hlb1,hlb2⟩:∃lb:Array Value,v1=.func (.func g) #[] lb/\lb.size=caps.length/\∀(i:Nat) (c:C) (v:Value),caps[i]? = some c->lb[i]? = some v->Rd E c v:=by
  cases hfn with
  | fn _ _ vs hl hr=>exact ⟨vs,rfl,hl,hr⟩
 subst e0 e1;by_cases h1:xs.length<=1
 ·have hsl:∃p c,(E.τ r).2=.slice p xs.length c:=by
   obtain ⟨_,_,_,h5⟩:=hobj;rcases h5 with ⟨ad,g5,g6⟩ | ⟨b,cap,arr,g5,_⟩
   ·have:xs.length=0:=by cases xs with | nil=>rfl | cons=>simp at g6
    exact ⟨ad,0,by rw [g5,this]⟩
   ·rw [l_] at g5;exact ⟨_,cap,g5⟩
  obtain ⟨p,c,hsl⟩:=hsl;rw [hsl];obtain ⟨ff,hff⟩:∃ff,P.funcs.findIdx? (·.name == "internal/reflectlite" ++ ".Swapper$" ++ toString (Lib.swapperK xs.length ie ke))=some ff:=by
   rcases Nat.lt_or_ge xs.length 1 with h0 | h0
   ·rw [show xs.length=0 by omega];exact ⟨_,hf0⟩
   ·rw [show xs.length=1 by omega];exact ⟨_,hf1⟩
  refine (Go.Proofs.Any.sort_SliceStable_tiny L t et it ie hi hd hpk hie ke hke p xs.length c h1 ff hff (.func g) #[] lb E.w).mono ?_;rintro ex w' ⟨rfl,os,rfl⟩;obtain ⟨l1,r1⟩:=aJ8 hE os;refine ⟨_,.tup [],_,H,rfl,rfl,r1,l1,.tup [] #[] rfl (fun i c v hc=>by simp at hc),rfl,rfl,xs,.refl _,?_,?_⟩
  ·match xs,h1 with
   | [],_=>exact List.Pairwise.nil
   | [x],_=>exact List.pairwise_singleton _ _
  ·rw [aV5 hr]
 ·have hq1:=hobj.1
  obtain ⟨_,_,_,h5⟩:=hobj;rcases h5 with ⟨ad,g5,g6⟩ | ⟨b,cap,arr,g5,_⟩
  ·have:xs.length=0:=by cases xs with | nil=>rfl | cons=>simp at g6
   omega
  rw [l_] at g5;rw [g5];refine (Go.Proofs.Any.sort_SliceStable_of_stable L t et it ie hi hd hpk hie ke hke (some ⟨b,0,none⟩) xs.length cap (by omega) sf (hf _ (by omega)) (.func g) #[] lb E.w (fun w'=>∃E' H',E'.w=w'/\RepH E' H'/\Le E E'/\H'.length=H.length/\∃ys:List α,ys.Perm xs/\ys.Pairwise (fun a b=>lt b a=false)/\H'=H.set r (.buf q ie.size e (ys.map enc))) ?_).mono ?_;rotate_left
  ·rintro ex w' ⟨rfl,E',H',k1,k2,k3,k4,k5⟩
   exact ⟨_,.tup [],E',H',rfl,k1,k2,k3,.tup [] #[] rfl (fun i c v hc=>by simp at hc),k4,rfl,k5⟩
  have hB:Go.Proofs.sliceBound P et ie ke (some ⟨b,0,none⟩) xs.length cap=#[.slice (some ⟨b,0,none⟩) xs.length cap,typeHandle P et]:=by
   unfold Go.Proofs.sliceBound;rw [if_neg (Go.Proofs.swapperK_gt _ _ _ (by omega))]
  rw [hB];have hW:Go.Proofs.stableWorld P ρ t (some ⟨b,0,none⟩) xs.length cap E.w=Sort.grow E.w #[.cells #[.slice (some ⟨b,0,none⟩) xs.length cap] t,.cells #[.pointer (some ⟨P.globals.size,t,none⟩),.pointer (some ⟨E.w.heap.size,0,none⟩),.int .u64 151] (ρ.t 36)]:=by
   unfold Go.Proofs.stableWorld;rw [Sort.alloc_eq_grow,Sort.alloc_eq_grow,Sort.grow_grow];rfl
  rw [hW];obtain ⟨l1,r1⟩:=aJ8 hE #[.cells #[.slice (some ⟨b,0,none⟩) xs.length cap] t,.cells #[.pointer (some ⟨P.globals.size,t,none⟩),.pointer (some ⟨E.w.heap.size,0,none⟩),.int .u64 151] (ρ.t 36)];generalize (#[.cells #[.slice (some ⟨b,0,none⟩) xs.length cap] t,.cells #[.pointer (some ⟨P.globals.size,t,none⟩),.pointer (some ⟨E.w.heap.size,0,none⟩),.int .u64 151] (ρ.t 36)]:Array Obj)=os at l1 r1
  -- rows az a function of their number
  obtain ⟨x0,hx0⟩:∃x0,xs[0]? = some x0:=⟨_,c_ (by omega)⟩;have hrows:(List.range xs.length).map (fun k=>xs.getD k x0)=xs:=by
   apply t_;intro k;rw [j_];by_cases hk:k<xs.length
   ·rw [x_ hk,c_ hk]
    simp [h_,hk]
   ·rw [i_ (by simpa using hk),i_ (by omega)];rfl
  have henc0:(List.range xs.length).map (fun k=>enc (xs.getD k x0))=xs.map enc:=by
   conv=>rhs;rw [<-hrows]
   rw [List.map_map];rfl
  have hHs0:H.set r (.buf q ie.size e ((List.range xs.length).map fun k=>enc (xs.getD k x0)))=H:=by rw [henc0,aV5 hr]
  have S:Srtr P g caps sf [.own r q,.val (typeHandle P et)] xs.length H.length (fun f=>H.set r (.buf q ie.size e ((List.range xs.length).map fun k=>enc (f k)))) lt:=by
   refine ⟨hgo,hcaps,by simp [C.refsLt1,hrl],fun f=>by simp,fun f=>?_,hless,fun f X i j hi hj=>?_⟩
   ·rw [v_] at hrefs |-
    intro o ho;rcases C_ ho with ho | rfl
    ·exact hrefs o ho
    ·rfl
   ·have hb:(H.set r (.buf q ie.size e ((List.range xs.length).map fun k=>enc (f k)))++X)[r]? = some (.buf q ie.size e ((List.range xs.length).map fun k=>enc (f k))):=by
     rw [b_ (by simpa using hrl),d_ hrl]
    refine (aj2.swapB gS hx et ie hie hagg hb (i:=i) (j:=j) (by simpa using hi) (by simpa using hj)).mono ?_;rintro c H' ⟨rfl,rfl⟩;refine ⟨rfl,?_⟩;rw [List.set_append_left _ _ (by simpa using hrl),List.set_set];congr 3;have h2:=bn0 xs.length i j (fun k=>enc (f k)) hi hj;have e1:((List.range xs.length).map (fun k=>enc (f k))).getD j []=enc (f j):=by rw [h_,M8 enc f hj];rfl
    have e2:((List.range xs.length).map (fun k=>enc (f k))).getD i []=enc (f i):=by rw [h_,M8 enc f hi];rfl
    rw [e1,e2,<-h2];apply List.map_congr_left;intro k _;unfold swp;split
    ·rfl
    ·split<;>rfl
  have hc:=hst _ _ _ _ hn S (fun k=>xs.getD k x0);simp only [hHs0] at hc;refine (hc { E with w:=Sort.grow E.w os } #[.agg #[.func (.func g) #[] lb,.func (.func sf) #[] #[.slice (some ⟨b,0,none⟩) xs.length cap,typeHandle P et]],.int .i64 xs.length] r1 rfl (fun i c v hc hv=>?_)).mono ?_
  ·match i with
   | 0 =>
    simp only [D_,Option.some.injEq] at hc;simp at hv;subst hc hv;refine .agg _ _ rfl (fun i v hv=>?_) (fun i c v hc hv=>?_)
    ·match i with
     | 0=>simp at hv;subst hv;rfl
     | 1=>simp at hv;subst hv;rfl
     | i+2=>simp at hv
    ·match i with
     | 0 =>
      simp at hc hv;subst hc hv;exact (Rd.fn g caps lb hlb1 hlb2).le l1
     | 1 =>
      simp at hc hv;subst hc hv;refine .xfn _ _ _ rfl (fun i c v hc hv=>?_);match i with
      | 0 =>
       simp at hc hv;subst hc hv;rw [<-g5];exact (Rd.own (E:=E) r q _ (by rw [hE.N];exact hrl) (by rw [g5];rfl) (by omega) (fun _=>rfl)).le l1
      | 1 =>
       simp at hc hv;subst hc hv;exact .val _
      | i+2=>simp at hc
     | i+2=>simp at hc
   | 1 =>
    simp at hc hv;subst hc hv;exact .d _ _ (.int _ _)
   | i+2=>simp at hc
  ·rintro ex w' ⟨v,rr,E',H',rfl,rfl,h3,h4,h5,h6,rfl,f1,p1,s1,rfl⟩
   have hv:v=.tuple #[]:=by
    cases h5 with
    | tup _ vs hl _=>simp at hl;subst hl;rfl
   subst hv;refine ⟨rfl,E',_,rfl,h3,l1.trans h4,h6,(List.range xs.length).map f1,?_,?_,?_⟩
   ·rw [hrows] at p1;exact p1
   ·rw [List.pairwise_map,List.pairwise_iff_getElem]
    intro i j hi hj hij;simp only [List.length_range] at hi hj;simp only [List.getElem_range];exact s1 i j (Nat.zero_le _) hij hj
   ·rw [List.map_map];rfl
def Env.still (E:Env):Env:={ E with S:=fun b _=>b<E.w.heap.size,N:=0,pv:=fun _=>False }
theorem RepH.still (E:Env):RepH E.still []:=
 ⟨rfl,fun r o h=>by simp at h,fun r o b h=>by simp at h,fun r o b h=>by simp at h,fun r r' o o' b h=>by simp at h,fun b i h=>h⟩
theorem ACalls.peek {P:Program} {f:FuncId} {args args':List C} {H:List O} {d:D} (h:ACalls P f args' [] (fun c _=>c=.d d)) (hf:d.flat=true) (hl:args'.length=args.length)
  (hp:∀E:Env,RepH E H->∀(i:Nat) (c c':C) (v:Value),args[i]? = some c->args'[i]? = some c'->Rd E c v->Rd E.still c' v):ACalls P f args H (fun c H'=>c=.d d/\H'=H):=by
 intro E vs hE hs ha;refine (h E.still vs (RepH.still E) (by rw [hl];exact hs) (fun i c' v hc' hv=>?_)).mono ?_
 ·have hi:i<args.length:=by rw [<-hl];exact (a_.1 hc').1
  exact hp E hE i _ c' v (c_ hi) hc' (ha i _ v (c_ hi) hv)
 ·rintro ex w' ⟨v,c,E',H',rfl,rfl,h3,h4,h5,h6,rfl⟩
  have hb:∀b,b<E.w.heap.size->E'.w.heap[b]? = E.w.heap[b]?:=fun b hb=>h4.blk b hb (fun h=>h);have hl:Le E { E with w:=E'.w }:=by
   refine ⟨h4.os,h4.tape,h4.output,h4.size,m_ _,fun _ _=>rfl,fun _ _=>⟨m_ _,fun _=>rfl⟩,fun _ _ hs=>hs,fun b i hs=>?_,fun b hlt _=>hb b hlt,fun _ _ hs=>.inl hs,fun _ hp=>.inl hp,fun b i arr n hs hh=>(hb b (hE.Slt b i hs)).trans hh⟩;show E'.w.cell? _=_;simp only [World.cell?,hb b (hE.Slt b i hs)]
  refine ⟨v,.d d,{ E with w:=E'.w },H,rfl,rfl,?_,hl,?_,rfl,rfl,rfl⟩
  ·exact hE.keep hl rfl (fun _ _=>rfl) (fun r o b ho hbk=>⟨hb b (hE.lt r o b ho hbk),fun _ hs=>hs⟩) (fun _ hp=>hp) (fun b i hs=>Nat.lt_of_lt_of_le (hE.Slt b i hs) h4.size)
  ·cases h5 with
   | d _ _ hd=>exact .d _ _ (aX7 hf hd)
theorem as5 {E:Env} {H:List O} (hE:RepH E H) {x:D} {v:Value} (h:RdD E.w E.S x v):RdD E.still.w E.still.S x v:=
 h.mono (fun b i hs=>hE.Slt b i hs) (fun _ _ _=>rfl) (fun _ _ _ _ _ hh=>hh)
theorem bw6 {E:Env} {H:List O} (hE:RepH E H) {r q z e:Nat} {xs:List (List D)} (hr:H[r]? = some (.buf q z e xs)):RdD E.still.w E.still.S (.sl xs) (E.τ r).2:=by
 have hobj:=hE.obj r _ hr;obtain ⟨h1,h3,hz,h5⟩:=hobj;rcases h5 with ⟨ad,g5,rfl⟩ | ⟨b,cap,arr,k1,k2,k3,k4,k5,k6,h4,k8⟩
 ·rw [g5];exact .nil _ _
 ·rw [k1]
  have hblk:(O.buf q z e xs).block E r b:=by simp only [O.block,k1,ownB];rw [if_neg (by have:=List.length_pos_iff.2 k3;omega)]
  have hlb:=hE.lt r _ _ hr hblk;refine .sl b 0 cap z xs (fun i j=>arr.getD (i * z+j) undef) k3 k4 k5 h3 (fun i j hi hj=>?_) (fun i j x c hi hj=>?_)
  ·have hxz:=h3 xs[i] (List.getElem_mem _)
   obtain ⟨v,k2',k3',k4'⟩:=h4 i j xs[i] (xs[i][j]'(by omega)) (c_ hi) (c_ _);refine ⟨hlb,?_,?_⟩
   ·simp only [r_]
    show E.w.cell? _=_;rw [cell_of_row _ _ _ _ _ _ k2,k2',g_,k2'];rfl
   ·rw [g_,k2'];exact k3'
  ·obtain ⟨v,k2',k3',k4'⟩:=h4 i j x c hi hj
   rw [g_,k2'];exact as5 hE k4'
theorem bl5 {E:Env} {H:List O} (hE:RepH E H) {rb r q z e:Nat} {xs:List (List D)} (hb:H[rb]? = some (.box [.own r q])) (hr:H[r]? = some (.buf q z e xs)) {v:Value} (hv:Rd E (.ptr rb 0) v):Rd E.still (.cptr [.sl xs]) v:=by
 cases hv with
 | ptr _ _ hN =>
  obtain ⟨arr,e',h1,h2,h3,h4⟩:=hE.obj rb _ hb;have hlb:E.β rb<E.w.heap.size:=(Array.getElem?_eq_some_iff.1 h1).1;have hs:arr.size=1:=h2;have hv0:arr[0]? = some (arr[0]'(by omega)):=Array.getElem?_eq_getElem _;obtain ⟨g1,g2⟩:=h3 0 _ _ rfl hv0;have hq:=(hE.obj r _ hr).1;refine .cptr _ 0 _ (fun _=>arr[0]'(by omega)) (fun j hj=>?_) (fun j c hc=>?_)
  ·have hj0:j=0:=by simp at hj;exact hj
   subst hj0;refine ⟨hlb,?_,g2⟩;show E.w.cell? _=_;rw [cell_of_row _ _ _ _ _ _ h1];exact hv0
  ·have hj0:j=0:=by have:=(a_.1 hc).1;simp at this;exact this
   subst hj0;simp at hc;subst hc;generalize arr[0]'(by omega)=u at g1;cases g1 with
   | own _ _ _ _ _ _ hvv=>rw [hvv hq.symm];exact bw6 hE hr
theorem ck0 {P:Program} {g:FuncId} {H:List O} {rb r q z e:Nat} (hb:H[rb]? = some (.box [.own r q])) (hne:rb≠r) (hrl:r<H.length) {xs:List (List D)} {i j:Int} {b:Bool} (X:List O)
  (h:ACalls P g [.d (.int .i64 i),.d (.int .i64 j),.cptr [.sl xs]] [] (fun c _=>c=.d (.bool b))) :
  ACalls P g [.d (.int .i64 i),.d (.int .i64 j),.ptr rb 0] (H.set r (.buf q z e xs)++X) (fun c H'=>c=.d (.bool b)/\H'=H.set r (.buf q z e xs)++X):=by
 have hbl:=(a_.1 hb).1;refine ACalls.peek h rfl rfl (fun E hE k c c' v hc hc' hv=>?_);match k with
 | 0=>simp at hc hc';subst hc hc';cases hv with | d _ _ hd=>exact .d _ _ (as5 hE hd)
 | 1=>simp at hc hc';subst hc hc';cases hv with | d _ _ hd=>exact .d _ _ (as5 hE hd)
 | 2 =>
  simp at hc hc';subst hc hc';refine bl5 hE (rb:=rb) (r:=r) (q:=q) (z:=z) (e:=e) ?_ ?_ hv
  ·rw [b_ (by simpa using hbl),e_ (Ne.symm hne)];exact hb
  ·rw [b_ (by simpa using hrl),d_ hrl]
 | k+3=>simp at hc
def aU1 (P:Program) (s:St) (t u:TypeId) (y:C) (K:C->List O->Prop):Prop:=
 match y8 P t,I8 s y with
 | some (e,z,by_),.d (.sl ys)=>(P.underlying u).isSome=true/\p9 P u=true/\(∀y',y'∈ys->y'.length=z)/\ys.length<=maxLen/\ys.length * by_<=140737488355328/\K (.own s.H.length 1) (s.H++[.buf 1 z e ys])
 | _,_=>False
theorem bf7 {P:Program} {s:St} {o:Oper} {K:C->List O->Prop} {x y:Operand} {t u:TypeId} (ho:o.op=.call { callee:=.builtin .append,args:=#[x,y],argTypes:=#[t,u] })
  (hx:d9 x=true) (hy:d9 y=true) (hev:ev s x=.nil0) (h:aU1 P s t u (ev s y) K):H9 P s o K:=by
 unfold aU1 at h;split at h
 ·rename_i e z by_ ys ht hys
  obtain ⟨_,hu,hyz,h1,h2,hk⟩:=h;have hz:0<z:=(I7 ht).2.1;intro E ns a hst;have hv:=q8 hst (o9 hst y hy);rw [hys] at hv;have hs:Src P E z u ys (a.eval y):=by
   generalize a.eval y=v at hv |-;cases hv with
   | d _ _ hd=>exact aV4 hu hyz hd
  obtain ⟨L,hL,hfx⟩:=hs.cells;have hvx:=o9 hst x hx;rw [hev] at hvx;generalize hg:a.eval x=v at hvx;cases hvx with
  | nil0 ad =>
   obtain ⟨hl0,hH0⟩:=az8 hst.heap ad e hz;have hr:(s.H++[O.buf 0 z e []])[s.H.length]? = some (.buf 0 z e []):=by simp
   have hτ0:((E.ghost ad).τ s.H.length).2=.slice ad 0 0:=by simp [Env.ghost,hst.heap.N]
   obtain ⟨v',E',k1,k2,k3,k4,k5⟩:=al8 (P:=P) (ty:=o.type) hH0 ht hs.plain hr (x:=a.eval y) hL hs.len hfx (by simpa using h1) (by simpa using h2);rw [hτ0] at k1;have k1:(Builtin.append_ #[t,u] o.type #[.slice ad 0 0,a.eval y]).run P E.w=.ok v' E'.w:=k1;unfold Oper.wp execOp;simp only [ho,resolve,invoke,builtin,Sem.run_bind,Sem.run_pure,Result.andThen_ok,List.map_toArray,List.map_cons,List.map_nil,hg,k1,Oper.upon];exact ⟨v',E',.own s.H.length 1,_,rfl,rfl,.own _ _ v' (by rw [k3.N];simp) k5 (by rw [k4];exact m_ _) (fun _=>by rw [k4]),k3,hl0.trans k2,by simpa using hk⟩
 ·exact h.elim
def bu0 (P:Program) (s:St) (o:Oper) (K:C->List O->Prop):Prop:=
 match o.op with
 | .call c =>
  (match c.callee with
  | .builtin .append=>(match c.args.toList,c.argTypes.toList with
   | [x,y],[t,u]=>d9 x=true/\d9 y=true/\(match ev s x with
    | .nil0=>aU1 P s t u (ev s y) K
    | _=>U3 P s t u (ev s x) (ev s y) K)
   | _,_=>False)
  | _=>J8 P s o K)
 | _=>J8 P s o K
theorem aN6 {P:Program} {s:St} {o:Oper} {K:C->List O->Prop} (h:bu0 P s o K):H9 P s o K:=by
 unfold bu0 at h;split at h
 ·rename_i c ho
  obtain ⟨callee,args,argTypes⟩:=c;dsimp only at h;split at h
  ·split at h
   ·rename_i x y t u hargs hts
    have e1:args=#[x,y]:=Array.toList_inj.1 (by simpa using hargs);have e2:argTypes=#[t,u]:=Array.toList_inj.1 (by simpa using hts);subst e1 e2;obtain ⟨h1,h2,h3⟩:=h;split at h3
    ·exact bf7 ho h1 h2 (by assumption) h3
    ·exact an7 ho h1 h2 h3
   ·exact h.elim
  ·exact q9 h
 ·exact q9 h
def bM1 (P:Program) (n:Nat) (K:St->Prop):List Oper->St->Prop
 | [],⟨σ,H⟩=>K ⟨σ,H⟩
 | o :: rest,⟨σ,H⟩=>G9 n o=true/\o.guard=none/\bu0 P ⟨σ,H⟩ o (kR (bM1 P n K rest) ⟨σ,H⟩ o.dst)
theorem ay4 {P:Program} {n:Nat} {K:St->Prop} {ops:Array Oper} {E0:Env}:∀(os:List Oper) (l:List Nat) (s:St) (E:Env) (a:Act),l.map (ops[·]?)=os.map some->RepSt E n s a->Le E0 E->bM1 P n K os s ->
  wpOps P ops (Behind n E0 K) l a E.w
 | [],l,s,E,a,hl,hst,hle,h=>by
  have:l=[]:=by simpa using hl
  subst this;exact ⟨rfl,E,s,rfl,hst,hle,h⟩
 | o :: os,l,s,E,a,hl,hst,hle,h=>by
  cases l with
  | nil=>simp at hl
  | cons i l =>
   simp only [List.map_cons,List.cons.injEq] at hl;obtain ⟨ho,hl⟩:=hl;unfold bM1 at h;obtain ⟨hd,hg,h⟩:=h;have hdst:∀d,o.dst=some d->d<n:=fun d hd'=>by
    unfold G9 at hd;rw [hd'] at hd;simpa using hd
   rw [Go.wpOps_cons];refine ap9 (n:=n) ho hg ((aN6 h).run hst (fun v E' c H' h1 h2 h3 h4=>?_));exact ay4 os l _ E' _ hl (hst.put h3 h2 hdst h1) (hle.trans h3) h4
theorem AW.regS {P:Program} {n:Nat} {f:FuncId} {n0:Nat} {R:C->List O->Prop} {id:Nat} {ops:Array Oper} {k:List Item} {s:St} (h:bM1 P n (AW P f n n0 R k) ops.toList s):AW P f n n0 R (.code (.region id ops false) :: k) s:=by
 refine AW.of_behind (k':=k) fun _ E a b cs hst=>?_;have hw:=ay4 (ops:=ops) ops.toList (List.range ops.size) s E a (by
  apply t_;intro j;simp only [j_];by_cases hj:j<ops.size
  ·rw [x_ hj]
   simp [hj]
  ·rw [i_ (by simpa using hj),i_ (by simpa using hj)]
   rfl) hst (Le.refl E) h
 obtain ⟨e,a',w',⟨rfl,E',s',rfl,h1,h2,h3⟩,harr⟩:=wp_region (id:=id) hw b k cs;exact ⟨a',E',s',harr,h1,h2,h3⟩
attribute [go_sem] aU1.eq_1 bu0.eq_def bM1.eq_1 bM1.eq_2
theorem RepH.frzB {E:Env} {H:List O} (h:RepH E H) {r q z e:Nat} {xs:List (List D)} (hr:H[r]? = some (.buf q z e xs)) :
  ∃E',E'.w=E.w/\Le E E'/\RepH E' (H.set r .dead)/\E'.β=E.β/\RdD E'.w E'.S (.sl xs) (E.τ r).2/\(∀b i,E'.S b i->E.S b i\/(O.buf q z e xs).block E r b):=by
 obtain ⟨h1,h2,h3,h4⟩:=h.obj r _ hr;rcases h4 with ⟨ad,h5,rfl⟩ | ⟨b0,cap,arr,h5,h6,h7,h8,h9,h10,h11,h12⟩
 ·refine ⟨E,rfl,Le.refl E,?_,rfl,by rw [h5];exact .nil _ _,fun b i hs=>.inl hs⟩
  refine h.turn (r0:=r) (o0:=.dead) (Le.refl E) (by simp [h.N]) (fun r' hr'=>?_) (fun o' ho'=>?_) (fun _ _ _=>rfl) (fun r' o' b hr' ho' hb=>⟨rfl,fun i hs=>hs⟩) (fun _ hb=>hb) (fun b i hs=>h.Slt b i hs) trivial (fun b hb=>by simp [O.block] at hb)
  ·rw [e_ (fun e=>hr' e.symm)]
  ·rw [d_ (a_.1 hr).1] at ho'
   exact (Option.some.inj ho').symm
 ·have hx:=List.length_pos_iff.2 h7
  have hblk:(O.buf q z e xs).block E r b0:=by simp [O.block,h5,ownB];omega
  have hpv:=h.pv r _ _ hr hblk;have hlb:=h.lt r _ _ hr hblk;have hl:Le E (E.freezeBlk b0):=by
   refine ⟨rfl,rfl,rfl,m_ _,m_ _,fun _ _=>rfl,fun _ _=>⟨m_ _,fun _=>rfl⟩,fun _ _ hs=>.inl hs,fun _ _ _=>rfl,fun _ _ _=>rfl,fun b i hs=>?_,fun _ hp=>.inl hp,fun _ _ _ _ _ hh=>hh⟩;rcases hs with hs | rfl
   ·exact .inl hs
   ·exact .inr (.inr hpv)
  refine ⟨E.freezeBlk b0,rfl,hl,?_,rfl,?_,fun b i hs=>?_⟩
  ·refine h.turn (r0:=r) (o0:=.dead) hl (by simp [Env.freezeBlk,h.N]) (fun r' hr'=>?_) (fun o' ho'=>?_) (fun _ _ _=>rfl) (fun r' o' b hr' ho' hb=>⟨rfl,fun i hs=>?_⟩) (fun _ hb=>hb) (fun b i hs=>?_) trivial (fun b hb=>by simp [O.block] at hb)
   ·rw [e_ (fun e=>hr' e.symm)]
   ·rw [d_ (a_.1 hr).1] at ho'
    exact (Option.some.inj ho').symm
   ·rcases hs with hs | rfl
    ·exact hs
    ·exact absurd (h.apart r' r o' _ _ ho' hr hb hblk) hr'
   ·rcases hs with hs | rfl
    ·exact h.Slt b i hs
    ·exact hlb
  ·rw [h5]
   refine .sl b0 0 cap z xs (fun i j=>arr.getD (i * z+j) undef) h7 h8 h9 h2 (fun i j hi hj=>?_) (fun i j x c hi hj=>?_)
   ·have hxz:=h2 xs[i] (List.getElem_mem _)
    obtain ⟨v,k2,k3,k4⟩:=h11 i j xs[i] (xs[i][j]'(by omega)) (c_ hi) (c_ _);refine ⟨.inr rfl,?_,?_⟩
    ·simp only [r_]
     show E.w.cell? _=_;rw [cell_of_row _ _ _ _ _ _ h6,k2,g_,k2];rfl
    ·rw [g_,k2];exact k3
   ·obtain ⟨v,k2,k3,k4⟩:=h11 i j x c hi hj
    rw [g_,k2];exact k4.le hl
  ·rcases hs with hs | rfl
   ·exact .inl hs
   ·exact .inr hblk
theorem RepH.frzBox {E:Env} {H:List O} (h:RepH E H) {rb j r q z e:Nat} {cs:List C} {xs:List (List D)} (hb:H[rb]? = some (.box cs)) (hj:cs[j]? = some (.own r q)) (hr:H[r]? = some (.buf q z e xs)) (hne:rb≠r) :
  ∃E',E'.w=E.w/\Le E E'/\RepH E' ((H.set r .dead).set rb (.box (cs.set j (.d (.sl xs))))):=by
 obtain ⟨E',e1,hl,hH,eβ,hd,hS⟩:=h.frzB hr;refine ⟨E',e1,hl,?_⟩;have hb':(H.set r .dead)[rb]? = some (.box cs):=by rw [e_ (Ne.symm hne)];exact hb
 have hlen:rb<(H.set r .dead).length:=(a_.1 hb').1;have at0:∀(r':Nat) (o:O),((H.set r .dead).set rb (.box (cs.set j (.d (.sl xs)))))[r']? = some o->(r'=rb/\o=.box (cs.set j (.d (.sl xs))))\/(H.set r .dead)[r']? = some o:=by
  intro r' o ho;by_cases e:r'=rb
  ·subst e
   rw [d_ hlen] at ho;exact .inl ⟨rfl,(Option.some.inj ho).symm⟩
  ·rw [e_ (fun e'=>e e'.symm)] at ho
   exact .inr ho
 have old:∀(r':Nat) (o:O),((H.set r .dead).set rb (.box (cs.set j (.d (.sl xs)))))[r']? = some o->∃o',(H.set r .dead)[r']? = some o'/\o'.block E' r'=o.block E' r':=by
  intro r' o ho;rcases at0 r' o ho with ⟨rfl,rfl⟩ | ho
  ·exact ⟨_,hb',rfl⟩
  ·exact ⟨o,ho,rfl⟩
 refine ⟨by rw [p_];exact hH.N,fun r' o ho=>?_,fun r' o b ho hk=>?_,fun r' o b ho hk=>?_,fun r1 r2 o1 o2 b h1 h2 k1 k2=>?_,hH.Slt⟩
 ·rcases at0 r' o ho with ⟨rfl,rfl⟩ | ho
  ·obtain ⟨arr,ty,a1,a2,a3,a4⟩:=hH.obj _ _ hb'
   obtain ⟨arr2,ty2,c1,c2,c3,c4⟩:=h.obj _ _ hb;rw [eβ,e1] at a1;rw [c1] at a1;cases a1;refine ⟨arr,ty,by rw [eβ,e1];exact c1,by simpa using a2,fun i c v hc hv=>?_,a4⟩;by_cases hij:i=j
   ·subst hij
    have hjl:=(a_.1 hj).1;rw [d_ hjl] at hc;obtain ⟨k1,k2⟩:=c3 i _ v hj hv;refine ⟨?_,k2⟩;rw [<-Option.some.inj hc];cases k1 with
    | own _ _ _ _ _ _ hvv=>rw [hvv (h.obj r _ hr).1.symm];exact .d _ _ hd
   ·rw [e_ (fun e'=>hij e'.symm)] at hc
    exact a3 i c v hc hv
  ·exact hH.obj r' o ho
 ·obtain ⟨o',h1,h2⟩:=old r' o ho
  exact hH.pv r' o' b h1 (by rw [h2];exact hk)
 ·obtain ⟨o',h1,h2⟩:=old r' o ho
  exact hH.lt r' o' b h1 (by rw [h2];exact hk)
 ·obtain ⟨o1',g1,e1⟩:=old r1 o1 h1
  obtain ⟨o2',g2,e2⟩:=old r2 o2 h2;exact hH.apart r1 r2 o1' o2' b g1 g2 (by rw [e1];exact k1) (by rw [e2];exact k2)
theorem AW.frzBox {P:Program} {f:FuncId} {n n0:Nat} {R:C->List O->Prop} {k:List Item} {s:St} (rb j r:Nat) {q z e:Nat} {cs:List C} {xs:List (List D)} (hb:s.H[rb]? = some (.box cs)) (hj:cs[j]? = some (.own r q)) (hr:s.H[r]? = some (.buf q z e xs)) (hne:rb≠r)
  (h:AW P f n n0 R k ⟨s.σ,(s.H.set r .dead).set rb (.box (cs.set j (.d (.sl xs))))⟩):AW P f n n0 R k s:=by
 refine AW.recast (s':=⟨s.σ,(s.H.set r .dead).set rb (.box (cs.set j (.d (.sl xs))))⟩) (fun hn0 E a hst=>?_);obtain ⟨E',e1,hl,hH⟩:=hst.heap.frzBox hb hj hr hne;exact ⟨E',e1,hl,⟨hst.size,hst.defers,hH,fun t=>(hst.slot t).le hl⟩,h⟩
def bE9 (P:Program) (s:St) (o:Oper) (K:C->List O->Prop):Prop:=
 match o.op with
 | .load t x=>(match ev s x with
  | .tptr r q z i off=>(match s.H[r]? with
   | some (.buf q' z' e xs)=>(match tAgg P t,y5 P t with
    | some true,some n=>d9 x=true/\q=q'/\z=z'/\i<xs.length/\0<n/\off+n<=z/\idx xs i (fun x=>K (.d (.agg ((x.drop off).take n))) s.H)
    | _,_=>J5 P s o K)
   | _=>J5 P s o K)
  | _=>J5 P s o K)
 | _=>J5 P s o K
def bY5 (P:Program) (n:Nat) (K:St->Prop):List Oper->St->Prop
 | [],⟨σ,H⟩=>K ⟨σ,H⟩
 | o :: rest,⟨σ,H⟩=>G9 n o=true/\o.guard=none/\bE9 P ⟨σ,H⟩ o (kR (bY5 P n K rest) ⟨σ,H⟩ o.dst)
attribute [go_sem] bE9.eq_def bY5.eq_1 bY5.eq_2
section
variable {P:Program} {f:FuncId} {n n0:Nat} {R:C->List O->Prop}
end
section
variable {P:Program} {E:Env}
end
def bO5 (P:Program) (s:St) (o:Oper) (K:C->List O->Prop):Prop:=
 match o.op with
 | .buildSlice t n ps=>(match y8 P t with
  | some (e,z,_)=>n * z<=16777216/\ps.size=n/\0<n/\D8 s z (fun l=>K (.own s.H.length 1) (s.H++[.buf 1 z e l])) ps.toList 0
  | none=>False)
 | _=>bE9 P s o K
def bY1 (P:Program) (n:Nat) (K:St->Prop):List Oper->St->Prop
 | [],⟨σ,H⟩=>K ⟨σ,H⟩
 | o :: rest,⟨σ,H⟩=>G9 n o=true/\o.guard=none/\bO5 P ⟨σ,H⟩ o (kR (bY1 P n K rest) ⟨σ,H⟩ o.dst)
attribute [go_sem] bO5.eq_def bY1.eq_1 bY1.eq_2
def bt1 (P:Program) (n:Nat) (ops:Array Oper) (K:St->Prop):List Oper->St->Prop
 | [],⟨σ,H⟩=>K ⟨σ,H⟩
 | o :: rest,⟨σ,H⟩=>G9 n o=true /\
  (match o.guard with
  | none=>J5 P ⟨σ,H⟩ o (kR (bt1 P n ops K rest) ⟨σ,H⟩ o.dst)
  | some (j,want) =>
   match (ops[j]?).bind (·.dst) with
   | some t =>
    match get σ t with
    | .d (.bool b) =>
     br (b == want) (app (J5 P (put ⟨σ,H⟩ (some t) (.d (.bool want))) o) (kR (bt1 P n ops K rest) (put ⟨σ,H⟩ (some t) (.d (.bool want))) o.dst))
      (app (bt1 P n ops K rest) (put (put ⟨σ,H⟩ (some t) (.d (.bool (!want)))) o.dst (.tup [])))
    | .tup []=>bt1 P n ops K rest (put ⟨σ,H⟩ o.dst (.tup []))
    | _=>False
   | none=>False)
section
variable (P:Program) (f:FuncId) (n n0:Nat) (R:C->List O->Prop) (rs:List ResultVar)
def ad2:Nat->List Item->St->Prop
 | 0,k,⟨σ,H⟩=>AW P f n n0 R k ⟨σ,H⟩
 | _+1,[],⟨σ,H⟩=>aH7 P rs n0 R ⟨σ,H⟩
 | fuel+1,.inBlock _ :: k,⟨σ,H⟩=>ad2 fuel k ⟨σ,H⟩
 | fuel+1,.code c :: k,⟨σ,H⟩ =>
  (match c with
  | .ret=>aH7 P rs n0 R ⟨σ,H⟩
  | .skip=>ad2 fuel k ⟨σ,H⟩
  | .label _=>ad2 fuel k ⟨σ,H⟩
  | .seq x y=>ad2 fuel (.code x :: .code y :: k) ⟨σ,H⟩
  | .block id x=>ad2 fuel (.code x :: .inBlock id :: k) ⟨σ,H⟩
  | .exit id=>(match exitTo id k with | some k'=>ad2 fuel k' ⟨σ,H⟩ | none=>False)
  | .cond c x y=>d9 c=true/\(match ev ⟨σ,H⟩ c with
   | .d (.bool b)=>br b (app (ad2 fuel (.code x :: k)) ⟨σ,H⟩) (app (ad2 fuel (.code y :: k)) ⟨σ,H⟩)
   | _=>False)
  | .region _ ops false=>bt1 P n ops (ad2 fuel k) ops.toList ⟨σ,H⟩
  | .region _ ops true=>vcD P n ops (ad2 fuel k) ops.toList ⟨σ,H⟩
  | c=>AW P f n n0 R (.code c :: k) ⟨σ,H⟩)
 | _+1,k,⟨σ,H⟩=>AW P f n n0 R k ⟨σ,H⟩
end
section
variable {P:Program} {f:FuncId} {n n0:Nat} {R:C->List O->Prop} {rs:List ResultVar} {k:List Item} {s s':St}
@[congr] theorem bY4 {ops:Array Oper} {os:List Oper} {KS:St->Prop} (h:s=s'):bt1 P n ops KS os s=bt1 P n ops KS os s':=by rw [h]
@[congr] theorem ci9 {fuel:Nat} (h:s=s'):ad2 P f n n0 R rs fuel k s=ad2 P f n n0 R rs fuel k s':=by rw [h]
theorem aP0 {fuel id:Nat} {l:List Oper} {σ:List (Nat×C)} {H:List O}:ad2 P f n n0 R rs (fuel+1) (.code (.region id (List.toArray l) false) :: k) ⟨σ,H⟩=bt1 P n (List.toArray l) (ad2 P f n n0 R rs fuel k) l ⟨σ,H⟩:=by
 rw [ad2]
theorem bk9 {fuel id:Nat} {l:List Oper} {σ:List (Nat×C)} {H:List O}:ad2 P f n n0 R rs (fuel+1) (.code (.region id (List.toArray l) true) :: k) ⟨σ,H⟩=vcD P n (List.toArray l) (ad2 P f n n0 R rs fuel k) l ⟨σ,H⟩:=by
 rw [ad2]
theorem bk7 {fuel:Nat} {c:Code} {σ:List (Nat×C)} {H:List O}:ad2 P f n n0 R rs (fuel+1) (.code (.loop c) :: k) ⟨σ,H⟩=AW P f n n0 R (.code (.loop c) :: k) ⟨σ,H⟩:=by
 rw [ad2]<;>simp
theorem aP1 {fuel:Nat} {c:Code} {σ:List (Nat×C)} {H:List O}:ad2 P f n n0 R rs (fuel+1) (.inLoop c :: k) ⟨σ,H⟩=AW P f n n0 R (.inLoop c :: k) ⟨σ,H⟩:=by
 rw [ad2]<;>simp
def bt5 (P:Program) (f:FuncId) (n n0:Nat) (R:C->List O->Prop) (rs:List ResultVar) (fuel j:Nat) (k:List Item) (s:St):Prop:=
 match Go.exitTo j k with
 | some k'=>ad2 P f n n0 R rs fuel k' s
 | none=>False
@[congr] theorem ck5 {fuel j:Nat} (h:s=s'):bt5 P f n n0 R rs fuel j k s=bt5 P f n n0 R rs fuel j k s':=by rw [h]
theorem bk8 {fuel j:Nat} {σ:List (Nat×C)} {H:List O}:ad2 P f n n0 R rs (fuel+1) (.code (.exit j) :: k) ⟨σ,H⟩=bt5 P f n n0 R rs fuel j k ⟨σ,H⟩:=by
 rw [ad2];rfl
theorem bq8 {fuel j:Nat} {c:Code}:bt5 P f n n0 R rs fuel j (.code c :: k) s=bt5 P f n n0 R rs fuel j k s:=rfl
theorem aS0 {fuel j:Nat} {c:Code}:bt5 P f n n0 R rs fuel j (.inLoop c :: k) s=bt5 P f n n0 R rs fuel j k s:=rfl
theorem be8 {fuel j j':Nat}:bt5 P f n n0 R rs fuel j (.inBlock j' :: k) s=if j'=j then ad2 P f n n0 R rs fuel k s else bt5 P f n n0 R rs fuel j k s:=by
 unfold bt5;rw [exitTo.eq_1];by_cases h:j'=j
 ·simp [h]
 ·rw [if_neg (by simpa using h),if_neg h]
end
attribute [go_sem] aP0 bk9 bk7 aP1 bk8 bq8 aS0 be8 ad2.eq_2 ad2.eq_3 ad2.eq_4 ad2.eq_5 ad2.eq_6 ad2.eq_7 ad2.eq_8 ad2.eq_10
attribute [go_sem] bt1.eq_1 bt1.eq_2
section
variable {P:Program}
theorem RepH.seen {E:Env} {H:List O} (h:RepH E H) {r:Nat} {o o':O} (ho:H[r]? = some o) (hb:∀b,o'.block E r b↔o.block E r b) (hr:J3 E r o'):RepH E (H.set r o'):=by
 have hrl:=(a_.1 ho).1;refine h.turn (r0:=r) (o0:=o') (Le.refl E) (by simp [h.N]) (fun r' hr'=>by rw [e_ (fun e=>hr' e.symm)]) (fun o2 ho2=>by rw [d_ hrl] at ho2;exact (Option.some.inj ho2).symm) (fun _ _ _=>rfl) (fun r' o2 b hr' ho2 hbb=>⟨rfl,fun i hs=>hs⟩) (fun _ hp=>hp) (fun b i hs=>h.Slt b i hs) hr (fun b hbb=>?_);have hbo:=(hb b).1 hbb;exact ⟨h.pv r _ b ho hbo,h.lt r _ b ho hbo,fun r' o2 hr' ho2 hb2=>hr' (h.apart r' r o2 _ b ho2 ho hb2 hbo)⟩
def bC0 (P:Program) (t:TypeId) (r q q' z:Nat) (ys:List (List D)) (i:C) (K:C->Prop):Prop:=
 match i,N7 P t with
 | .d (.int _ m),some e=>y5 P e=some z/\q=q'/\0<=m/\m<ys.length/\K (.tptr r q z m.toNat 0)
 | _,_=>False
def bP0 (P:Program) (t:TypeId) (q q' z z' i off:Nat) (ys xs:List (List D)) (K:C->Prop):Prop:=
 match tAgg P t,y5 P t with
 | some true,some n=>q=q'/\z=z'/\i<ys.length/\0<n/\off+n<=z/\idx ys i (fun y=>(y.drop off).take n=List.replicate n .any)/\xs.length=ys.length/\idx xs i (fun x=>x.length=z/\K (.d (.agg ((x.drop off).take n))))
 | some false,_=>q=q'/\z=z'/\i<ys.length/\off<z/\idx ys i (fun y=>y[off]? = some .any)/\xs.length=ys.length/\idx xs i (fun x=>x.length=z/\idx x off (fun d=>K (.d d)))
 | _,_=>False
def bO1 (P:Program) (s:St) (t:TypeId) (r q z i off:Nat) (x:C) (K:List O->Prop):Prop:=
 match y5 P t with
 | some n=>K6 x=true/\(cellsOf x).length=n /\
  (match C8 s.H (cellsOf x) with
  | some (ds,H1) =>
   (match H1[r]? with
   | some (.mix q' z' e ys xs _)=>q=q'/\z=z'/\i<ys.length/\off+n<=z/\(∀d,d∈ds->d≠.any) /\
     ∀B',K (H1.set r (.mix q z e (ys.set i ((ys.getD i []).take off++ds++(ys.getD i []).drop (off+n))) xs B'))
   | _=>False)
  | none=>False)
 | none=>False
def bO4 (P:Program) (s:St) (o:Oper) (K:C->List O->Prop):Prop:=
 match o.op with
 | .load t x=>(match ev s x with
  | .tptr r q z i off=>(match s.H[r]? with
   | some (.mix q' z' e ys xs B)=>d9 x=true/\bP0 P t q q' z z' i off ys xs (fun c=>K c s.H)
   | _=>J5 P s o K)
  | _=>J5 P s o K)
 | .indexAddr t x i=>(match ev s x with
  | .own r q=>(match s.H[r]? with
   | some (.mix q' z e ys xs B)=>d9 x=true/\d9 i=true/\bC0 P t r q q' z ys (ev s i) (fun c=>K c s.H)
   | _=>J5 P s o K)
  | _=>J5 P s o K)
 | .store t p x=>(match ev s p with
  | .tptr r q z i off=>(match s.H[r]? with
   | some (.mix ..)=>d9 p=true/\d9 x=true/\bO1 P s t r q z i off (ev s x) (K .top)
   | _=>J5 P s o K)
  | _=>J5 P s o K)
 | _=>J5 P s o K
def bY0 (P:Program) (n:Nat) (K:St->Prop):List Oper->St->Prop
 | [],⟨σ,H⟩=>K ⟨σ,H⟩
 | o :: rest,⟨σ,H⟩=>G9 n o=true/\o.guard=none/\bO4 P ⟨σ,H⟩ o (kR (bY0 P n K rest) ⟨σ,H⟩ o.dst)
attribute [go_sem] bC0.eq_def bP0.eq_def bO1.eq_def bO4.eq_def bY0.eq_1 bY0.eq_2
end
def bw7 (p:(List UInt8×List (List D))×Value):List D:=[.str p.1.1,.raw p.2]
def crF (p:(List UInt8×List (List D))×Value):Value×D:=(p.2,.sl p.1.2)
def Held (w:World) (L:List (Value×D)) (B:Nat->Prop):Prop:=∃Bs:Nat->Nat->Prop,(∀k v d,L[k]? = some (v,d)->v.oneCell'=true/\Tr w d v (Bs k))/\(∀k b,Bs k b->B b)/\(∀k k' b,Bs k b->Bs k' b->k=k')
section
variable {w:World}
theorem Held.mono {L:List (Value×D)} {B B':Nat->Prop} (h:Held w L B) (hB:∀b,B b->B' b):Held w L B':=by
 obtain ⟨Bs,h1,h2,h3⟩:=h;exact ⟨Bs,h1,fun k b hb=>hB b (h2 k b hb),h3⟩
theorem Held.uncons {a:Value×D} {L:List (Value×D)} {B:Nat->Prop} (h:Held w (a :: L) B):∃B0:Nat->Prop,a.1.oneCell'=true/\Tr w a.2 a.1 B0/\(∀b,B0 b->B b)/\Held w L (fun b=>B b/\¬B0 b):=by
 obtain ⟨Bs,h1,h2,h3⟩:=h;obtain ⟨k1,k2⟩:=h1 0 a.1 a.2 rfl;refine ⟨Bs 0,k1,k2,h2 0,fun k=>Bs (k+1),fun k v d hk=>h1 (k+1) v d (by simpa using hk),fun k b hb=>⟨h2 _ b hb,fun h0=>?_⟩,fun k k' b hb hb'=>?_⟩
 ·have:=h3 _ _ b hb h0;omega
 ·have:=h3 _ _ b hb hb';omega
theorem Held.cons {a:Value×D} {L:List (Value×D)} {B B0:Nat->Prop} (h1:a.1.oneCell'=true) (h2:Tr w a.2 a.1 B0) (h3:∀b,B0 b->B b) (h:Held w L (fun b=>B b/\¬B0 b)):Held w (a :: L) B:=by
 obtain ⟨Bs,g1,g2,g3⟩:=h;refine ⟨fun k=>match k with | 0=>B0 | k+1=>Bs k,fun k v d hk=>?_,fun k b hb=>?_,fun k k' b hb hb'=>?_⟩
 ·match k with
  | 0=>simp at hk;subst hk;exact ⟨h1,h2⟩
  | k+1=>exact g1 k v d (by simpa using hk)
 ·match k with
  | 0=>exact h3 b hb
  | k+1=>exact (g2 k b hb).1
 ·match k,k' with
  | 0,0=>rfl
  | 0,k'+1=>exact absurd hb (g2 k' b hb').2
  | k+1,0=>exact absurd hb' (g2 k b hb).2
  | k+1,k'+1=>rw [g3 k k' b hb hb']
theorem Held.perm {L L':List (Value×D)} (hp:L.Perm L'):∀{B:Nat->Prop},Held w L B->Held w L' B:=by
 induction hp with
 | nil=>exact fun h=>h
 | cons a _ ih=>exact fun h=>by obtain ⟨B0,h1,h2,h3,h4⟩:=h.uncons;exact .cons h1 h2 h3 (ih h4)
 | swap a b l =>
  intro B h;obtain ⟨B0,h1,h2,h3,h4⟩:=h.uncons;obtain ⟨B1,g1,g2,g3,g4⟩:=h4.uncons;exact .cons g1 g2 (fun b hb=>(g3 b hb).1) (.cons h1 h2 (fun b hb=>⟨h3 b hb,fun h=>(g3 b h).2 hb⟩) (g4.mono fun b hb=>⟨⟨hb.1.1,hb.2⟩,hb.1.2⟩))
 | trans _ _ ih1 ih2=>exact fun h=>ih2 (ih1 h)
theorem Held.sub {L L':List (Value×D)} (hs:L'.Sublist L):∀{B:Nat->Prop},Held w L B->Held w L' B:=by
 induction hs with
 | slnil=>exact fun h=>h
 | cons a _ ih=>exact fun h=>by obtain ⟨B0,_,_,_,h4⟩:=h.uncons;exact (ih h4).mono fun b hb=>hb.1
 | cons_cons a _ ih=>exact fun h=>by obtain ⟨B0,h1,h2,h3,h4⟩:=h.uncons;exact .cons h1 h2 h3 (ih h4)
theorem Held.rd {L:List (Value×D)} {B:Nat->Prop} (h:Held w L B) {v:Value} {d:D} (hm:(v,d)∈L) {S:Nat->Nat->Prop} (hS:∀b,B b->∀i,S b i):RdD w S d v/\v.oneCell'=true:=by
 obtain ⟨Bs,h1,h2,_⟩:=h;obtain ⟨k,hk⟩:=List.getElem?_of_mem hm;obtain ⟨k1,k2⟩:=h1 k v d hk;exact ⟨k2.rdD (fun b hb=>hS b (h2 k b hb)),k1⟩
end
theorem RepH.pack {E:Env} {H:List O} (h:RepH E H) {L:List (Value×D)} {B:Nat->Prop} (hL:Held E.w L B) (hf:aH2 E H B):Le E (E.named 0 undef)/\RepH (E.named 0 undef) (H++[.crate L B]):=by
 have hl:Le E (E.named 0 undef):=by
  refine ⟨rfl,rfl,rfl,m_ _,by simp [Env.named],fun _ _=>rfl,fun r hr=>?_,fun _ _ hs=>hs,fun _ _ _=>rfl,fun _ _ _=>rfl,fun _ _ hs=>.inl hs,fun _ hp=>.inl hp,fun _ _ _ _ _ hh=>hh⟩;simp only [Env.named];rw [if_neg (by omega)];exact ⟨m_ _,fun _=>rfl⟩
 refine ⟨hl,h.turn (r0:=H.length) (o0:=.crate L B) hl (by simp [Env.named,h.N]) (fun r hr=>?_) (fun o ho=>?_) (fun r hr hr'=>?_) (fun r o b hr ho hb=>⟨rfl,fun i hs=>hs⟩) (fun b hb=>hb) (fun b i hs=>h.Slt b i hs) ⟨fun b hb=>(hf b hb).2.2.1,hL⟩ (fun b hb=>?_)⟩
 ·by_cases hlt:r<H.length
  ·rw [b_ hlt]
  ·rw [i_ (by simp;omega),i_ (by omega)]
 ·simpa using ho.symm
 ·simp only [Env.named];rw [if_neg (by omega)]
 ·obtain ⟨k1,k2,k3,k4⟩:=hf b hb
  exact ⟨k1,k2,fun r o hr ho=>k4 r o ho⟩
theorem RepH.crate {E:Env} {H:List O} (h:RepH E H) {r q e:Nat} {fs:List (List UInt8×List (List D))} {B:Nat->Prop} (ho:H[r]? = some (.tree q 2 e (fs.map fun f=>[D.str f.1,.sl f.2]) B none)) :
  ∃ps:List ((List UInt8×List (List D))×Value),ps.map (·.1)=fs/\RepH E (H.set r (.buf q 2 e (ps.map bw7)))/\Held E.w (ps.map crF) B/\aH2 E (H.set r (.buf q 2 e (ps.map bw7))) B:=by
 have hrl:=(a_.1 ho).1;obtain ⟨h1,h2,h3,h4,h5⟩:=h.obj r _ ho;have go:∀ps:List ((List UInt8×List (List D))×Value),J3 E r (.buf q 2 e (ps.map bw7))->(∀b,B b->ownB (E.τ r).2≠some b)->RepH E (H.set r (.buf q 2 e (ps.map bw7)))/\aH2 E (H.set r (.buf q 2 e (ps.map bw7))) B:=fun ps hb hn=>by
  refine ⟨h.turn (r0:=r) (o0:=.buf q 2 e (ps.map bw7)) (Le.refl E) (by simp [h.N]) (fun r' hr'=>by rw [e_ (fun e=>hr' e.symm)]) (fun o' ho'=>by rw [d_ hrl] at ho';exact (Option.some.inj ho').symm) (fun _ _ _=>rfl) (fun r' o' b hr' ho' hb=>⟨rfl,fun i hs=>hs⟩) (fun _ hb=>hb) (fun b i hs=>h.Slt b i hs) hb (fun b hbb=>⟨h.pv r _ b ho (.inl hbb),h.lt r _ b ho (.inl hbb),fun r' o' hr' ho' hb2=>hr' (h.apart r' r o' _ b ho' ho hb2 (.inl hbb))⟩),fun b hbB=>⟨h.pv r _ b ho (.inr hbB),h.lt r _ b ho (.inr hbB),fun i=>h4 b hbB i,fun r' o' ho' hb'=>?_⟩⟩;by_cases er:r=r'
  ·subst er
   rw [d_ hrl] at ho';cases ho';exact hn b hbB hb'
  ·rw [e_ er] at ho'
   exact er (h.apart r r' _ o' b ho ho' (.inr hbB) hb')
 rcases h5 with ⟨a,g1,g2⟩ | ⟨b,cap,arr,k1,k2,k3,k4,k5,k6,⟨val,Bs,m1,m2,m3⟩,k8,k9,_⟩
 ·have hf:fs=[]:=by simpa using g2
  obtain ⟨c1,c2⟩:=go [] ⟨h1,fun x hx=>by simp at hx,by decide,.inl ⟨a,g1,rfl⟩⟩ (fun b _ hb=>by rw [g1] at hb;cases a<;>simp [ownB] at hb);refine ⟨[],by rw [hf];rfl,c1,⟨fun _ _=>False,fun k v d hk=>by simp at hk,fun k b hb=>hb.elim,fun k k' b hb=>hb.elim⟩,c2⟩
 ·obtain ⟨ps,hps⟩:∃ps:List ((List UInt8×List (List D))×Value),ps=fs.mapIdx (fun i f=>(f,val i 1)):=⟨_,rfl⟩
  have hat:∀(i:Nat) (p:(List UInt8×List (List D))×Value),ps[i]? = some p->fs[i]? = some p.1/\p.2=val i 1:=fun i p hp=>by
   rw [hps,List.getElem?_mapIdx] at hp;obtain ⟨f,hf,rfl⟩:=u_.1 hp;exact ⟨hf,rfl⟩
  have hmf:ps.map (·.1)=fs:=by
   rw [hps];apply t_;intro i;rw [j_,List.getElem?_mapIdx];cases fs[i]?<;>rfl
  have hlen:ps.length=fs.length:=by rw [<-hmf,l_]
  have hrow:∀(i:Nat) (f:List UInt8×List (List D)),fs[i]? = some f->(fs.map fun f=>[D.str f.1,D.sl f.2])[i]? = some [D.str f.1,.sl f.2]:=fun i f hf=>by rw [j_,hf];rfl
  rw [l_] at k1 k4;obtain ⟨c1,c2⟩:=go ps ⟨h1,fun x hx=>by obtain ⟨p,_,rfl⟩:=List.mem_map.1 hx;rfl,by decide,.inr ⟨b,cap,arr,by rw [l_,hlen];exact k1,k2,fun e=>k3 (by rw [List.map_eq_nil_iff] at e |-;rw [<-hmf,e];rfl),by rw [l_,hlen];exact k4,k5,k6,fun i j x c hx hc=>by
    rw [j_] at hx;obtain ⟨p,hp,rfl⟩:=u_.1 hx;obtain ⟨f1,f2⟩:=hat i p hp;match j,hc with
    | 0,hc =>
     cases hc;obtain ⟨n1,n2,n3⟩:=m1 i 0 _ (.str p.1.1) (hrow i _ f1) rfl;exact ⟨_,n1,n2,aI5 rfl (n3 (fun h=>h))⟩
    | 1,hc =>
     cases hc;obtain ⟨n1,n2,n3⟩:=m1 i 1 _ (.sl p.1.2) (hrow i _ f1) rfl;exact ⟨_,n1,n2,by rw [f2];exact .raw _ n2⟩
    | j+2,hc=>simp [bw7] at hc,k9⟩⟩ (fun b' hB' hb'=>by
    rw [k1] at hb';simp only [ownB] at hb';split at hb'
    ·cases hb'
    ·cases hb';exact k8 hB')
  refine ⟨ps,hmf,c1,⟨fun k=>Bs k 1,fun k v d hk=>?_,fun k b hb=>m2 k 1 b hb,fun k k' b hb hb'=>(m3 k 1 k' 1 b hb hb').1⟩,c2⟩;rw [j_] at hk;obtain ⟨p,hp,e⟩:=u_.1 hk;cases e;obtain ⟨f1,f2⟩:=hat k p hp;obtain ⟨n1,n2,n3⟩:=m1 k 1 _ (.sl p.1.2) (hrow k _ f1) rfl;rw [f2];exact ⟨n2,n3 (fun h=>h)⟩
section
variable {P:Program} {f:FuncId} {n n0:Nat} {R:C->List O->Prop}
theorem AW.crate {k:List Item} {s:St} (r:Nat) {q e:Nat} {fs:List (List UInt8×List (List D))} {B:Nat->Prop} (ho:s.H[r]? = some (.tree q 2 e (fs.map fun f=>[D.str f.1,.sl f.2]) B none))
  (h:∀ps:List ((List UInt8×List (List D))×Value),ps.map (·.1)=fs->AW P f n n0 R k ⟨s.σ,s.H.set r (.buf q 2 e (ps.map bw7))++[.crate (ps.map crF) B]⟩):AW P f n n0 R k s:=by
 refine AW.recastE (fun h0 E a hst=>?_);obtain ⟨ps,h1,h2,h3,h4⟩:=hst.heap.crate ho;obtain ⟨hl,hH⟩:=h2.pack h3 h4;exact ⟨⟨s.σ,s.H.set r (.buf q 2 e (ps.map bw7))++[.crate (ps.map crF) B]⟩,E.named 0 undef,rfl,hl,⟨hst.size,hst.defers,hH,fun t=>(hst.slot t).le hl⟩,h ps h1⟩
end
section
variable {P:Program} {n:Nat} {ops:Array Oper} {LA:Array Bool} {F:List (Nat×O)} {K:St->Prop}
def stQ (P:Program) (n:Nat) (ops:Array Oper) (F:List (Nat×O)) (A:St->Prop) (i:Nat) (σ:List (Nat×C)) (H:List O):Prop:=match ops[i]? with
 | none=>False
 | some o=>G9 n o=true/\bN0 ops σ o/\bi1 P F ⟨σ,H⟩ o.op (kD A ⟨σ,H⟩ o.dst)
def stE (P:Program) (n:Nat) (ops:Array Oper) (F:List (Nat×O)) (A:St->Prop) (i:Nat) (σ:List (Nat×C)) (H:List O):Prop:=match ops[i]? with
 | none=>False
 | some o=>G9 n o=true/\bN0 ops σ o/\G6 o.op=none/\J5 P ⟨σ,H⟩ o (fun c H'=>x8 F H'/\A (put ⟨σ,H'⟩ o.dst c))
def bU4 (P:Program) (n:Nat) (ops:Array Oper) (F:List (Nat×O)) (A:Nat->St->Prop):List Nat->List (Nat×C)->List O->Prop
 | [],_,_=>True
 | i :: r,σ,H=>stE P n ops F (A i) i σ H/\bU4 P n ops F A r σ H
def bO0 (P:Program) (n:Nat) (ops:Array Oper) (Q:List Nat->St->Prop) (i:Nat) (r:List Nat) (σ:List (Nat×C)) (H:List O):Prop:=match ops[i]? with
 | none=>False
 | some o=>G9 n o=true/\o.guard=none/\J5 P ⟨σ,H⟩ o (kR (Q r) ⟨σ,H⟩ o.dst)
def bX7 (P:Program) (n:Nat) (ops:Array Oper) (LA:Array Bool) (F:List (Nat×O)) (K:St->Prop) (f:Nat) (listed:Array Bool) (s:St):Prop:=
 ag1 .any ops listed->ac2 F s.H->aH1 P n .any ops LA F (fun σ H=>∃s',get s'.σ=σ/\s'.H=H/\K s') f listed (get s.σ) s.H
theorem aZ0 {A:Nat->St->Prop} {σ:List (Nat×C)} {H:List O}:∀{L:List Nat},bU4 P n ops F A L σ H->∀i,i∈L->stE P n ops F (A i) i σ H
 | [],_,i,hi=>by cases hi
 | j :: r,h,i,hi=>by
  obtain ⟨h1,h2⟩:=h;rcases List.mem_cons.1 hi with rfl | hi
  ·exact h1
  ·exact aZ0 h2 i hi
theorem bX7.pick {f:Nat} {listed:Array Bool} {L:List Nat} {σ:List (Nat×C)} {H:List O} (hr:Region.ready .any ops listed=L) (hne:L≠[]) (h:bU4 P n ops F (fun i=>bX7 P n ops LA F K f (listed.setIfInBounds i true)) L σ H):bX7 P n ops LA F K (f+1) listed ⟨σ,H⟩:=by
 intro hcl hF;refine ⟨hF,.inl ⟨by rw [hr];exact hne,fun i hi=>?_⟩⟩;have hi':=hi;rw [hr] at hi';have h:=aZ0 h i hi';unfold stE at h;unfold bOp;cases ho:ops[i]? with
 | none=>simp only [ho] at h
 | some o =>
  simp only [ho] at h |-;obtain ⟨hd,hg,hao,h⟩:=h;refine ⟨hd,aX5 hg,?_⟩;simp only [hao];have hc:J5 P (an9 (get σ) H (tmpsOf o.op)) o (fun c H'=>x8 F H'/\bX7 P n ops LA F K f (listed.setIfInBounds i true) (put ⟨σ,H'⟩ o.dst c)):=by
   refine aq3 (s:=⟨σ,H⟩) rfl (fun x hx=>?_) h;cases x with
   | tmp t =>
    show get σ t=get (an9 (get σ) H (tmpsOf o.op)).σ t;rw [V3,if_pos];exact List.mem_filterMap.2 ⟨.tmp t,by simpa using hx,rfl⟩
   | _=>rfl
  refine (M0 hc).mono (fun c H' ⟨k1,k2⟩=>?_);have hgp:get (put ⟨σ,H'⟩ o.dst c).σ=upd (get σ) o.dst c/\(put ⟨σ,H'⟩ o.dst c).H=H':=⟨get_put ⟨σ,H'⟩ o.dst c,by cases o.dst<;>rfl⟩;have:=k2 (hcl.set hi) (by rw [hgp.2];exact ap5 k1);rw [hgp.1,hgp.2] at this;exact this
end
attribute [go_sem] stQ.eq_1 stE.eq_1 bU4.eq_1 bU4.eq_2 bO0.eq_1
section
variable {P:Program} {f:FuncId} {n n0:Nat} {R:C->List O->Prop}
theorem AW.anyCell {k:List Item} {s:St} (rb j:Nat) {cs:List C} {c0:C} (hb:s.H[rb]? = some (.box cs)) (hj:cs[j]? = some c0)
  (h:AW P f n n0 R k ⟨s.σ,s.H.set rb (.box (cs.set j (.d .any)))⟩):AW P f n n0 R k s:=by
 refine AW.recast (s':=⟨s.σ,s.H.set rb (.box (cs.set j (.d .any)))⟩) (fun h0 E a hst=>?_);exact ⟨E,rfl,Le.refl E,⟨hst.size,hst.defers,hst.heap.recell hb hj (fun _ _ v _ _ _=>.d _ _ (.any v)),hst.slot⟩,by simpa using h⟩
end
end Go.Abs
