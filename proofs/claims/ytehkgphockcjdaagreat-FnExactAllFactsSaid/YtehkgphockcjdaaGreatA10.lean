import Derived.Test.YtehkgphockcjdaaGreatA9
import Derived.Test.YtehkgphockcjdaaGreatP13
import Derived.Shelf.GgSortMore.Stable
import Derived.Lib.ReflectliteSwap
open List renaming getElem?_eq_some_iff→a_,getElem?_append_left→b_,getElem?_set_ne→c_,getElem?_set_self→d_,getElem?_eq_getElem→e_,getElem?_map→g_,getElem?_append_right→h_,length_map→i_,getD_eq_getElem?_getD→k_,getElem?_eq_none→l_,length_take→q_,all_eq_true→r_,mem_of_getElem?→s_,length_set→u_,length_pos_iff→w_,getElem?_take→x_,ext_getElem?→y_,getElem?_range→A_,length_append→B_,getElem?_drop→C_,length_cons→D_,mem_or_eq_of_mem_set→H_,getElem?_cons_zero→I_,mem_map→K_
open Array renaming getD_eq_getD_getElem?→f_,getElem?_eq_some_iff→j_,length_toList→o_,getElem?_eq_getElem→G_
open Option renaming map_eq_some_iff→m_,isNone_iff_eq_none→F_
open Nat renaming le_refl→n_,zero_add→p_,mul_le_mul_right→t_,min_eq_left→v_,add_mul→E_,add_sub_cancel_left→J_,sub_self→L_
open Bool renaming and_eq_true→z_
set_option linter.unusedSimpArgs false
set_option linter.unusedVariables false
namespace Go.Abs
structure Srtr {α:Type} (P:Program) (g:FuncId) (caps:List C) (sf:FuncId) (caps2:List C) (n m:Nat) (Hs:(Nat→α)→List O) (lt:α→α→Bool):Prop where
 gog:isGo P g=true
 hcaps:caps.all (C.refsLt1 m)=true
 hcaps2:caps2.all (C.refsLt1 m)=true
 len:∀f,(Hs f).length=m
 refs:∀f,(Hs f).all (O.refsLt m)=true
 less:∀(f:Nat→α) (X:List O) (i j:Nat),i<n→j<n→ACalls P g (.d (.int .i64 i) :: .d (.int .i64 j) :: caps) (Hs f++X) (fun c H'=>c=.d (.bool (lt (f i) (f j)))∧H'=Hs f++X)
 swap:∀(f:Nat→α) (X:List O) (i j:Nat),i<n→j<n→XCalls P sf (.d (.int .i64 i) :: .d (.int .i64 j) :: caps2) (Hs f++X) (fun c H'=>c=.tup []∧H'=Hs (swp i j f)++X)
theorem XCalls.mono {P:Program} {f:FuncId} {args:List C} {H:List O} {K K':C→List O→Prop} (h:XCalls P f args H K) (hk:∀c H',K c H'→K' c H'):XCalls P f args H K':=fun E vs h1 h2 h3=>by
 obtain ⟨v,E',c,H',k1,k2,k3,k4,k5⟩:=h E vs h1 h2 h3
 exact ⟨v,E',c,H',k1,k2,k3,k4,hk _ _ k5⟩
namespace Srtr
variable {α:Type} {P:Program} {g sf:FuncId} {cs ds:List C} {n m:Nat} {Hs:(Nat→α)→List O} {lt:α→α→Bool}
theorem at0 (h:Srtr P g cs sf ds n m Hs lt) (a:Nat→α) (X:List O):(Hs a++X)[m]? = X[0]?:=by
 rw [h_ (by rw [h.len];omega),h.len,L_]
theorem atj (h:Srtr P g cs sf ds n m Hs lt) (a:Nat→α) (X:List O) (j:Nat):(Hs a++X)[m+j]? = X[j]?:=by
 rw [h_ (by rw [h.len];omega),h.len,J_]
theorem set0 (h:Srtr P g cs sf ds n m Hs lt) (a:Nat→α) (X:List O) (o:O):(Hs a++X).set m o=Hs a++X.set 0 o:=by
 rw [List.set_append,if_neg (by rw [h.len];omega),h.len,L_]
theorem setj (h:Srtr P g cs sf ds n m Hs lt) (a:Nat→α) (X:List O) (j:Nat) (o:O):(Hs a++X).set (m+j) o=Hs a++X.set j o:=by
 rw [List.set_append,if_neg (by rw [h.len];omega),h.len,J_]
theorem tk (h:Srtr P g cs sf ds n m Hs lt) (a:Nat→α):(Hs a).take m=Hs a:=List.take_of_length_le (by rw [h.len];omega)
theorem tk0 (h:Srtr P g cs sf ds n m Hs lt) (a:Nat→α) (X:List O):(Hs a++X).take m=Hs a:=by
 rw [List.take_append_of_le_length (by rw [h.len];omega),h.tk]
theorem tkj (h:Srtr P g cs sf ds n m Hs lt) (a:Nat→α) (X:List O) (j:Nat):(Hs a++X).take (m+j)=Hs a++X.take j:=by
 rw [←h.len a,List.take_length_add_append]
theorem refsj (h:Srtr P g cs sf ds n m Hs lt) (a:Nat→α) (j:Nat):(Hs a).all (O.refsLt (m+j))=true:=by
 have:=h.refs a
 simp only [r_] at this ⊢
 exact fun o ho=>O.refsLt_mono (this o ho)
theorem capsj (h:Srtr P g cs sf ds n m Hs lt) (j:Nat):cs.all (C.refsLt1 (m+j))=true:=by
 have:=h.hcaps
 simp only [r_] at this ⊢
 exact fun o ho=>C.refsLt1_mono (this o ho)
theorem capsj2 (h:Srtr P g cs sf ds n m Hs lt) (j:Nat):ds.all (C.refsLt1 (m+j))=true:=by
 have:=h.hcaps2
 simp only [r_] at this ⊢
 exact fun o ho=>C.refsLt1_mono (this o ho)
theorem ext (h:Srtr P g cs sf ds n m Hs lt) (X:List O) (hX:X.all (O.refsLt (m+X.length))=true):Srtr P g cs sf ds n (m+X.length) (fun f=>Hs f++X) lt:=
 ⟨h.gog,h.capsj _,h.capsj2 _,fun f=>by rw [B_,h.len],fun f=>by rw [List.all_append,h.refsj,hX];rfl,
  fun f Y i j hi hj=>by have:=h.less f (X++Y) i j hi hj;simpa only [List.append_assoc] using this,fun f Y i j hi hj=>by have:=h.swap f (X++Y) i j hi hj;simpa only [List.append_assoc] using this⟩
theorem sub (h:Srtr P g cs sf ds n m Hs lt) (k:Nat) (hk:k≤n):Srtr P g cs sf ds k m Hs lt:=
 ⟨h.gog,h.hcaps,h.hcaps2,h.len,h.refs,fun f X i j hi hj=>h.less f X i j (by omega) (by omega),fun f X i j hi hj=>h.swap f X i j (by omega) (by omega)⟩
end Srtr
end Go.Abs
set_option maxHeartbeats 1000000
namespace Go.Abs
theorem setCells_row (b:Nat) (t:TypeId) (fr:Nat×Nat):∀(vs:List Value) (o:Nat) (arr:Array Value) (w:World),w.heap[b]? = some (.cells arr t fr)→o+vs.length≤arr.size →
  w.setCells b o vs=w.setRow b (arr.toList.take o++vs++arr.toList.drop (o+vs.length)).toArray
 | [],o,arr,w,hg,_=>by
  simp only [World.setCells,List.append_nil,List.length_nil,Nat.add_zero,List.take_append_drop,Array.toArray_toList]
  rw [setRow_self w b arr t fr hg]
 | v :: r,o,arr,w,hg,hl=>by
  have hi:o<arr.size:=by simp at hl;omega
  rw [World.setCells,setCell_eq_setRow w b o arr t fr v hg,setCells_row b t fr r (o+1) (arr.setIfInBounds o v) _ (setRow_heap w b arr _ t fr hg) (by simp at hl ⊢;omega),setRow_setRow]
  congr 2
  apply y_
  intro k
  simp only [Array.toList_setIfInBounds,D_]
  by_cases h1:k<o
  ·rw [b_ (by simp;omega),b_ (by simp;omega),b_ (by simp;omega),b_ (by simp;omega),x_,x_,if_pos (by omega),if_pos h1,c_ (by omega)]
  ·by_cases h2:k=o
   ·subst h2
    rw [b_ (by simp;omega),b_ (by simp;omega),x_,if_pos (by omega),d_ (by simpa using hi),b_ (by simp only [B_,q_,o_,D_];omega),h_ (by simp only [q_,o_];omega)]
    simp only [q_,o_,v_ (Nat.le_of_lt hi),L_,I_]
   ·by_cases h3:k<o+1+r.length
    ·rw [b_ (by simp;omega),h_ (by simp;omega),b_ (by simp;omega),h_ (by simp;omega)]
     simp only [q_,u_,o_]
     rw [v_ (by omega),v_ (by omega)]
     obtain ⟨m,rfl⟩:∃m,k=o+1+m:=⟨k - (o+1),by omega⟩
     rw [show o+1+m - (o+1)=m by omega,show o+1+m - o=m+1 by omega]
     rfl
    ·rw [h_ (by simp;omega),h_ (by simp;omega),C_,C_]
     simp only [B_,q_,u_,o_,D_]
     rw [v_ (by omega),v_ (by omega),c_ (by omega)]
     congr 1;omega
theorem RepH.setB {E:Env} {H:List O} (h:RepH E H) {r q z e:Nat} {xs:List (List D)} (hr:H[r]? = some (.buf q z e xs)) {b cap:Nat} {arr:Array Value} (k1:(E.τ r).2=.slice (some ⟨b,0,none⟩) xs.length cap) (k2:E.w.heap[b]? = some (.cells arr e (0,0)))
  {i:Nat} (hi:i<xs.length) {y:List D} (hy:y.length=z) {vs:List Value} (hvl:vs.length=z) (hv:∀(k:Nat) (c:D) (v:Value),y[k]? = some c→vs[k]? = some v→RdD E.w E.S c v∧v.oneCell'=true) :
  Le E (E.setRow b (arr.toList.take (i * z)++vs++arr.toList.drop (i * z+vs.length)).toArray) ∧
  RepH (E.setRow b (arr.toList.take (i * z)++vs++arr.toList.drop (i * z+vs.length)).toArray) (H.set r (.buf q z e (xs.set i y))):=by
 obtain ⟨h1,h3,hz,h5⟩:=h.obj r _ hr
 rcases h5 with ⟨ad,_,rfl⟩ | ⟨b',cap',arr0,j1,j2,k3,k4,k5,k6,h4,k8⟩
 ·simp at hi
 rw [k1] at j1
 cases j1
 rw [k2] at j2
 cases j2
 have hrl:=(a_.1 hr).1
 have hblk:(O.buf q z e xs).block E r b:=by simp only [O.block,k1,ownB];rw [if_neg (by omega)]
 have hiz:i * z+z≤cap * z:=by
  have:(i+1) * z≤cap * z:=t_ _ (by omega)
  rw [E_] at this;omega
 generalize hnew:(arr.toList.take (i * z)++vs++arr.toList.drop (i * z+vs.length)).toArray=arr'
 have hcells:=setRow_cells (arr:=arr) (off:=i * z) (vs:=vs.toArray) (by simp [hvl];omega)
 simp only [List.size_toArray,hvl] at hcells
 rw [hvl] at hnew
 have hnew2:(arr.toList.take (i * z)++vs++arr.toList.drop (i * z+z)).toArray=arr':=hnew
 rw [hnew2] at hcells
 have hc1:arr'.size=arr.size:=by rw [←hnew2];simpa using hcells.1
 have hl0:Le E (E.setRow b arr'):=le_setRow (h.pv r _ _ hr hblk) k8
 refine ⟨hl0,?_⟩
 refine h.turn (r0:=r) (o0:=.buf q z e (xs.set i y)) hl0 (by simp [Env.setRow,h.N]) (fun r' hr'=>?_) (fun o' ho'=>?_) (fun _ _ _=>rfl) (fun r' o' b' hr' ho' hb=>?_) (fun _ hb=>hb) (fun b' i' hs=>?_) ?_ (fun b2 hb2=>?_)
 ·rw [c_ (fun e=>hr' e.symm)]
 ·rw [d_ hrl] at ho'
  exact (Option.some.inj ho').symm
 ·exact ⟨setRow_other E.w b b' arr' (fun e=>hr' (h.apart r' r o' _ b' ho' hr hb (by rw [e];exact hblk))),fun i hs=>hs⟩
 ·have:=h.Slt b' i' hs
  simpa [Env.setRow] using this
 ·refine ⟨h1,fun y' hy'=>?_,hz,.inr ⟨b,cap,arr',by rw [u_];exact k1,setRow_heap _ _ _ _ _ _ k2,by intro e;apply k3;simpa using e,by simpa using k4,k5,by rw [hc1];exact k6,fun k j y' c hy' hj=>?_,k8⟩⟩
  ·rcases H_ hy' with hy' | rfl
   ·exact h3 y' hy'
   ·exact hy
  ·by_cases hki:i=k
   ·subst hki
    rw [d_ hi] at hy'
    simp only [Option.some.injEq] at hy'
    subst hy'
    have hjz:j<z:=by rw [←hy];exact (a_.1 hj).1
    have hvj:vs[j]? = some (vs[j]'(by omega)):=e_ _
    obtain ⟨g1,g2⟩:=hv j c _ hj hvj
    refine ⟨_,?_,g2,g1.le hl0⟩
    rw [hcells.2,if_pos (by omega),show i * z+j - i * z=j by omega]
    simp
   ·rw [c_ hki] at hy'
    obtain ⟨v,k1,k2,k3⟩:=h4 k j y' c hy' hj
    have hjz:j<z:=by rw [←h3 y' (s_ hy')];exact (a_.1 hj).1
    refine ⟨v,?_,k2,k3.le hl0⟩
    rw [hcells.2,if_neg]
    ·exact k1
    ·rcases Nat.lt_or_gt_of_ne hki with hlt | hlt
     ·have:(i+1) * z≤k * z:=t_ _ hlt
      rw [E_] at this;omega
     ·have:(k+1) * z≤i * z:=t_ _ hlt
      rw [E_] at this;omega
 ·have hb2':(O.buf q z e xs).block E r b2:=hb2
  exact ⟨h.pv r _ b2 hr hb2',by simpa [Env.setRow] using h.lt r _ b2 hr hb2',fun r' o' hr' ho' hb3=>hr' (h.apart r' r o' _ b2 ho' hr hb3 hb2')⟩
theorem XCalls.swapB {P:Program} {sf:FuncId} (gS:Bool) (hx:∀args W,(callFunc sf args).run P W=((Extern.ReflectliteSwapper.swap gS args).run P W).andThen fun v w'=>.ok (.value v) w')
  (et:TypeId) (ie:TypeInfo) (hie:P.info? et=some ie) (hagg:∀w,(isAgg et).run P w=.ok true w) {H:List O} {r q e:Nat} {xs:List (List D)} (hr:H[r]? = some (.buf q ie.size e xs)) {i j:Nat} (hi:i<xs.length) (hj:j<xs.length) :
  XCalls P sf [.d (.int .i64 i),.d (.int .i64 j),.own r q,.val (typeHandle P et)] H (fun c H'=>c=.tup []∧H'=H.set r (.buf q ie.size e ((xs.set i (xs.getD j [])).set j (xs.getD i [])))):=by
 intro E vs hE hsz ha
 obtain ⟨v0,v1,v2,v3,rfl⟩:∃v0 v1 v2 v3,vs=#[v0,v1,v2,v3]:=by
  match vs,hsz with
  | ⟨[v0,v1,v2,v3]⟩,_=>exact ⟨v0,v1,v2,v3,rfl⟩
 have e0:v0=.int .i64 i:=by have:=ha 0 _ v0 rfl rfl;cases this with | d _ _ hd=>cases hd;rfl
 have e1:v1=.int .i64 j:=by have:=ha 1 _ v1 rfl rfl;cases this with | d _ _ hd=>cases hd;rfl
 have e3:v3=typeHandle P et:=by have:=ha 3 _ v3 rfl rfl;cases this;rfl
 have hobj:=hE.obj r _ hr
 have e2:v2=(E.τ r).2:=by
  have:=ha 2 _ v2 rfl rfl
  cases this with
  | own _ _ _ _ _ _ hv=>exact hv hobj.1.symm
 obtain ⟨h1,h3,hz,h5⟩:=hobj
 rcases h5 with ⟨ad,_,rfl⟩ | ⟨b,cap,arr,k1,k2,k3,k4,k5,k6,h4,k8⟩
 ·simp at hi
 rw [k1] at e2
 subst e0 e1 e2 e3
 have rows:∀m,m<xs.length→m * ie.size+ie.size≤arr.size:=fun m hm=>by
  have:(m+1) * ie.size≤cap * ie.size:=t_ _ (by omega)
  rw [E_] at this;omega
 have seg:∀m,m<xs.length→∃X:List Value,X.length=ie.size∧(∀v∈X,v.oneCell'=true)∧(∀k v,X[k]? = some v→E.w.cell? ⟨b,0+m * ie.size+k,none⟩=some v) ∧
   ∀(k:Nat) (c:D) (v:Value),(xs.getD m [])[k]? = some c→X[k]? = some v→RdD E.w E.S c v∧v.oneCell'=true:=fun m hm=>by
  have hxm:xs[m]? = some (xs.getD m []):=by rw [k_,e_ hm];rfl
  have hxl:=h3 _ (s_ hxm)
  have hrow:=rows m hm
  have hget:∀k v,((arr.toList.drop (m * ie.size)).take ie.size)[k]? = some v→k<ie.size∧arr[m * ie.size+k]? = some v:=fun k v hv=>by
   rw [x_] at hv
   split at hv
   ·rename_i hk
    rw [C_,Array.getElem?_toList] at hv
    exact ⟨hk,hv⟩
   ·simp at hv
  refine ⟨(arr.toList.drop (m * ie.size)).take ie.size,by simp;omega,fun v hv=>?_,fun k v hv=>?_,fun k c v hc hv=>?_⟩
  ·obtain ⟨k,hk⟩:=List.getElem?_of_mem hv
   obtain ⟨hk1,hk2⟩:=hget k v hk
   obtain ⟨u,g1,g2,g3⟩:=h4 m k _ ((xs.getD m [])[k]'(by omega)) hxm (e_ _)
   rw [hk2] at g1;cases g1;exact g2
  ·obtain ⟨hk1,hk2⟩:=hget k v hv
   rw [cell_of_row _ _ _ _ _ _ k2,p_];exact hk2
  ·obtain ⟨hk1,hk2⟩:=hget k v hv
   obtain ⟨u,g1,g2,g3⟩:=h4 m k _ c hxm hc
   rw [hk2] at g1;cases g1;exact ⟨g3,g2⟩
 obtain ⟨X,x1,x2,x3,x4⟩:=seg i hi
 obtain ⟨Y,y1,y2,y3,y4⟩:=seg j hj
 have hfr:∀(o:Nat),E.w.frozen? ⟨b,o,none⟩=false:=fun o=>by simp [World.frozen?,k2]
 have hrun:=Lib.run_swap_cells (P:=P) gS et ie hie hagg b 0 xs.length cap i j hi hj X Y x1 y1 x2 y2 E.w x3 y3 (fun k _=>hfr _) (fun k _=>hfr _)
 have hyl:∀m,m<xs.length→(xs.getD m []).length=ie.size:=fun m hm=>by
  have hxm:xs[m]? = some (xs.getD m []):=by rw [k_,e_ hm];rfl
  exact h3 _ (s_ hxm)
 obtain ⟨l1,r1⟩:=hE.setB hr k1 k2 hi (hyl j hj) y1 y4
 have s1:=setCells_row b e (0,0) Y (0+i * ie.size) arr E.w k2 (by have:=rows i hi;omega)
 rw [p_] at s1
 generalize ha1:(arr.toList.take (i * ie.size)++Y++arr.toList.drop (i * ie.size+Y.length)).toArray=arr1 at l1 r1 s1
 have hsz1:arr1.size=arr.size:=by
  rw [←ha1];have:=rows i hi;simp;omega
 have hh1:(E.setRow b arr1).w.heap[b]? = some (.cells arr1 e (0,0)):=setRow_heap _ _ _ _ _ _ k2
 have hrl:=(a_.1 hr).1
 obtain ⟨l2,r2⟩:=r1.setB (r:=r) (q:=q) (z:=ie.size) (e:=e) (by rw [d_ hrl]) (b:=b) (cap:=cap) (arr:=arr1) (by rw [u_];exact k1) hh1 (i:=j) (by simpa using hj) (hyl i hi) x1 (fun k c v hc hv=>⟨(x4 k c v hc hv).1.le l1,(x4 k c v hc hv).2⟩)
 have s2:=setCells_row b e (0,0) X (0+j * ie.size) arr1 (E.setRow b arr1).w hh1 (by have:=rows j hj;omega)
 rw [p_] at s2
 rw [List.set_set] at r2
 refine ⟨.tuple #[],_,.tup [],_,?_,r2,l1.trans l2,.tup [] #[] rfl (fun i c v hc=>by simp at hc),rfl,rfl⟩
 rw [hx,hrun]
 simp only [Result.andThen,p_]
 rw [s1]
 show Result.ok _ ((E.setRow b arr1).w.setCells b (j * ie.size) X)=_
 rw [s2]
 rfl
theorem set_same {α:Type} {l:List α} {i:Nat} {a:α} (h:l[i]? = some a):l.set i a=l:=by
 obtain ⟨h1,rfl⟩:=a_.1 h
 exact List.set_getElem_self h1
theorem rep_grow0 {E:Env} {H:List O} (h:RepH E H) (os:Array Obj):Le E { E with w:=Sort.grow E.w os }∧RepH { E with w:=Sort.grow E.w os } H:=rep_grow h 0 os
theorem getD_map_range {α:Type} (enc:α→List D) (f:Nat→α) {n i:Nat} (h:i<n):((List.range n).map (fun k=>enc (f k)))[i]? = some (enc (f i)):=by
 rw [g_,A_ h];rfl
theorem sliceStable_calls {P:Program} {ρ:Go.Shelf.Ren} (L:Go.Proofs.LaysGt.n8 P ρ) (t et:TypeId) (it ie:TypeInfo) (hi:P.info? t=some it) (hd:it.desc=.slice et) (hpk:P.packed t=false) (hie:P.info? et=some ie) (ke:Nat)
  (hke:∀w,(Extern.Rtype.kind et).run P w=.ok ke w) (hagg:∀w,(isAgg et).run P w=.ok true w) (f0 f1 sf:FuncId)
  (hf0:P.funcs.findIdx? (·.name == "internal/reflectlite" ++ ".Swapper$" ++ toString (Lib.swapperK 0 ie ke))=some f0) (hf1:P.funcs.findIdx? (·.name == "internal/reflectlite" ++ ".Swapper$" ++ toString (Lib.swapperK 1 ie ke))=some f1)
  (hf:∀n,2≤n→P.funcs.findIdx? (·.name == "internal/reflectlite" ++ ".Swapper$" ++ toString (Lib.swapperK n ie ke))=some sf) (gS:Bool)
  (hx:∀args W,(callFunc sf args).run P W=((Extern.ReflectliteSwapper.swap gS args).run P W).andThen fun v w'=>.ok (.value v) w')
  {α:Type} (enc:α→List D) (henc:∀x,(enc x).length=ie.size) (lt:α→α→Bool) {g:FuncId} {caps:List C} {H:List O} {r q e:Nat} {xs:List α} (hgo:isGo P g=true) (hcaps:caps.all (C.refsLt1 H.length)=true)
  (hrefs:H.all (O.refsLt H.length)=true) (hr:H[r]? = some (.buf q ie.size e (xs.map enc))) (hn:xs.length≤1000000000000)
  (hst:∀(caps2:List C) (n m:Nat) (Hs:(Nat→α)→List O),n≤1000000000000→Srtr P g caps sf caps2 n m Hs lt→∀f0,ACalls P (ρ.f 15) [.agg [.fn g caps,.xfn sf caps2],.d (.int .i64 n)] (Hs f0) (fun c H'=>c=.tup []∧∃f1,((List.range n).map f1).Perm ((List.range n).map f0)∧srt lt f1 0 n∧H'=Hs f1))
  (hless:∀(f:Nat→α) (X:List O) (i j:Nat),i<xs.length→j<xs.length→ACalls P g (.d (.int .i64 i) :: .d (.int .i64 j) :: caps) (H.set r (.buf q ie.size e ((List.range xs.length).map fun k=>enc (f k)))++X) (fun c H'=>c=.d (.bool (lt (f i) (f j)))∧H'=H.set r (.buf q ie.size e ((List.range xs.length).map fun k=>enc (f k)))++X)) :
  ACalls P (ρ.f 8) [.ifc t (.own r q),.fn g caps] H (fun c H'=>c=.tup []∧∃ys:List α,ys.Perm xs∧ys.Pairwise (fun a b=>lt b a=false)∧H'=H.set r (.buf q ie.size e (ys.map enc))):=by
 intro E vs hE hsz ha
 obtain ⟨v0,v1,rfl⟩:∃v0 v1,vs=#[v0,v1]:=by
  match vs,hsz with
  | ⟨[v0,v1]⟩,_=>exact ⟨v0,v1,rfl⟩
 have hrl:=(a_.1 hr).1
 have hobj:=hE.obj r _ hr
 have e0:v0=.iface t (E.τ r).2:=by
  have:=ha 0 _ v0 rfl rfl
  cases this with
  | ifc _ _ v h=>cases h with | own _ _ _ _ _ _ hv=>rw [hv hobj.1.symm]
 have hfn:=ha 1 _ v1 rfl rfl
 obtain ⟨lb,e1,hlb1,hlb2⟩:∃lb:Array Value,v1=.func (.func g) #[] lb∧lb.size=caps.length∧∀(i:Nat) (c:C) (v:Value),caps[i]? = some c→lb[i]? = some v→Rd E c v:=by
  cases hfn with
  | fn _ _ vs hl hr=>exact ⟨vs,rfl,hl,hr⟩
 subst e0 e1
 by_cases h1:xs.length≤1
 ·have hsl:∃p c,(E.τ r).2=.slice p xs.length c:=by
   obtain ⟨_,_,_,h5⟩:=hobj
   rcases h5 with ⟨ad,g5,g6⟩ | ⟨b,cap,arr,g5,_⟩
   ·have:xs.length=0:=by cases xs with | nil=>rfl | cons=>simp at g6
    exact ⟨ad,0,by rw [g5,this]⟩
   ·rw [i_] at g5;exact ⟨_,cap,g5⟩
  obtain ⟨p,c,hsl⟩:=hsl
  rw [hsl]
  obtain ⟨ff,hff⟩:∃ff,P.funcs.findIdx? (·.name == "internal/reflectlite" ++ ".Swapper$" ++ toString (Lib.swapperK xs.length ie ke))=some ff:=by
   rcases Nat.lt_or_ge xs.length 1 with h0 | h0
   ·rw [show xs.length=0 by omega];exact ⟨_,hf0⟩
   ·rw [show xs.length=1 by omega];exact ⟨_,hf1⟩
  refine (Go.Proofs.Any.sort_SliceStable_tiny L t et it ie hi hd hpk hie ke hke p xs.length c h1 ff hff (.func g) #[] lb E.w).mono ?_
  rintro ex w' ⟨rfl,os,rfl⟩
  obtain ⟨l1,r1⟩:=rep_grow0 hE os
  refine ⟨_,.tup [],_,H,rfl,rfl,r1,l1,.tup [] #[] rfl (fun i c v hc=>by simp at hc),rfl,rfl,xs,.refl _,?_,?_⟩
  ·match xs,h1 with
   | [],_=>exact List.Pairwise.nil
   | [x],_=>exact List.pairwise_singleton _ _
  ·rw [set_same hr]
 ·have hq1:=hobj.1
  obtain ⟨_,_,_,h5⟩:=hobj
  rcases h5 with ⟨ad,g5,g6⟩ | ⟨b,cap,arr,g5,_⟩
  ·have:xs.length=0:=by cases xs with | nil=>rfl | cons=>simp at g6
   omega
  rw [i_] at g5
  rw [g5]
  refine (Go.Proofs.Any.sort_SliceStable_of_stable L t et it ie hi hd hpk hie ke hke (some ⟨b,0,none⟩) xs.length cap (by omega) sf (hf _ (by omega)) (.func g) #[] lb E.w (fun w'=>∃E' H',E'.w=w'∧RepH E' H'∧Le E E'∧H'.length=H.length∧∃ys:List α,ys.Perm xs∧ys.Pairwise (fun a b=>lt b a=false)∧H'=H.set r (.buf q ie.size e (ys.map enc))) ?_).mono ?_
  rotate_left
  ·rintro ex w' ⟨rfl,E',H',k1,k2,k3,k4,k5⟩
   exact ⟨_,.tup [],E',H',rfl,k1,k2,k3,.tup [] #[] rfl (fun i c v hc=>by simp at hc),k4,rfl,k5⟩
  have hB:Go.Proofs.sliceBound P et ie ke (some ⟨b,0,none⟩) xs.length cap=#[.slice (some ⟨b,0,none⟩) xs.length cap,typeHandle P et]:=by
   unfold Go.Proofs.sliceBound;rw [if_neg (Go.Proofs.swapperK_gt _ _ _ (by omega))]
  rw [hB]
  have hW:Go.Proofs.stableWorld P ρ t (some ⟨b,0,none⟩) xs.length cap E.w=Sort.grow E.w #[.cells #[.slice (some ⟨b,0,none⟩) xs.length cap] t,.cells #[.pointer (some ⟨P.globals.size,t,none⟩),.pointer (some ⟨E.w.heap.size,0,none⟩),.int .u64 151] (ρ.t 36)]:=by
   unfold Go.Proofs.stableWorld;rw [Sort.alloc_eq_grow,Sort.alloc_eq_grow,Sort.grow_grow];rfl
  rw [hW]
  obtain ⟨l1,r1⟩:=rep_grow0 hE #[.cells #[.slice (some ⟨b,0,none⟩) xs.length cap] t,.cells #[.pointer (some ⟨P.globals.size,t,none⟩),.pointer (some ⟨E.w.heap.size,0,none⟩),.int .u64 151] (ρ.t 36)]
  generalize (#[.cells #[.slice (some ⟨b,0,none⟩) xs.length cap] t,.cells #[.pointer (some ⟨P.globals.size,t,none⟩),.pointer (some ⟨E.w.heap.size,0,none⟩),.int .u64 151] (ρ.t 36)]:Array Obj)=os at l1 r1
  -- rows as a function of their number
  obtain ⟨x0,hx0⟩:∃x0,xs[0]? = some x0:=⟨_,e_ (by omega)⟩
  have hrows:(List.range xs.length).map (fun k=>xs.getD k x0)=xs:=by
   apply y_
   intro k
   rw [g_]
   by_cases hk:k<xs.length
   ·rw [A_ hk,e_ hk]
    simp [k_,hk]
   ·rw [l_ (by simpa using hk),l_ (by omega)];rfl
  have henc0:(List.range xs.length).map (fun k=>enc (xs.getD k x0))=xs.map enc:=by
   conv=>rhs;rw [←hrows]
   rw [List.map_map];rfl
  have hHs0:H.set r (.buf q ie.size e ((List.range xs.length).map fun k=>enc (xs.getD k x0)))=H:=by rw [henc0,set_same hr]
  have S:Srtr P g caps sf [.own r q,.val (typeHandle P et)] xs.length H.length (fun f=>H.set r (.buf q ie.size e ((List.range xs.length).map fun k=>enc (f k)))) lt:=by
   refine ⟨hgo,hcaps,by simp [C.refsLt1,hrl],fun f=>by simp,fun f=>?_,hless,fun f X i j hi hj=>?_⟩
   ·rw [r_] at hrefs ⊢
    intro o ho
    rcases H_ ho with ho | rfl
    ·exact hrefs o ho
    ·rfl
   ·have hb:(H.set r (.buf q ie.size e ((List.range xs.length).map fun k=>enc (f k)))++X)[r]? = some (.buf q ie.size e ((List.range xs.length).map fun k=>enc (f k))):=by
     rw [b_ (by simpa using hrl),d_ hrl]
    refine (XCalls.swapB gS hx et ie hie hagg hb (i:=i) (j:=j) (by simpa using hi) (by simpa using hj)).mono ?_
    rintro c H' ⟨rfl,rfl⟩
    refine ⟨rfl,?_⟩
    rw [List.set_append_left _ _ (by simpa using hrl),List.set_set]
    congr 3
    have h2:=map_swp xs.length i j (fun k=>enc (f k)) hi hj
    have e1:((List.range xs.length).map (fun k=>enc (f k))).getD j []=enc (f j):=by rw [k_,getD_map_range enc f hj];rfl
    have e2:((List.range xs.length).map (fun k=>enc (f k))).getD i []=enc (f i):=by rw [k_,getD_map_range enc f hi];rfl
    rw [e1,e2,←h2]
    apply List.map_congr_left
    intro k _
    unfold swp
    split
    ·rfl
    ·split<;>rfl
  have hc:=hst _ _ _ _ hn S (fun k=>xs.getD k x0)
  simp only [hHs0] at hc
  refine (hc { E with w:=Sort.grow E.w os } #[.agg #[.func (.func g) #[] lb,.func (.func sf) #[] #[.slice (some ⟨b,0,none⟩) xs.length cap,typeHandle P et]],.int .i64 xs.length] r1 rfl (fun i c v hc hv=>?_)).mono ?_
  ·match i with
   | 0 =>
    simp only [I_,Option.some.injEq] at hc
    simp at hv
    subst hc hv
    refine .agg _ _ rfl (fun i v hv=>?_) (fun i c v hc hv=>?_)
    ·match i with
     | 0=>simp at hv;subst hv;rfl
     | 1=>simp at hv;subst hv;rfl
     | i+2=>simp at hv
    ·match i with
     | 0 =>
      simp at hc hv
      subst hc hv
      exact (Rd.fn g caps lb hlb1 hlb2).le l1
     | 1 =>
      simp at hc hv
      subst hc hv
      refine .xfn _ _ _ rfl (fun i c v hc hv=>?_)
      match i with
      | 0 =>
       simp at hc hv
       subst hc hv
       rw [←g5]
       exact (Rd.own (E:=E) r q _ (by rw [hE.N];exact hrl) (by rw [g5];rfl) (by omega) (fun _=>rfl)).le l1
      | 1 =>
       simp at hc hv
       subst hc hv
       exact .val _
      | i+2=>simp at hc
     | i+2=>simp at hc
   | 1 =>
    simp at hc hv
    subst hc hv
    exact .d _ _ (.int _ _)
   | i+2=>simp at hc
  ·rintro ex w' ⟨v,rr,E',H',rfl,rfl,h3,h4,h5,h6,rfl,f1,p1,s1,rfl⟩
   have hv:v=.tuple #[]:=by
    cases h5 with
    | tup _ vs hl _=>simp at hl;subst hl;rfl
   subst hv
   refine ⟨rfl,E',_,rfl,h3,l1.trans h4,h6,(List.range xs.length).map f1,?_,?_,?_⟩
   ·rw [hrows] at p1;exact p1
   ·rw [List.pairwise_map,List.pairwise_iff_getElem]
    intro i j hi hj hij
    simp only [List.length_range] at hi hj
    simp only [List.getElem_range]
    exact s1 i j (Nat.zero_le _) hij hj
   ·rw [List.map_map];rfl
def Env.still (E:Env):Env:={ E with S:=fun b _=>b<E.w.heap.size,N:=0,pv:=fun _=>False }
theorem RepH.still (E:Env):RepH E.still []:=
 ⟨rfl,fun r o h=>by simp at h,fun r o b h=>by simp at h,fun r o b h=>by simp at h,fun r r' o o' b h=>by simp at h,fun b i h=>h⟩
theorem ACalls.peek {P:Program} {f:FuncId} {args args':List C} {H:List O} {d:D} (h:ACalls P f args' [] (fun c _=>c=.d d)) (hf:d.flat=true) (hl:args'.length=args.length)
  (hp:∀E:Env,RepH E H→∀(i:Nat) (c c':C) (v:Value),args[i]? = some c→args'[i]? = some c'→Rd E c v→Rd E.still c' v):ACalls P f args H (fun c H'=>c=.d d∧H'=H):=by
 intro E vs hE hs ha
 refine (h E.still vs (RepH.still E) (by rw [hl];exact hs) (fun i c' v hc' hv=>?_)).mono ?_
 ·have hi:i<args.length:=by rw [←hl];exact (a_.1 hc').1
  exact hp E hE i _ c' v (e_ hi) hc' (ha i _ v (e_ hi) hv)
 ·rintro ex w' ⟨v,c,E',H',rfl,rfl,h3,h4,h5,h6,rfl⟩
  have hb:∀b,b<E.w.heap.size→E'.w.heap[b]? = E.w.heap[b]?:=fun b hb=>h4.blk b hb (fun h=>h)
  have hl:Le E { E with w:=E'.w }:=by
   refine ⟨h4.os,h4.tape,h4.output,h4.size,n_ _,fun _ _=>rfl,fun _ _=>⟨n_ _,fun _=>rfl⟩,fun _ _ hs=>hs,fun b i hs=>?_,fun b hlt _=>hb b hlt,fun _ _ hs=>.inl hs,fun _ hp=>.inl hp,fun b i arr n hs hh=>(hb b (hE.Slt b i hs)).trans hh⟩
   show E'.w.cell? _=_
   simp only [World.cell?,hb b (hE.Slt b i hs)]
  refine ⟨v,.d d,{ E with w:=E'.w },H,rfl,rfl,?_,hl,?_,rfl,rfl,rfl⟩
  ·exact hE.keep hl rfl (fun _ _=>rfl) (fun r o b ho hbk=>⟨hb b (hE.lt r o b ho hbk),fun _ hs=>hs⟩) (fun _ hp=>hp) (fun b i hs=>Nat.lt_of_lt_of_le (hE.Slt b i hs) h4.size)
  ·cases h5 with
   | d _ _ hd=>exact .d _ _ (flat_any hf hd)
theorem rdD_still {E:Env} {H:List O} (hE:RepH E H) {x:D} {v:Value} (h:RdD E.w E.S x v):RdD E.still.w E.still.S x v:=
 h.mono (fun b i hs=>hE.Slt b i hs) (fun _ _ _=>rfl) (fun _ _ _ _ _ hh=>hh)
theorem rdD_bufS {E:Env} {H:List O} (hE:RepH E H) {r q z e:Nat} {xs:List (List D)} (hr:H[r]? = some (.buf q z e xs)):RdD E.still.w E.still.S (.sl xs) (E.τ r).2:=by
 have hobj:=hE.obj r _ hr
 obtain ⟨h1,h3,hz,h5⟩:=hobj
 rcases h5 with ⟨ad,g5,rfl⟩ | ⟨b,cap,arr,k1,k2,k3,k4,k5,k6,h4,k8⟩
 ·rw [g5];exact .nil _ _
 ·rw [k1]
  have hblk:(O.buf q z e xs).block E r b:=by simp only [O.block,k1,ownB];rw [if_neg (by have:=w_.2 k3;omega)]
  have hlb:=hE.lt r _ _ hr hblk
  refine .sl b 0 cap z xs (fun i j=>arr.getD (i * z+j) undef) k3 k4 k5 h3 (fun i j hi hj=>?_) (fun i j x c hi hj=>?_)
  ·have hxz:=h3 xs[i] (List.getElem_mem _)
   obtain ⟨v,k2',k3',k4'⟩:=h4 i j xs[i] (xs[i][j]'(by omega)) (e_ hi) (e_ _)
   refine ⟨hlb,?_,?_⟩
   ·simp only [p_]
    show E.w.cell? _=_
    rw [cell_of_row _ _ _ _ _ _ k2,k2',f_,k2'];rfl
   ·rw [f_,k2'];exact k3'
  ·obtain ⟨v,k2',k3',k4'⟩:=h4 i j x c hi hj
   rw [f_,k2'];exact rdD_still hE k4'
theorem rd_boxBuf {E:Env} {H:List O} (hE:RepH E H) {rb r q z e:Nat} {xs:List (List D)} (hb:H[rb]? = some (.box [.own r q])) (hr:H[r]? = some (.buf q z e xs)) {v:Value} (hv:Rd E (.ptr rb 0) v):Rd E.still (.cptr [.sl xs]) v:=by
 cases hv with
 | ptr _ _ hN =>
  obtain ⟨arr,e',h1,h2,h3,h4⟩:=hE.obj rb _ hb
  have hlb:E.β rb<E.w.heap.size:=(j_.1 h1).1
  have hs:arr.size=1:=h2
  have hv0:arr[0]? = some (arr[0]'(by omega)):=G_ _
  obtain ⟨g1,g2⟩:=h3 0 _ _ rfl hv0
  have hq:=(hE.obj r _ hr).1
  refine .cptr _ 0 _ (fun _=>arr[0]'(by omega)) (fun j hj=>?_) (fun j c hc=>?_)
  ·have hj0:j=0:=by simp at hj;exact hj
   subst hj0
   refine ⟨hlb,?_,g2⟩
   show E.w.cell? _=_
   rw [cell_of_row _ _ _ _ _ _ h1];exact hv0
  ·have hj0:j=0:=by have:=(a_.1 hc).1;simp at this;exact this
   subst hj0
   simp at hc
   subst hc
   generalize arr[0]'(by omega)=u at g1
   cases g1 with
   | own _ _ _ _ _ _ hvv=>rw [hvv hq.symm];exact rdD_bufS hE hr
theorem lessB {P:Program} {g:FuncId} {H:List O} {rb r q z e:Nat} (hb:H[rb]? = some (.box [.own r q])) (hne:rb≠r) (hrl:r<H.length) {xs:List (List D)} {i j:Int} {b:Bool} (X:List O)
  (h:ACalls P g [.d (.int .i64 i),.d (.int .i64 j),.cptr [.sl xs]] [] (fun c _=>c=.d (.bool b))) :
  ACalls P g [.d (.int .i64 i),.d (.int .i64 j),.ptr rb 0] (H.set r (.buf q z e xs)++X) (fun c H'=>c=.d (.bool b)∧H'=H.set r (.buf q z e xs)++X):=by
 have hbl:=(a_.1 hb).1
 refine ACalls.peek h rfl rfl (fun E hE k c c' v hc hc' hv=>?_)
 match k with
 | 0=>simp at hc hc';subst hc hc';cases hv with | d _ _ hd=>exact .d _ _ (rdD_still hE hd)
 | 1=>simp at hc hc';subst hc hc';cases hv with | d _ _ hd=>exact .d _ _ (rdD_still hE hd)
 | 2 =>
  simp at hc hc';subst hc hc'
  refine rd_boxBuf hE (rb:=rb) (r:=r) (q:=q) (z:=z) (e:=e) ?_ ?_ hv
  ·rw [b_ (by simpa using hbl),c_ (Ne.symm hne)];exact hb
  ·rw [b_ (by simpa using hrl),d_ hrl]
 | k+3=>simp at hc
def vcAppS (P:Program) (s:St) (t u:TypeId) (y:C) (K:C→List O→Prop):Prop:=
 match tSlice P t,norm1 s y with
 | some (e,z,by_),.d (.sl ys)=>(P.underlying u).isSome=true∧tIsSlice P u=true∧(∀y',y'∈ys→y'.length=z)∧ys.length≤maxLen∧ys.length * by_≤140737488355328∧K (.own s.H.length 1) (s.H++[.buf 1 z e ys])
 | _,_=>False
theorem effOk_appS {P:Program} {s:St} {o:Oper} {K:C→List O→Prop} {x y:Operand} {t u:TypeId} (ho:o.op=.call { callee:=.builtin .append,args:=#[x,y],argTypes:=#[t,u] })
  (hx:okOperand x=true) (hy:okOperand y=true) (hev:ev s x=.nil0) (h:vcAppS P s t u (ev s y) K):EffOk P s o K:=by
 unfold vcAppS at h
 split at h
 ·rename_i e z by_ ys ht hys
  obtain ⟨_,hu,hyz,h1,h2,hk⟩:=h
  have hz:0<z:=(of_tSlice ht).2.1
  intro E ns a hst
  have hv:=rd_norm1 hst (rd_ev hst y hy)
  rw [hys] at hv
  have hs:Src P E z u ys (a.eval y):=by
   generalize a.eval y=v at hv ⊢
   cases hv with
   | d _ _ hd=>exact src_sl hu hyz hd
  obtain ⟨L,hL,hfx⟩:=hs.cells
  have hvx:=rd_ev hst x hx
  rw [hev] at hvx
  generalize hg:a.eval x=v at hvx
  cases hvx with
  | nil0 ad =>
   obtain ⟨hl0,hH0⟩:=rep_ghostB hst.heap ad e hz
   have hr:(s.H++[O.buf 0 z e []])[s.H.length]? = some (.buf 0 z e []):=by simp
   have hτ0:((E.ghost ad).τ s.H.length).2=.slice ad 0 0:=by simp [Env.ghost,hst.heap.N]
   obtain ⟨v',E',k1,k2,k3,k4,k5⟩:=append_buf (P:=P) (ty:=o.type) hH0 ht hs.plain hr (x:=a.eval y) hL hs.len hfx (by simpa using h1) (by simpa using h2)
   rw [hτ0] at k1
   have k1:(Builtin.append_ #[t,u] o.type #[.slice ad 0 0,a.eval y]).run P E.w=.ok v' E'.w:=k1
   unfold Oper.wp execOp
   simp only [ho,resolve,invoke,builtin,Sem.run_bind,Sem.run_pure,Result.andThen_ok,List.map_toArray,List.map_cons,List.map_nil,hg,k1,Oper.upon]
   exact ⟨v',E',.own s.H.length 1,_,rfl,rfl,.own _ _ v' (by rw [k3.N];simp) k5 (by rw [k4];exact n_ _) (fun _=>by rw [k4]),k3,hl0.trans k2,by simpa using hk⟩
 ·exact h.elim
def vcOpS (P:Program) (s:St) (o:Oper) (K:C→List O→Prop):Prop:=
 match o.op with
 | .call c =>
  (match c.callee with
  | .builtin .append=>(match c.args.toList,c.argTypes.toList with
   | [x,y],[t,u]=>okOperand x=true∧okOperand y=true∧(match ev s x with
    | .nil0=>vcAppS P s t u (ev s y) K
    | _=>vcAppend P s t u (ev s x) (ev s y) K)
   | _,_=>False)
  | _=>vcEff P s o K)
 | _=>vcEff P s o K
theorem vcOpS_sound {P:Program} {s:St} {o:Oper} {K:C→List O→Prop} (h:vcOpS P s o K):EffOk P s o K:=by
 unfold vcOpS at h
 split at h
 ·rename_i c ho
  obtain ⟨callee,args,argTypes⟩:=c
  dsimp only at h
  split at h
  ·split at h
   ·rename_i x y t u hargs hts
    have e1:args=#[x,y]:=Array.toList_inj.1 (by simpa using hargs)
    have e2:argTypes=#[t,u]:=Array.toList_inj.1 (by simpa using hts)
    subst e1 e2
    obtain ⟨h1,h2,h3⟩:=h
    split at h3
    ·exact effOk_appS ho h1 h2 (by assumption) h3
    ·exact effOk_append ho h1 h2 h3
   ·exact h.elim
  ·exact vcEff_sound h
 ·exact vcEff_sound h
def vcRS (P:Program) (n:Nat) (K:St→Prop):List Oper→St→Prop
 | [],⟨σ,H⟩=>K ⟨σ,H⟩
 | o :: rest,⟨σ,H⟩=>okDst n o=true∧o.guard=none∧vcOpS P ⟨σ,H⟩ o (kR (vcRS P n K rest) ⟨σ,H⟩ o.dst)
theorem vcRS_sound {P:Program} {n:Nat} {K:St→Prop} {ops:Array Oper} {E0:Env}:∀(os:List Oper) (l:List Nat) (s:St) (E:Env) (a:Act),l.map (ops[·]?)=os.map some→RepSt E n s a→Le E0 E→vcRS P n K os s →
  wpOps P ops (Behind n E0 K) l a E.w
 | [],l,s,E,a,hl,hst,hle,h=>by
  have:l=[]:=by simpa using hl
  subst this
  exact ⟨rfl,E,s,rfl,hst,hle,h⟩
 | o :: os,l,s,E,a,hl,hst,hle,h=>by
  cases l with
  | nil=>simp at hl
  | cons i l =>
   simp only [List.map_cons,List.cons.injEq] at hl
   obtain ⟨ho,hl⟩:=hl
   unfold vcRS at h
   obtain ⟨hd,hg,h⟩:=h
   have hdst:∀d,o.dst=some d→d<n:=fun d hd'=>by
    unfold okDst at hd
    rw [hd'] at hd
    simpa using hd
   rw [Go.wpOps_cons]
   refine wpOp_of (n:=n) ho hg ((vcOpS_sound h).run hst (fun v E' c H' h1 h2 h3 h4=>?_))
   exact vcRS_sound os l _ E' _ hl (hst.put h3 h2 hdst h1) (hle.trans h3) h4
theorem AW.regS {P:Program} {n:Nat} {f:FuncId} {n0:Nat} {R:C→List O→Prop} {id:Nat} {ops:Array Oper} {k:List Item} {s:St} (h:vcRS P n (AW P f n n0 R k) ops.toList s):AW P f n n0 R (.code (.region id ops false) :: k) s:=by
 refine AW.of_behind (k':=k) fun _ E a b cs hst=>?_
 have hw:=vcRS_sound (ops:=ops) ops.toList (List.range ops.size) s E a (by
  apply y_
  intro j
  simp only [g_]
  by_cases hj:j<ops.size
  ·rw [A_ hj]
   simp [hj]
  ·rw [l_ (by simpa using hj),l_ (by simpa using hj)]
   rfl) hst (Le.refl E) h
 obtain ⟨e,a',w',⟨rfl,E',s',rfl,h1,h2,h3⟩,harr⟩:=wp_region (id:=id) hw b k cs
 exact ⟨a',E',s',harr,h1,h2,h3⟩
attribute [go_sem] vcAppS.eq_1 vcOpS.eq_def vcRS.eq_1 vcRS.eq_2
theorem RepH.frzB {E:Env} {H:List O} (h:RepH E H) {r q z e:Nat} {xs:List (List D)} (hr:H[r]? = some (.buf q z e xs)) :
  ∃E',E'.w=E.w∧Le E E'∧RepH E' (H.set r .dead)∧E'.β=E.β∧RdD E'.w E'.S (.sl xs) (E.τ r).2∧(∀b i,E'.S b i→E.S b i∨(O.buf q z e xs).block E r b):=by
 obtain ⟨h1,h2,h3,h4⟩:=h.obj r _ hr
 rcases h4 with ⟨ad,h5,rfl⟩ | ⟨b0,cap,arr,h5,h6,h7,h8,h9,h10,h11,h12⟩
 ·refine ⟨E,rfl,Le.refl E,?_,rfl,by rw [h5];exact .nil _ _,fun b i hs=>.inl hs⟩
  refine h.turn (r0:=r) (o0:=.dead) (Le.refl E) (by simp [h.N]) (fun r' hr'=>?_) (fun o' ho'=>?_) (fun _ _ _=>rfl) (fun r' o' b hr' ho' hb=>⟨rfl,fun i hs=>hs⟩) (fun _ hb=>hb) (fun b i hs=>h.Slt b i hs) trivial (fun b hb=>by simp [O.block] at hb)
  ·rw [c_ (fun e=>hr' e.symm)]
  ·rw [d_ (a_.1 hr).1] at ho'
   exact (Option.some.inj ho').symm
 ·have hx:=w_.2 h7
  have hblk:(O.buf q z e xs).block E r b0:=by simp [O.block,h5,ownB];omega
  have hpv:=h.pv r _ _ hr hblk
  have hlb:=h.lt r _ _ hr hblk
  have hl:Le E (E.freezeBlk b0):=by
   refine ⟨rfl,rfl,rfl,n_ _,n_ _,fun _ _=>rfl,fun _ _=>⟨n_ _,fun _=>rfl⟩,fun _ _ hs=>.inl hs,fun _ _ _=>rfl,fun _ _ _=>rfl,fun b i hs=>?_,fun _ hp=>.inl hp,fun _ _ _ _ _ hh=>hh⟩
   rcases hs with hs | rfl
   ·exact .inl hs
   ·exact .inr (.inr hpv)
  refine ⟨E.freezeBlk b0,rfl,hl,?_,rfl,?_,fun b i hs=>?_⟩
  ·refine h.turn (r0:=r) (o0:=.dead) hl (by simp [Env.freezeBlk,h.N]) (fun r' hr'=>?_) (fun o' ho'=>?_) (fun _ _ _=>rfl) (fun r' o' b hr' ho' hb=>⟨rfl,fun i hs=>?_⟩) (fun _ hb=>hb) (fun b i hs=>?_) trivial (fun b hb=>by simp [O.block] at hb)
   ·rw [c_ (fun e=>hr' e.symm)]
   ·rw [d_ (a_.1 hr).1] at ho'
    exact (Option.some.inj ho').symm
   ·rcases hs with hs | rfl
    ·exact hs
    ·exact absurd (h.apart r' r o' _ _ ho' hr hb hblk) hr'
   ·rcases hs with hs | rfl
    ·exact h.Slt b i hs
    ·exact hlb
  ·rw [h5]
   refine .sl b0 0 cap z xs (fun i j=>arr.getD (i * z+j) undef) h7 h8 h9 h2 (fun i j hi hj=>?_) (fun i j x c hi hj=>?_)
   ·have hxz:=h2 xs[i] (List.getElem_mem _)
    obtain ⟨v,k2,k3,k4⟩:=h11 i j xs[i] (xs[i][j]'(by omega)) (e_ hi) (e_ _)
    refine ⟨.inr rfl,?_,?_⟩
    ·simp only [p_]
     show E.w.cell? _=_
     rw [cell_of_row _ _ _ _ _ _ h6,k2,f_,k2];rfl
    ·rw [f_,k2];exact k3
   ·obtain ⟨v,k2,k3,k4⟩:=h11 i j x c hi hj
    rw [f_,k2];exact k4.le hl
  ·rcases hs with hs | rfl
   ·exact .inl hs
   ·exact .inr hblk
theorem RepH.frzBox {E:Env} {H:List O} (h:RepH E H) {rb j r q z e:Nat} {cs:List C} {xs:List (List D)} (hb:H[rb]? = some (.box cs)) (hj:cs[j]? = some (.own r q)) (hr:H[r]? = some (.buf q z e xs)) (hne:rb≠r) :
  ∃E',E'.w=E.w∧Le E E'∧RepH E' ((H.set r .dead).set rb (.box (cs.set j (.d (.sl xs))))):=by
 obtain ⟨E',e1,hl,hH,eβ,hd,hS⟩:=h.frzB hr
 refine ⟨E',e1,hl,?_⟩
 have hb':(H.set r .dead)[rb]? = some (.box cs):=by rw [c_ (Ne.symm hne)];exact hb
 have hlen:rb<(H.set r .dead).length:=(a_.1 hb').1
 have at0:∀(r':Nat) (o:O),((H.set r .dead).set rb (.box (cs.set j (.d (.sl xs)))))[r']? = some o→(r'=rb∧o=.box (cs.set j (.d (.sl xs))))∨(H.set r .dead)[r']? = some o:=by
  intro r' o ho
  by_cases e:r'=rb
  ·subst e
   rw [d_ hlen] at ho
   exact .inl ⟨rfl,(Option.some.inj ho).symm⟩
  ·rw [c_ (fun e'=>e e'.symm)] at ho
   exact .inr ho
 have old:∀(r':Nat) (o:O),((H.set r .dead).set rb (.box (cs.set j (.d (.sl xs)))))[r']? = some o→∃o',(H.set r .dead)[r']? = some o'∧o'.block E' r'=o.block E' r':=by
  intro r' o ho
  rcases at0 r' o ho with ⟨rfl,rfl⟩ | ho
  ·exact ⟨_,hb',rfl⟩
  ·exact ⟨o,ho,rfl⟩
 refine ⟨by rw [u_];exact hH.N,fun r' o ho=>?_,fun r' o b ho hk=>?_,fun r' o b ho hk=>?_,fun r1 r2 o1 o2 b h1 h2 k1 k2=>?_,hH.Slt⟩
 ·rcases at0 r' o ho with ⟨rfl,rfl⟩ | ho
  ·obtain ⟨arr,ty,a1,a2,a3,a4⟩:=hH.obj _ _ hb'
   obtain ⟨arr2,ty2,c1,c2,c3,c4⟩:=h.obj _ _ hb
   rw [eβ,e1] at a1
   rw [c1] at a1
   cases a1
   refine ⟨arr,ty,by rw [eβ,e1];exact c1,by simpa using a2,fun i c v hc hv=>?_,a4⟩
   by_cases hij:i=j
   ·subst hij
    have hjl:=(a_.1 hj).1
    rw [d_ hjl] at hc
    obtain ⟨k1,k2⟩:=c3 i _ v hj hv
    refine ⟨?_,k2⟩
    rw [←Option.some.inj hc]
    cases k1 with
    | own _ _ _ _ _ _ hvv=>rw [hvv (h.obj r _ hr).1.symm];exact .d _ _ hd
   ·rw [c_ (fun e'=>hij e'.symm)] at hc
    exact a3 i c v hc hv
  ·exact hH.obj r' o ho
 ·obtain ⟨o',h1,h2⟩:=old r' o ho
  exact hH.pv r' o' b h1 (by rw [h2];exact hk)
 ·obtain ⟨o',h1,h2⟩:=old r' o ho
  exact hH.lt r' o' b h1 (by rw [h2];exact hk)
 ·obtain ⟨o1',g1,e1⟩:=old r1 o1 h1
  obtain ⟨o2',g2,e2⟩:=old r2 o2 h2
  exact hH.apart r1 r2 o1' o2' b g1 g2 (by rw [e1];exact k1) (by rw [e2];exact k2)
theorem AW.frzBox {P:Program} {f:FuncId} {n n0:Nat} {R:C→List O→Prop} {k:List Item} {s:St} (rb j r:Nat) {q z e:Nat} {cs:List C} {xs:List (List D)} (hb:s.H[rb]? = some (.box cs)) (hj:cs[j]? = some (.own r q)) (hr:s.H[r]? = some (.buf q z e xs)) (hne:rb≠r)
  (h:AW P f n n0 R k ⟨s.σ,(s.H.set r .dead).set rb (.box (cs.set j (.d (.sl xs))))⟩):AW P f n n0 R k s:=by
 refine AW.recast (s':=⟨s.σ,(s.H.set r .dead).set rb (.box (cs.set j (.d (.sl xs))))⟩) (fun hn0 E a hst=>?_)
 obtain ⟨E',e1,hl,hH⟩:=hst.heap.frzBox hb hj hr hne
 exact ⟨E',e1,hl,⟨hst.size,hst.defers,hH,fun t=>(hst.slot t).le hl⟩,h⟩
def vcOpA (P:Program) (s:St) (o:Oper) (K:C→List O→Prop):Prop:=
 match o.op with
 | .load t x=>(match ev s x with
  | .tptr r q z i off=>(match s.H[r]? with
   | some (.buf q' z' e xs)=>(match tAgg P t,tSize P t with
    | some true,some n=>okOperand x=true∧q=q'∧z=z'∧i<xs.length∧0<n∧off+n≤z∧idx xs i (fun x=>K (.d (.agg ((x.drop off).take n))) s.H)
    | _,_=>vcOpT P s o K)
   | _=>vcOpT P s o K)
  | _=>vcOpT P s o K)
 | _=>vcOpT P s o K
def vcRA (P:Program) (n:Nat) (K:St→Prop):List Oper→St→Prop
 | [],⟨σ,H⟩=>K ⟨σ,H⟩
 | o :: rest,⟨σ,H⟩=>okDst n o=true∧o.guard=none∧vcOpA P ⟨σ,H⟩ o (kR (vcRA P n K rest) ⟨σ,H⟩ o.dst)
attribute [go_sem] vcOpA.eq_def vcRA.eq_1 vcRA.eq_2
section
variable {P:Program} {f:FuncId} {n n0:Nat} {R:C→List O→Prop}
end
section
variable {P:Program} {E:Env}
end
def vcOpU (P:Program) (s:St) (o:Oper) (K:C→List O→Prop):Prop:=
 match o.op with
 | .buildSlice t n ps=>(match tSlice P t with
  | some (e,z,_)=>n * z≤16777216∧ps.size=n∧0<n∧vcElems s z (fun l=>K (.own s.H.length 1) (s.H++[.buf 1 z e l])) ps.toList 0
  | none=>False)
 | _=>vcOpA P s o K
def vcRU (P:Program) (n:Nat) (K:St→Prop):List Oper→St→Prop
 | [],⟨σ,H⟩=>K ⟨σ,H⟩
 | o :: rest,⟨σ,H⟩=>okDst n o=true∧o.guard=none∧vcOpU P ⟨σ,H⟩ o (kR (vcRU P n K rest) ⟨σ,H⟩ o.dst)
attribute [go_sem] vcOpU.eq_def vcRU.eq_1 vcRU.eq_2
def vcRG (P:Program) (n:Nat) (ops:Array Oper) (K:St→Prop):List Oper→St→Prop
 | [],⟨σ,H⟩=>K ⟨σ,H⟩
 | o :: rest,⟨σ,H⟩=>okDst n o=true ∧
  (match o.guard with
  | none=>vcOpT P ⟨σ,H⟩ o (kR (vcRG P n ops K rest) ⟨σ,H⟩ o.dst)
  | some (j,want) =>
   match (ops[j]?).bind (·.dst) with
   | some t =>
    match get σ t with
    | .d (.bool b) =>
     br (b == want) (app (vcOpT P (put ⟨σ,H⟩ (some t) (.d (.bool want))) o) (kR (vcRG P n ops K rest) (put ⟨σ,H⟩ (some t) (.d (.bool want))) o.dst))
      (app (vcRG P n ops K rest) (put (put ⟨σ,H⟩ (some t) (.d (.bool (!want)))) o.dst (.tup [])))
    | .tup []=>vcRG P n ops K rest (put ⟨σ,H⟩ o.dst (.tup []))
    | _=>False
   | none=>False)
section
variable (P:Program) (f:FuncId) (n n0:Nat) (R:C→List O→Prop) (rs:List ResultVar)
def runG:Nat→List Item→St→Prop
 | 0,k,⟨σ,H⟩=>AW P f n n0 R k ⟨σ,H⟩
 | _+1,[],⟨σ,H⟩=>vcRet P rs n0 R ⟨σ,H⟩
 | fuel+1,.inBlock _ :: k,⟨σ,H⟩=>runG fuel k ⟨σ,H⟩
 | fuel+1,.code c :: k,⟨σ,H⟩ =>
  (match c with
  | .ret=>vcRet P rs n0 R ⟨σ,H⟩
  | .skip=>runG fuel k ⟨σ,H⟩
  | .label _=>runG fuel k ⟨σ,H⟩
  | .seq x y=>runG fuel (.code x :: .code y :: k) ⟨σ,H⟩
  | .block id x=>runG fuel (.code x :: .inBlock id :: k) ⟨σ,H⟩
  | .exit id=>(match exitTo id k with | some k'=>runG fuel k' ⟨σ,H⟩ | none=>False)
  | .cond c x y=>okOperand c=true∧(match ev ⟨σ,H⟩ c with
   | .d (.bool b)=>br b (app (runG fuel (.code x :: k)) ⟨σ,H⟩) (app (runG fuel (.code y :: k)) ⟨σ,H⟩)
   | _=>False)
  | .region _ ops false=>vcRG P n ops (runG fuel k) ops.toList ⟨σ,H⟩
  | .region _ ops true=>vcD P n ops (runG fuel k) ops.toList ⟨σ,H⟩
  | c=>AW P f n n0 R (.code c :: k) ⟨σ,H⟩)
 | _+1,k,⟨σ,H⟩=>AW P f n n0 R k ⟨σ,H⟩
end
section
variable {P:Program} {f:FuncId} {n n0:Nat} {R:C→List O→Prop} {rs:List ResultVar} {k:List Item} {s s':St}
@[congr] theorem vcRG_cg {ops:Array Oper} {os:List Oper} {KS:St→Prop} (h:s=s'):vcRG P n ops KS os s=vcRG P n ops KS os s':=by rw [h]
@[congr] theorem runG_cg {fuel:Nat} (h:s=s'):runG P f n n0 R rs fuel k s=runG P f n n0 R rs fuel k s':=by rw [h]
theorem runG_region {fuel id:Nat} {l:List Oper} {σ:List (Nat×C)} {H:List O}:runG P f n n0 R rs (fuel+1) (.code (.region id (List.toArray l) false) :: k) ⟨σ,H⟩=vcRG P n (List.toArray l) (runG P f n n0 R rs fuel k) l ⟨σ,H⟩:=by
 rw [runG]
theorem runG_draw {fuel id:Nat} {l:List Oper} {σ:List (Nat×C)} {H:List O}:runG P f n n0 R rs (fuel+1) (.code (.region id (List.toArray l) true) :: k) ⟨σ,H⟩=vcD P n (List.toArray l) (runG P f n n0 R rs fuel k) l ⟨σ,H⟩:=by
 rw [runG]
theorem runG_loop {fuel:Nat} {c:Code} {σ:List (Nat×C)} {H:List O}:runG P f n n0 R rs (fuel+1) (.code (.loop c) :: k) ⟨σ,H⟩=AW P f n n0 R (.code (.loop c) :: k) ⟨σ,H⟩:=by
 rw [runG]<;>simp
theorem runG_inLoop {fuel:Nat} {c:Code} {σ:List (Nat×C)} {H:List O}:runG P f n n0 R rs (fuel+1) (.inLoop c :: k) ⟨σ,H⟩=AW P f n n0 R (.inLoop c :: k) ⟨σ,H⟩:=by
 rw [runG]<;>simp
def exKG (P:Program) (f:FuncId) (n n0:Nat) (R:C→List O→Prop) (rs:List ResultVar) (fuel j:Nat) (k:List Item) (s:St):Prop:=
 match Go.exitTo j k with
 | some k'=>runG P f n n0 R rs fuel k' s
 | none=>False
@[congr] theorem exKG_cg {fuel j:Nat} (h:s=s'):exKG P f n n0 R rs fuel j k s=exKG P f n n0 R rs fuel j k s':=by rw [h]
theorem runG_exit {fuel j:Nat} {σ:List (Nat×C)} {H:List O}:runG P f n n0 R rs (fuel+1) (.code (.exit j) :: k) ⟨σ,H⟩=exKG P f n n0 R rs fuel j k ⟨σ,H⟩:=by
 rw [runG];rfl
theorem exKG_code {fuel j:Nat} {c:Code}:exKG P f n n0 R rs fuel j (.code c :: k) s=exKG P f n n0 R rs fuel j k s:=rfl
theorem exKG_inLoop {fuel j:Nat} {c:Code}:exKG P f n n0 R rs fuel j (.inLoop c :: k) s=exKG P f n n0 R rs fuel j k s:=rfl
theorem exKG_block {fuel j j':Nat}:exKG P f n n0 R rs fuel j (.inBlock j' :: k) s=if j'=j then runG P f n n0 R rs fuel k s else exKG P f n n0 R rs fuel j k s:=by
 unfold exKG
 rw [exitTo.eq_1]
 by_cases h:j'=j
 ·simp [h]
 ·rw [if_neg (by simpa using h),if_neg h]
end
attribute [go_sem] runG_region runG_draw runG_loop runG_inLoop runG_exit exKG_code exKG_inLoop exKG_block runG.eq_2 runG.eq_3 runG.eq_4 runG.eq_5 runG.eq_6 runG.eq_7 runG.eq_8 runG.eq_10
attribute [go_sem] vcRG.eq_1 vcRG.eq_2
section
variable {P:Program}
theorem RepH.seen {E:Env} {H:List O} (h:RepH E H) {r:Nat} {o o':O} (ho:H[r]? = some o) (hb:∀b,o'.block E r b↔o.block E r b) (hr:RepO E r o'):RepH E (H.set r o'):=by
 have hrl:=(a_.1 ho).1
 refine h.turn (r0:=r) (o0:=o') (Le.refl E) (by simp [h.N]) (fun r' hr'=>by rw [c_ (fun e=>hr' e.symm)]) (fun o2 ho2=>by rw [d_ hrl] at ho2;exact (Option.some.inj ho2).symm) (fun _ _ _=>rfl) (fun r' o2 b hr' ho2 hbb=>⟨rfl,fun i hs=>hs⟩) (fun _ hp=>hp) (fun b i hs=>h.Slt b i hs) hr (fun b hbb=>?_)
 have hbo:=(hb b).1 hbb
 exact ⟨h.pv r _ b ho hbo,h.lt r _ b ho hbo,fun r' o2 hr' ho2 hb2=>hr' (h.apart r' r o2 _ b ho2 ho hb2 hbo)⟩
def vcIdxM (P:Program) (t:TypeId) (r q q' z:Nat) (ys:List (List D)) (i:C) (K:C→Prop):Prop:=
 match i,tElem P t with
 | .d (.int _ m),some e=>tSize P e=some z∧q=q'∧0≤m∧m<ys.length∧K (.tptr r q z m.toNat 0)
 | _,_=>False
def vcLdM (P:Program) (t:TypeId) (q q' z z' i off:Nat) (ys xs:List (List D)) (K:C→Prop):Prop:=
 match tAgg P t,tSize P t with
 | some true,some n=>q=q'∧z=z'∧i<ys.length∧0<n∧off+n≤z∧idx ys i (fun y=>(y.drop off).take n=List.replicate n .any)∧xs.length=ys.length∧idx xs i (fun x=>x.length=z∧K (.d (.agg ((x.drop off).take n))))
 | some false,_=>q=q'∧z=z'∧i<ys.length∧off<z∧idx ys i (fun y=>y[off]? = some .any)∧xs.length=ys.length∧idx xs i (fun x=>x.length=z∧idx x off (fun d=>K (.d d)))
 | _,_=>False
def vcStM (P:Program) (s:St) (t:TypeId) (r q z i off:Nat) (x:C) (K:List O→Prop):Prop:=
 match tSize P t with
 | some n=>okCells x=true∧(cellsOf x).length=n ∧
  (match moveCells s.H (cellsOf x) with
  | some (ds,H1) =>
   (match H1[r]? with
   | some (.mix q' z' e ys xs _)=>q=q'∧z=z'∧i<ys.length∧off+n≤z∧(∀d,d∈ds→d≠.any) ∧
     ∀B',K (H1.set r (.mix q z e (ys.set i ((ys.getD i []).take off++ds++(ys.getD i []).drop (off+n))) xs B'))
   | _=>False)
  | none=>False)
 | none=>False
def vcOpX (P:Program) (s:St) (o:Oper) (K:C→List O→Prop):Prop:=
 match o.op with
 | .load t x=>(match ev s x with
  | .tptr r q z i off=>(match s.H[r]? with
   | some (.mix q' z' e ys xs B)=>okOperand x=true∧vcLdM P t q q' z z' i off ys xs (fun c=>K c s.H)
   | _=>vcOpT P s o K)
  | _=>vcOpT P s o K)
 | .indexAddr t x i=>(match ev s x with
  | .own r q=>(match s.H[r]? with
   | some (.mix q' z e ys xs B)=>okOperand x=true∧okOperand i=true∧vcIdxM P t r q q' z ys (ev s i) (fun c=>K c s.H)
   | _=>vcOpT P s o K)
  | _=>vcOpT P s o K)
 | .store t p x=>(match ev s p with
  | .tptr r q z i off=>(match s.H[r]? with
   | some (.mix ..)=>okOperand p=true∧okOperand x=true∧vcStM P s t r q z i off (ev s x) (K .top)
   | _=>vcOpT P s o K)
  | _=>vcOpT P s o K)
 | _=>vcOpT P s o K
def vcRX (P:Program) (n:Nat) (K:St→Prop):List Oper→St→Prop
 | [],⟨σ,H⟩=>K ⟨σ,H⟩
 | o :: rest,⟨σ,H⟩=>okDst n o=true∧o.guard=none∧vcOpX P ⟨σ,H⟩ o (kR (vcRX P n K rest) ⟨σ,H⟩ o.dst)
attribute [go_sem] vcIdxM.eq_def vcLdM.eq_def vcStM.eq_def vcOpX.eq_def vcRX.eq_1 vcRX.eq_2
end
def rawF (p:(List UInt8×List (List D))×Value):List D:=[.str p.1.1,.raw p.2]
def treF (p:(List UInt8×List (List D))×Value):List D:=[.str p.1.1,.sl p.1.2]
def crF (p:(List UInt8×List (List D))×Value):Value×D:=(p.2,.sl p.1.2)
def Held (w:World) (L:List (Value×D)) (B:Nat→Prop):Prop:=∃Bs:Nat→Nat→Prop,(∀k v d,L[k]? = some (v,d)→v.oneCell'=true∧Tr w d v (Bs k))∧(∀k b,Bs k b→B b)∧(∀k k' b,Bs k b→Bs k' b→k=k')
section
variable {w:World}
theorem Held.mono {L:List (Value×D)} {B B':Nat→Prop} (h:Held w L B) (hB:∀b,B b→B' b):Held w L B':=by
 obtain ⟨Bs,h1,h2,h3⟩:=h
 exact ⟨Bs,h1,fun k b hb=>hB b (h2 k b hb),h3⟩
theorem Held.uncons {a:Value×D} {L:List (Value×D)} {B:Nat→Prop} (h:Held w (a :: L) B):∃B0:Nat→Prop,a.1.oneCell'=true∧Tr w a.2 a.1 B0∧(∀b,B0 b→B b)∧Held w L (fun b=>B b∧¬B0 b):=by
 obtain ⟨Bs,h1,h2,h3⟩:=h
 obtain ⟨k1,k2⟩:=h1 0 a.1 a.2 rfl
 refine ⟨Bs 0,k1,k2,h2 0,fun k=>Bs (k+1),fun k v d hk=>h1 (k+1) v d (by simpa using hk),fun k b hb=>⟨h2 _ b hb,fun h0=>?_⟩,fun k k' b hb hb'=>?_⟩
 ·have:=h3 _ _ b hb h0;omega
 ·have:=h3 _ _ b hb hb';omega
theorem Held.cons {a:Value×D} {L:List (Value×D)} {B B0:Nat→Prop} (h1:a.1.oneCell'=true) (h2:Tr w a.2 a.1 B0) (h3:∀b,B0 b→B b) (h:Held w L (fun b=>B b∧¬B0 b)):Held w (a :: L) B:=by
 obtain ⟨Bs,g1,g2,g3⟩:=h
 refine ⟨fun k=>match k with | 0=>B0 | k+1=>Bs k,fun k v d hk=>?_,fun k b hb=>?_,fun k k' b hb hb'=>?_⟩
 ·match k with
  | 0=>simp at hk;subst hk;exact ⟨h1,h2⟩
  | k+1=>exact g1 k v d (by simpa using hk)
 ·match k with
  | 0=>exact h3 b hb
  | k+1=>exact (g2 k b hb).1
 ·match k,k' with
  | 0,0=>rfl
  | 0,k'+1=>exact absurd hb (g2 k' b hb').2
  | k+1,0=>exact absurd hb' (g2 k b hb).2
  | k+1,k'+1=>rw [g3 k k' b hb hb']
theorem Held.perm {L L':List (Value×D)} (hp:L.Perm L'):∀{B:Nat→Prop},Held w L B→Held w L' B:=by
 induction hp with
 | nil=>exact fun h=>h
 | cons a _ ih=>exact fun h=>by obtain ⟨B0,h1,h2,h3,h4⟩:=h.uncons;exact .cons h1 h2 h3 (ih h4)
 | swap a b l =>
  intro B h
  obtain ⟨B0,h1,h2,h3,h4⟩:=h.uncons
  obtain ⟨B1,g1,g2,g3,g4⟩:=h4.uncons
  exact .cons g1 g2 (fun b hb=>(g3 b hb).1) (.cons h1 h2 (fun b hb=>⟨h3 b hb,fun h=>(g3 b h).2 hb⟩) (g4.mono fun b hb=>⟨⟨hb.1.1,hb.2⟩,hb.1.2⟩))
 | trans _ _ ih1 ih2=>exact fun h=>ih2 (ih1 h)
theorem Held.sub {L L':List (Value×D)} (hs:L'.Sublist L):∀{B:Nat→Prop},Held w L B→Held w L' B:=by
 induction hs with
 | slnil=>exact fun h=>h
 | cons a _ ih=>exact fun h=>by obtain ⟨B0,_,_,_,h4⟩:=h.uncons;exact (ih h4).mono fun b hb=>hb.1
 | cons_cons a _ ih=>exact fun h=>by obtain ⟨B0,h1,h2,h3,h4⟩:=h.uncons;exact .cons h1 h2 h3 (ih h4)
theorem Held.rd {L:List (Value×D)} {B:Nat→Prop} (h:Held w L B) {v:Value} {d:D} (hm:(v,d)∈L) {S:Nat→Nat→Prop} (hS:∀b,B b→∀i,S b i):RdD w S d v∧v.oneCell'=true:=by
 obtain ⟨Bs,h1,h2,_⟩:=h
 obtain ⟨k,hk⟩:=List.getElem?_of_mem hm
 obtain ⟨k1,k2⟩:=h1 k v d hk
 exact ⟨k2.rdD (fun b hb=>hS b (h2 k b hb)),k1⟩
end
theorem RepH.pack {E:Env} {H:List O} (h:RepH E H) {L:List (Value×D)} {B:Nat→Prop} (hL:Held E.w L B) (hf:Free E H B):Le E (E.named 0 undef)∧RepH (E.named 0 undef) (H++[.crate L B]):=by
 have hl:Le E (E.named 0 undef):=by
  refine ⟨rfl,rfl,rfl,n_ _,by simp [Env.named],fun _ _=>rfl,fun r hr=>?_,fun _ _ hs=>hs,fun _ _ _=>rfl,fun _ _ _=>rfl,fun _ _ hs=>.inl hs,fun _ hp=>.inl hp,fun _ _ _ _ _ hh=>hh⟩
  simp only [Env.named]
  rw [if_neg (by omega)]
  exact ⟨n_ _,fun _=>rfl⟩
 refine ⟨hl,h.turn (r0:=H.length) (o0:=.crate L B) hl (by simp [Env.named,h.N]) (fun r hr=>?_) (fun o ho=>?_) (fun r hr hr'=>?_) (fun r o b hr ho hb=>⟨rfl,fun i hs=>hs⟩) (fun b hb=>hb) (fun b i hs=>h.Slt b i hs) ⟨fun b hb=>(hf b hb).2.2.1,hL⟩ (fun b hb=>?_)⟩
 ·by_cases hlt:r<H.length
  ·rw [b_ hlt]
  ·rw [l_ (by simp;omega),l_ (by omega)]
 ·simpa using ho.symm
 ·simp only [Env.named];rw [if_neg (by omega)]
 ·obtain ⟨k1,k2,k3,k4⟩:=hf b hb
  exact ⟨k1,k2,fun r o hr ho=>k4 r o ho⟩
theorem RepH.crate {E:Env} {H:List O} (h:RepH E H) {r q e:Nat} {fs:List (List UInt8×List (List D))} {B:Nat→Prop} (ho:H[r]? = some (.tree q 2 e (fs.map fun f=>[D.str f.1,.sl f.2]) B none)) :
  ∃ps:List ((List UInt8×List (List D))×Value),ps.map (·.1)=fs∧RepH E (H.set r (.buf q 2 e (ps.map rawF)))∧Held E.w (ps.map crF) B∧Free E (H.set r (.buf q 2 e (ps.map rawF))) B:=by
 have hrl:=(a_.1 ho).1
 obtain ⟨h1,h2,h3,h4,h5⟩:=h.obj r _ ho
 have go:∀ps:List ((List UInt8×List (List D))×Value),RepO E r (.buf q 2 e (ps.map rawF))→(∀b,B b→ownB (E.τ r).2≠some b)→RepH E (H.set r (.buf q 2 e (ps.map rawF)))∧Free E (H.set r (.buf q 2 e (ps.map rawF))) B:=fun ps hb hn=>by
  refine ⟨h.turn (r0:=r) (o0:=.buf q 2 e (ps.map rawF)) (Le.refl E) (by simp [h.N]) (fun r' hr'=>by rw [c_ (fun e=>hr' e.symm)]) (fun o' ho'=>by rw [d_ hrl] at ho';exact (Option.some.inj ho').symm) (fun _ _ _=>rfl) (fun r' o' b hr' ho' hb=>⟨rfl,fun i hs=>hs⟩) (fun _ hb=>hb) (fun b i hs=>h.Slt b i hs) hb (fun b hbb=>⟨h.pv r _ b ho (.inl hbb),h.lt r _ b ho (.inl hbb),fun r' o' hr' ho' hb2=>hr' (h.apart r' r o' _ b ho' ho hb2 (.inl hbb))⟩),fun b hbB=>⟨h.pv r _ b ho (.inr hbB),h.lt r _ b ho (.inr hbB),fun i=>h4 b hbB i,fun r' o' ho' hb'=>?_⟩⟩
  by_cases er:r=r'
  ·subst er
   rw [d_ hrl] at ho'
   cases ho'
   exact hn b hbB hb'
  ·rw [c_ er] at ho'
   exact er (h.apart r r' _ o' b ho ho' (.inr hbB) hb')
 rcases h5 with ⟨a,g1,g2⟩ | ⟨b,cap,arr,k1,k2,k3,k4,k5,k6,⟨val,Bs,m1,m2,m3⟩,k8,k9,_⟩
 ·have hf:fs=[]:=by simpa using g2
  obtain ⟨c1,c2⟩:=go [] ⟨h1,fun x hx=>by simp at hx,by decide,.inl ⟨a,g1,rfl⟩⟩ (fun b _ hb=>by rw [g1] at hb;cases a<;>simp [ownB] at hb)
  refine ⟨[],by rw [hf];rfl,c1,⟨fun _ _=>False,fun k v d hk=>by simp at hk,fun k b hb=>hb.elim,fun k k' b hb=>hb.elim⟩,c2⟩
 ·obtain ⟨ps,hps⟩:∃ps:List ((List UInt8×List (List D))×Value),ps=fs.mapIdx (fun i f=>(f,val i 1)):=⟨_,rfl⟩
  have hat:∀(i:Nat) (p:(List UInt8×List (List D))×Value),ps[i]? = some p→fs[i]? = some p.1∧p.2=val i 1:=fun i p hp=>by
   rw [hps,List.getElem?_mapIdx] at hp
   obtain ⟨f,hf,rfl⟩:=m_.1 hp
   exact ⟨hf,rfl⟩
  have hmf:ps.map (·.1)=fs:=by
   rw [hps]
   apply y_
   intro i
   rw [g_,List.getElem?_mapIdx]
   cases fs[i]?<;>rfl
  have hlen:ps.length=fs.length:=by rw [←hmf,i_]
  have hrow:∀(i:Nat) (f:List UInt8×List (List D)),fs[i]? = some f→(fs.map fun f=>[D.str f.1,D.sl f.2])[i]? = some [D.str f.1,.sl f.2]:=fun i f hf=>by rw [g_,hf];rfl
  rw [i_] at k1 k4
  obtain ⟨c1,c2⟩:=go ps ⟨h1,fun x hx=>by obtain ⟨p,_,rfl⟩:=K_.1 hx;rfl,by decide,.inr ⟨b,cap,arr,by rw [i_,hlen];exact k1,k2,fun e=>k3 (by rw [List.map_eq_nil_iff] at e ⊢;rw [←hmf,e];rfl),by rw [i_,hlen];exact k4,k5,k6,fun i j x c hx hc=>by
    rw [g_] at hx
    obtain ⟨p,hp,rfl⟩:=m_.1 hx
    obtain ⟨f1,f2⟩:=hat i p hp
    match j,hc with
    | 0,hc =>
     cases hc
     obtain ⟨n1,n2,n3⟩:=m1 i 0 _ (.str p.1.1) (hrow i _ f1) rfl
     exact ⟨_,n1,n2,tr_rdD rfl (n3 (fun h=>h))⟩
    | 1,hc =>
     cases hc
     obtain ⟨n1,n2,n3⟩:=m1 i 1 _ (.sl p.1.2) (hrow i _ f1) rfl
     exact ⟨_,n1,n2,by rw [f2];exact .raw _ n2⟩
    | j+2,hc=>simp [rawF] at hc,k9⟩⟩ (fun b' hB' hb'=>by
    rw [k1] at hb'
    simp only [ownB] at hb'
    split at hb'
    ·cases hb'
    ·cases hb';exact k8 hB')
  refine ⟨ps,hmf,c1,⟨fun k=>Bs k 1,fun k v d hk=>?_,fun k b hb=>m2 k 1 b hb,fun k k' b hb hb'=>(m3 k 1 k' 1 b hb hb').1⟩,c2⟩
  rw [g_] at hk
  obtain ⟨p,hp,e⟩:=m_.1 hk
  cases e
  obtain ⟨f1,f2⟩:=hat k p hp
  obtain ⟨n1,n2,n3⟩:=m1 k 1 _ (.sl p.1.2) (hrow k _ f1) rfl
  rw [f2]
  exact ⟨n2,n3 (fun h=>h)⟩
theorem RepH.uncrate {E:Env} {H:List O} (h:RepH E H) {r rc q e:Nat} {qs ys ps:List ((List UInt8×List (List D))×Value)} {B:Nat→Prop} (ho:H[r]? = some (.buf q 2 e (qs.map rawF))) (hc:H[rc]? = some (.crate (ps.map crF) B)) (hs:qs.Sublist ys) (hp:ys.Perm ps) :
  RepH E ((H.set rc .dead).set r (.tree q 2 e (qs.map treF) B none)):=by
 have hne:rc≠r:=fun e=>by subst e;rw [ho] at hc;cases hc
 have h1:=h.kill rc
 have ho1:(H.set rc .dead)[r]? = some (.buf q 2 e (qs.map rawF)):=by rw [c_ hne];exact ho
 have hrl:=(a_.1 ho1).1
 obtain ⟨c1,c2⟩:=h.obj rc _ hc
 have hfree:Free E (H.set rc .dead) B:=fun b hb=>by
  refine ⟨h.pv rc _ b hc hb,h.lt rc _ b hc hb,c1 b hb,fun r' o' ho' hb'=>?_⟩
  by_cases er:rc=r'
  ·subst er
   rw [d_ (a_.1 hc).1] at ho'
   cases ho';exact hb'
  ·rw [c_ er] at ho'
   exact er (h.apart rc r' _ o' b hc ho' hb hb')
 have hq:Held E.w (qs.map crF) B:=Held.sub (hs.map crF) (Held.perm (hp.map crF).symm c2)
 obtain ⟨Bq,b1,b2,b3⟩:=hq
 obtain ⟨g1,g2,g3,g4⟩:=h.obj r _ ho
 refine h1.turn (r0:=r) (o0:=.tree q 2 e (qs.map treF) B none) (Le.refl E) (by simp [h.N]) (fun r' hr'=>by rw [c_ (fun e=>hr' e.symm)]) (fun o' ho'=>by rw [d_ hrl] at ho';exact (Option.some.inj ho').symm) (fun _ _ _=>rfl) (fun r' o' b hr' ho' hb=>⟨rfl,fun i hs=>hs⟩) (fun _ hb=>hb) (fun b i hs=>h.Slt b i hs) ?_ (fun b hb=>?_)
 ·refine ⟨g1,fun x hx=>by obtain ⟨p,_,rfl⟩:=K_.1 hx;rfl,by decide,c1,?_⟩
  rcases g4 with ⟨a,g4,g5⟩ | ⟨b,cap,arr,k1,k2,k3,k4,k5,k6,k7,k8⟩
  ·have:qs=[]:=by simpa using g5
   subst this
   exact .inl ⟨a,g4,rfl⟩
  ·rw [i_] at k1 k4
   have hBb:¬B b:=fun hB=>by
    refine hne (h.apart rc r _ _ b hc ho hB ?_)
    have:0<qs.length:=w_.2 (fun e=>k3 (by rw [e];rfl))
    show ownB (E.τ r).2=some b
    rw [k1];simp [ownB];omega
   refine .inr ⟨b,cap,arr,by rw [i_];exact k1,k2,fun e=>k3 (by rw [List.map_eq_nil_iff] at e ⊢;exact e),by rw [i_];exact k4,k5,k6,⟨fun i j=>arr.getD (i * 2+j) undef,fun i j=>if j=1 then Bq i else fun _=>False,fun i j x c hx hc=>?_,fun i j b' hb'=>?_,fun i j i' j' b' hb1 hb2=>?_⟩,hBb,k8,trivial⟩
   ·rw [g_] at hx
    obtain ⟨p,hp,rfl⟩:=m_.1 hx
    have hpr:(qs.map rawF)[i]? = some (rawF p):=by rw [g_,hp];rfl
    match j,hc with
    | 0,hc =>
     cases hc
     obtain ⟨v,n1,n2,n3⟩:=k7 i 0 _ (.str p.1.1) hpr rfl
     have ev:arr.getD (i * 2+0) undef=v:=by rw [f_,n1];rfl
     dsimp only
     rw [ev,if_neg (by decide)]
     refine ⟨n1,n2,fun _=>?_⟩
     cases n3
     exact .str _
    | 1,hc =>
     cases hc
     obtain ⟨v,n1,n2,n3⟩:=k7 i 1 _ (.raw p.2) hpr rfl
     have ev:arr.getD (i * 2+1) undef=v:=by rw [f_,n1];rfl
     dsimp only
     rw [ev,if_pos rfl]
     refine ⟨n1,n2,fun _=>?_⟩
     cases n3
     exact (b1 i p.2 (.sl p.1.2) (by rw [g_,hp];rfl)).2
    | j+2,hc=>simp [treF] at hc
   ·dsimp only at hb'
    split at hb'
    ·exact b2 i b' hb'
    ·exact hb'.elim
   ·dsimp only at hb1 hb2
    split at hb1
    ·split at hb2
     ·exact ⟨b3 i i' b' hb1 hb2,by omega⟩
     ·exact hb2.elim
    ·exact hb1.elim
 ·rcases hb with hb | hb
  ·have hbb:(O.buf q 2 e (qs.map rawF)).block E r b:=hb
   exact ⟨h.pv r _ b ho hbb,h.lt r _ b ho hbb,fun r' o' hr' ho' hb2=>hr' (h1.apart r' r o' _ b ho' ho1 hb2 hbb)⟩
  ·obtain ⟨f1,f2,f3,f4⟩:=hfree b hb
   exact ⟨f1,f2,fun r' o' hr' ho'=>f4 r' o' ho'⟩
section
variable {P:Program} {f:FuncId} {n n0:Nat} {R:C→List O→Prop}
theorem AW.crate {k:List Item} {s:St} (r:Nat) {q e:Nat} {fs:List (List UInt8×List (List D))} {B:Nat→Prop} (ho:s.H[r]? = some (.tree q 2 e (fs.map fun f=>[D.str f.1,.sl f.2]) B none))
  (h:∀ps:List ((List UInt8×List (List D))×Value),ps.map (·.1)=fs→AW P f n n0 R k ⟨s.σ,s.H.set r (.buf q 2 e (ps.map rawF))++[.crate (ps.map crF) B]⟩):AW P f n n0 R k s:=by
 refine AW.recastE (fun h0 E a hst=>?_)
 obtain ⟨ps,h1,h2,h3,h4⟩:=hst.heap.crate ho
 obtain ⟨hl,hH⟩:=h2.pack h3 h4
 exact ⟨⟨s.σ,s.H.set r (.buf q 2 e (ps.map rawF))++[.crate (ps.map crF) B]⟩,E.named 0 undef,rfl,hl,⟨hst.size,hst.defers,hH,fun t=>(hst.slot t).le hl⟩,h ps h1⟩
theorem AW.uncrate {k:List Item} {s:St} (r rc:Nat) {q e:Nat} {qs ys ps:List ((List UInt8×List (List D))×Value)} {B:Nat→Prop} (ho:s.H[r]? = some (.buf q 2 e (qs.map rawF))) (hc:s.H[rc]? = some (.crate (ps.map crF) B)) (hs:qs.Sublist ys) (hp:ys.Perm ps)
  (h:AW P f n n0 R k ⟨s.σ,(s.H.set rc .dead).set r (.tree q 2 e (qs.map treF) B none)⟩):AW P f n n0 R k s:=
 AW.recast (s':=⟨s.σ,(s.H.set rc .dead).set r (.tree q 2 e (qs.map treF) B none)⟩) (fun h0 E a hst=>⟨E,rfl,Le.refl E,⟨hst.size,hst.defers,hst.heap.uncrate ho hc hs hp,hst.slot⟩,h⟩)
theorem Gives.raw2 {g:FuncId} {p1 p2:(List UInt8×List (List D))×Value} {d:D} (h:Gives P g [.agg (treF p1),.agg (treF p2)] (.d d)) (hf:d.flat=true) {H:List O} {r:Nat} {L:List (Value×D)} {B:Nat→Prop} (hr:H[r]? = some (.crate L B)) (m1:crF p1∈L) (m2:crF p2∈L) {K:C→List O→Prop} (hk:K (.d d) H):ACalls P g [.d (.agg (rawF p1)),.d (.agg (rawF p2))] H K:=by
 intro E vs hH hs ha
 obtain ⟨c1,c2⟩:=hH.obj r _ hr
 let E0:Env:={ w:=E.w,S:=fun b i=>E.S b i∨B b,N:=0,β:=E.β,τ:=E.τ,pv:=fun _=>False }
 have hE0:RepH E0 []:=⟨rfl,fun r o ho=>by simp at ho,fun r o b ho=>by simp at ho,fun r o b ho=>by simp at ho,fun r r' o o' b ho=>by simp at ho,fun b i hs=>by
  rcases hs with hs | hs
  ·exact hH.Slt b i hs
  ·exact hH.lt r _ b hr hs⟩
 have row:∀(p:(List UInt8×List (List D))×Value) (v:Value),crF p∈L→Rd E (.d (.agg (rawF p))) v→Rd E0 (.d (.agg (treF p))) v:=fun p v hm hv=>by
  cases hv with
  | d _ _ hd =>
   cases hd with
   | agg _ us hl h1 hr2 =>
    refine .d _ _ (.agg _ us hl h1 (fun i c u hc hu=>?_))
    match i,hc with
    | 0,hc =>
     cases hc
     have:=hr2 0 _ u rfl hu
     cases this
     exact .str _
    | 1,hc =>
     cases hc
     have:=hr2 1 _ u rfl hu
     cases this
     exact (Held.rd c2 hm (S:=fun b i=>E.S b i∨B b) (fun b hb i=>.inr hb)).1
    | i+2,hc=>simp [treF] at hc
 refine (h E0 vs hE0 hs (fun i c v hc hv=>?_)).mono ?_
 ·match i,hc with
  | 0,hc=>cases hc;exact row p1 v m1 (ha 0 _ v rfl hv)
  | 1,hc=>cases hc;exact row p2 v m2 (ha 1 _ v rfl hv)
  | i+2,hc=>simp at hc
 ·rintro ex w' ⟨v,c,E',H',rfl,rfl,h3,h4,h5,h6,rfl⟩
  have hl:Le E { E with w:=E'.w }:=⟨h4.os,h4.tape,h4.output,h4.size,n_ _,fun _ _=>rfl,fun _ _=>⟨n_ _,fun _=>rfl⟩,fun _ _ hs=>hs,fun b i hs=>h4.cell b i (.inl hs),fun b hb _=>h4.blk b hb (fun h=>h),fun _ _ hs=>.inl hs,fun _ hp=>.inl hp,fun b i a n hs hh=>h4.map b i a n (.inl hs) hh⟩
  refine ⟨v,.d d,{ E with w:=E'.w },H,rfl,rfl,hH.keep hl rfl (fun _ _=>rfl) (fun r o b ho hb=>⟨h4.blk b (hH.lt r o b ho hb) (fun h=>h),fun i hs=>hs⟩) (fun _ hp=>hp) (fun b i hs=>Nat.lt_of_lt_of_le (hH.Slt b i hs) h4.size),hl,?_,rfl,hk⟩
  cases h5 with
  | d _ _ hd=>exact .d _ _ (flat_any hf hd)
theorem Gives.raw2Q {g:FuncId} {p1 p2:(List UInt8×List (List D))×Value} {d:D} (h:Gives P g [.agg (treF p1),.agg (treF p2)] (.d d)) (hf:d.flat=true) {H:List O} {r:Nat} {L:List (Value×D)} {B:Nat→Prop} (hr:H[r]? = some (.crate L B)) (m1:crF p1∈L) (m2:crF p2∈L) {K:C→Prop} (hk:K (.d d)):CallQ P g [.d (.agg (rawF p1)),.d (.agg (rawF p2))] H K:=
 ⟨.d d,h.raw2 hf hr m1 m2 ⟨rfl,rfl⟩,hk⟩
end
theorem rdD_bufR {E:Env} {H:List O} (hE:RepH E H) {r rc q e:Nat} {qs:List ((List UInt8×List (List D))×Value)} {L:List (Value×D)} {B:Nat→Prop} (hr:H[r]? = some (.buf q 2 e (qs.map rawF))) (hc:H[rc]? = some (.crate L B)) (hm:∀p,p∈qs→crF p∈L):RdD E.still.w E.still.S (.sl (qs.map treF)) (E.τ r).2:=by
 have hobj:=hE.obj r _ hr
 obtain ⟨_,hL⟩:=hE.obj rc _ hc
 obtain ⟨h1,h3,hz,h5⟩:=hobj
 rcases h5 with ⟨ad,g5,g6⟩ | ⟨b,cap,arr,k1,k2,k3,k4,k5,k6,h4,k8⟩
 ·have:qs=[]:=by simpa using g6
  subst this
  rw [g5];exact .nil _ _
 ·rw [k1]
  rw [i_] at k1 k4
  have hne:qs≠[]:=fun e=>k3 (by rw [e];rfl)
  have hblk:(O.buf q 2 e (qs.map rawF)).block E r b:=by simp only [O.block,k1,ownB];rw [if_neg (by have:=w_.2 hne;omega)]
  have hlb:=hE.lt r _ _ hr hblk
  have hcell:∀(i:Nat) (p:(List UInt8×List (List D))×Value),qs[i]? = some p→(∃v,arr[i * 2+0]? = some v∧v.oneCell'=true∧RdD E.still.w E.still.S (.str p.1.1) v)∧(∃v,arr[i * 2+1]? = some v∧v.oneCell'=true∧RdD E.still.w E.still.S (.sl p.1.2) v):=fun i p hp=>by
   have hpr:(qs.map rawF)[i]? = some (rawF p):=by rw [g_,hp];rfl
   obtain ⟨v0,a1,a2,a3⟩:=h4 i 0 _ (.str p.1.1) hpr rfl
   obtain ⟨v1,b1,b2,b3⟩:=h4 i 1 _ (.raw p.2) hpr rfl
   refine ⟨⟨v0,a1,a2,rdD_still hE a3⟩,v1,b1,b2,?_⟩
   cases b3
   exact (Held.rd hL (hm p (s_ hp)) (S:=E.still.S) (fun b hb _=>hE.lt rc _ b hc hb)).1
  have hlen:(qs.map treF).length=(qs.map rawF).length:=by simp
  rw [←hlen]
  refine .sl b 0 cap 2 (qs.map treF) (fun i j=>arr.getD (i * 2+j) undef) (fun e=>hne (by simpa using e)) (by rw [i_];exact k4) k5 (fun x hx=>by obtain ⟨p,_,rfl⟩:=K_.1 hx;rfl) (fun i j hi hj=>?_) (fun i j x c hi hj=>?_)
  ·rw [i_] at hi
   obtain ⟨⟨v0,a1,a2,_⟩,v1,b1,b2,_⟩:=hcell i qs[i] (e_ hi)
   refine ⟨hlb,?_,?_⟩
   ·simp only [p_]
    show E.w.cell? _=_
    rw [cell_of_row _ _ _ _ _ _ k2,f_]
    rcases (show j=0∨j=1 by omega) with rfl | rfl
    ·rw [a1];rfl
    ·rw [b1];rfl
   ·rw [f_]
    rcases (show j=0∨j=1 by omega) with rfl | rfl
    ·rw [a1];exact a2
    ·rw [b1];exact b2
  ·rw [g_] at hi
   obtain ⟨p,hp,rfl⟩:=m_.1 hi
   obtain ⟨⟨v0,a1,a2,a3⟩,v1,b1,b2,b3⟩:=hcell i p hp
   rw [f_]
   match j,hj with
   | 0,hj=>cases hj;rw [a1];exact a3
   | 1,hj=>cases hj;rw [b1];exact b3
   | j+2,hj=>simp [treF] at hj
theorem rd_boxBufR {E:Env} {H:List O} (hE:RepH E H) {rb r rc q e:Nat} {qs:List ((List UInt8×List (List D))×Value)} {L:List (Value×D)} {B:Nat→Prop} (hb:H[rb]? = some (.box [.own r q])) (hr:H[r]? = some (.buf q 2 e (qs.map rawF))) (hc:H[rc]? = some (.crate L B)) (hm:∀p,p∈qs→crF p∈L) {v:Value} (hv:Rd E (.ptr rb 0) v):Rd E.still (.cptr [.sl (qs.map treF)]) v:=by
 cases hv with
 | ptr _ _ hN =>
  obtain ⟨arr,e',h1,h2,h3,h4⟩:=hE.obj rb _ hb
  have hlb:E.β rb<E.w.heap.size:=(j_.1 h1).1
  have hs:arr.size=1:=h2
  have hv0:arr[0]? = some (arr[0]'(by omega)):=G_ _
  obtain ⟨g1,g2⟩:=h3 0 _ _ rfl hv0
  have hq:=(hE.obj r _ hr).1
  refine .cptr _ 0 _ (fun _=>arr[0]'(by omega)) (fun j hj=>?_) (fun j c hc'=>?_)
  ·have hj0:j=0:=by simp at hj;exact hj
   subst hj0
   refine ⟨hlb,?_,g2⟩
   show E.w.cell? _=_
   rw [cell_of_row _ _ _ _ _ _ h1];exact hv0
  ·have hj0:j=0:=by have:=(a_.1 hc').1;simp at this;exact this
   subst hj0
   simp at hc'
   subst hc'
   generalize arr[0]'(by omega)=u at g1
   cases g1 with
   | own _ _ _ _ _ _ hvv=>rw [hvv hq.symm];exact rdD_bufR hE hr hc hm
theorem lessR {P:Program} {g:FuncId} {H:List O} {rb r rc q e:Nat} {qs:List ((List UInt8×List (List D))×Value)} {L:List (Value×D)} {B:Nat→Prop} (hb:H[rb]? = some (.box [.own r q])) (hne:rb≠r) (hrl:r<H.length) (hc:H[rc]? = some (.crate L B)) (hnc:rc≠r) (hm:∀p,p∈qs→crF p∈L) {i j:Int} {b:Bool} (X:List O)
  (h:ACalls P g [.d (.int .i64 i),.d (.int .i64 j),.cptr [.sl (qs.map treF)]] [] (fun c _=>c=.d (.bool b))) :
  ACalls P g [.d (.int .i64 i),.d (.int .i64 j),.ptr rb 0] (H.set r (.buf q 2 e (qs.map rawF))++X) (fun c H'=>c=.d (.bool b)∧H'=H.set r (.buf q 2 e (qs.map rawF))++X):=by
 have hbl:=(a_.1 hb).1
 have hcl:=(a_.1 hc).1
 refine ACalls.peek h rfl rfl (fun E hE k c c' v hk hk' hv=>?_)
 match k with
 | 0=>simp at hk hk';subst hk hk';cases hv with | d _ _ hd=>exact .d _ _ (rdD_still hE hd)
 | 1=>simp at hk hk';subst hk hk';cases hv with | d _ _ hd=>exact .d _ _ (rdD_still hE hd)
 | 2 =>
  simp at hk hk';subst hk hk'
  refine rd_boxBufR hE (rb:=rb) (r:=r) (rc:=rc) (q:=q) (e:=e) (B:=B) ?_ ?_ ?_ hm hv
  ·rw [b_ (by simpa using hbl),c_ (Ne.symm hne)];exact hb
  ·rw [b_ (by simpa using hrl),d_ hrl]
  ·rw [b_ (by simpa using hcl),c_ (Ne.symm hnc)];exact hc
 | k+3=>simp at hk
section
variable {P:Program} {n:Nat} {ops:Array Oper} {LA:Array Bool} {F:List (Nat×O)} {K:St→Prop}
def okQ (ops:Array Oper) (LA listed:Array Bool) (i:Nat):Bool:=LA.getD i false && (match ops[i]? with
 | some o=>quietB o.op && (allocOp o.op).isNone && (Region.ready .any ops listed).contains i && Region.free .any ops listed i && barOk .any ops LA i
 | none=>false)
def stQ (P:Program) (n:Nat) (ops:Array Oper) (F:List (Nat×O)) (A:St→Prop) (i:Nat) (σ:List (Nat×C)) (H:List O):Prop:=match ops[i]? with
 | none=>False
 | some o=>okDst n o=true∧gOkS ops σ o∧vcQE P F ⟨σ,H⟩ o.op (kD A ⟨σ,H⟩ o.dst)
def stE (P:Program) (n:Nat) (ops:Array Oper) (F:List (Nat×O)) (A:St→Prop) (i:Nat) (σ:List (Nat×C)) (H:List O):Prop:=match ops[i]? with
 | none=>False
 | some o=>okDst n o=true∧gOkS ops σ o∧allocOp o.op=none∧vcOpT P ⟨σ,H⟩ o (fun c H'=>holdsB F H'∧A (put ⟨σ,H'⟩ o.dst c))
def allE (P:Program) (n:Nat) (ops:Array Oper) (F:List (Nat×O)) (A:Nat→St→Prop):List Nat→List (Nat×C)→List O→Prop
 | [],_,_=>True
 | i :: r,σ,H=>stE P n ops F (A i) i σ H∧allE P n ops F A r σ H
def vcStep (P:Program) (n:Nat) (ops:Array Oper) (Q:List Nat→St→Prop) (i:Nat) (r:List Nat) (σ:List (Nat×C)) (H:List O):Prop:=match ops[i]? with
 | none=>False
 | some o=>okDst n o=true∧o.guard=none∧vcOpT P ⟨σ,H⟩ o (kR (Q r) ⟨σ,H⟩ o.dst)
def AnyN (P:Program) (n:Nat) (ops:Array Oper) (LA:Array Bool) (F:List (Nat×O)) (K:St→Prop) (f:Nat) (listed:Array Bool) (s:St):Prop:=
 ClosedL .any ops listed→holdsF F s.H→anyB P n .any ops LA F (fun σ H=>∃s',get s'.σ=σ∧s'.H=H∧K s') f listed (get s.σ) s.H
theorem AnyN.quiet {f:Nat} {listed:Array Bool} {i:Nat} {σ:List (Nat×C)} {H:List O} (hq:okQ ops LA listed i=true) (h:stQ P n ops F (AnyN P n ops LA F K f (listed.setIfInBounds i true)) i σ H):AnyN P n ops LA F K (f+1) listed ⟨σ,H⟩:=by
 intro hcl hF
 unfold okQ at hq
 unfold stQ at h
 rw [z_] at hq
 obtain ⟨hA,hq⟩:=hq
 cases ho:ops[i]? with
 | none=>simp only [ho] at h
 | some o =>
  simp only [ho] at h hq
  simp only [z_,F_] at hq
  obtain ⟨⟨⟨⟨_,hao⟩,b1⟩,b2⟩,b3⟩:=hq
  obtain ⟨hd,hg,h⟩:=h
  obtain ⟨c,h1,h2⟩:=PA_of (o:=o) hF h
  have hgp:get (put ⟨σ,H⟩ o.dst c).σ=upd (get σ) o.dst c∧(put ⟨σ,H⟩ o.dst c).H=H:=⟨get_put ⟨σ,H⟩ o.dst c,by cases o.dst<;>rfl⟩
  have h2':AnyN P n ops LA F K f (listed.setIfInBounds i true) (put ⟨σ,H⟩ o.dst c):=h2
  have:=h2' (hcl.set (by simpa using b1)) (by rw [hgp.2];exact hF)
  rw [hgp.1,hgp.2] at this
  exact anyB_first ho hd hA (barOk_spec b3) f listed (get σ) H hcl (Region.free_spec ho b2) (by simpa using b1) (gOkS_gOk hg) (by unfold QAns;simp only [hao];exact h1) this
theorem allE_mem {A:Nat→St→Prop} {σ:List (Nat×C)} {H:List O}:∀{L:List Nat},allE P n ops F A L σ H→∀i,i∈L→stE P n ops F (A i) i σ H
 | [],_,i,hi=>by cases hi
 | j :: r,h,i,hi=>by
  obtain ⟨h1,h2⟩:=h
  rcases List.mem_cons.1 hi with rfl | hi
  ·exact h1
  ·exact allE_mem h2 i hi
theorem AnyN.pick {f:Nat} {listed:Array Bool} {L:List Nat} {σ:List (Nat×C)} {H:List O} (hr:Region.ready .any ops listed=L) (hne:L≠[]) (h:allE P n ops F (fun i=>AnyN P n ops LA F K f (listed.setIfInBounds i true)) L σ H):AnyN P n ops LA F K (f+1) listed ⟨σ,H⟩:=by
 intro hcl hF
 refine ⟨hF,.inl ⟨by rw [hr];exact hne,fun i hi=>?_⟩⟩
 have hi':=hi
 rw [hr] at hi'
 have h:=allE_mem h i hi'
 unfold stE at h
 unfold bOp
 cases ho:ops[i]? with
 | none=>simp only [ho] at h
 | some o =>
  simp only [ho] at h ⊢
  obtain ⟨hd,hg,hao,h⟩:=h
  refine ⟨hd,gOkS_gOk hg,?_⟩
  simp only [hao]
  have hc:vcOpT P (stOf (get σ) H (tmpsOf o.op)) o (fun c H'=>holdsB F H'∧AnyN P n ops LA F K f (listed.setIfInBounds i true) (put ⟨σ,H'⟩ o.dst c)):=by
   refine vcOpT_congr (s:=⟨σ,H⟩) rfl (fun x hx=>?_) h
   cases x with
   | tmp t =>
    show get σ t=get (stOf (get σ) H (tmpsOf o.op)).σ t
    rw [get_stOf,if_pos]
    exact List.mem_filterMap.2 ⟨.tmp t,by simpa using hx,rfl⟩
   | _=>rfl
  refine (vcOpT_sound hc).mono (fun c H' ⟨k1,k2⟩=>?_)
  have hgp:get (put ⟨σ,H'⟩ o.dst c).σ=upd (get σ) o.dst c∧(put ⟨σ,H'⟩ o.dst c).H=H':=⟨get_put ⟨σ,H'⟩ o.dst c,by cases o.dst<;>rfl⟩
  have:=k2 (hcl.set hi) (by rw [hgp.2];exact holdsB_F k1)
  rw [hgp.1,hgp.2] at this
  exact this
def okDrawN (n:Nat) (ops:Array Oper) (LA:Array Bool) (N:Nat) (πB:List Nat):Bool:=
 okTail .any ops πB LA && decide (N+πB.length=ops.size) && ((List.range ops.size).all (fun i=>match ops[i]? with
  | some o=>(allocOp o.op).isNone && decide (o.dst≠some n)
  | none=>true) && decide (LA.size=ops.size))
theorem AW.drawN {f:FuncId} {n0:Nat} {R:C→List O→Prop} {id:Nat} {k:List Item} {s:St} (hm:P.follows .mixedOrders=true) (LA:Array Bool) (F:List (Nat×O)) (N:Nat) (πB:List Nat) (hB:okDrawN n ops LA N πB=true) (hF:holdsB F s.H)
  (h:∀(A:Nat→Array Bool→St→Prop) (Q:List Nat→St→Prop),(∀s',Q πB s'→A 0 LA s')→(∀f listed i σ H,okQ ops LA listed i=true→stQ P n ops F (A f (listed.setIfInBounds i true)) i σ H→A (f+1) listed ⟨σ,H⟩) →
   (∀f listed L σ H,Region.ready .any ops listed=L→L≠[]→allE P n ops F (fun i=>A f (listed.setIfInBounds i true)) L σ H→A (f+1) listed ⟨σ,H⟩) →
   (∀σ H,AW P f n n0 R k ⟨σ,H⟩→Q [] ⟨σ,H⟩)→(∀i r σ H,vcStep P n ops Q i r σ H→Q (i :: r) ⟨σ,H⟩)→A N (Array.replicate ops.size false) s) :
  AW P f n n0 R (.code (.region id ops true) :: k) s:=by
 refine AW.of_behind (k':=k) fun _ E a b cs hst=>?_
 have hst':RepSt E.drew n s a:=⟨hst.size,hst.defers,rep_drew hst.heap,fun t=>(hst.slot t).le (le_drew E)⟩
 simp only [okDrawN,z_,decide_eq_true_eq] at hB
 obtain ⟨⟨b2,b3⟩,b4⟩:=hB
 have hany:=h (AnyN P n ops LA F (fun s'=>vcTl P n ops (AW P f n n0 R k) πB s')) (vcTl P n ops (AW P f n n0 R k)) (fun s' h _ hF=>⟨hF,rfl,s',rfl,rfl,h⟩) (fun f listed i σ H h1 h2=>AnyN.quiet h1 h2) (fun f listed L σ H h1 h2 h3=>AnyN.pick h1 h2 h3) (fun σ H h=>h) (fun i r σ H h=>h)
  (fun k ok hk hl=>by have:=(j_.1 hk).1;simp [this] at hl) (holdsB_F hF)
 have hw:wpAny P .any ops (Behind n E (AW P f n n0 R k)) (N+πB.length) (Array.replicate ops.size false) a E.drew.w:=by
  simp only [r_,List.mem_range] at b4
  have hall:∀(i:Nat) (o:Oper),ops[i]? = some o→allocOp o.op=none∧o.dst≠some n:=fun i o ho=>by
   have:=b4.1 i (j_.1 ho).1
   simp only [ho,z_,decide_eq_true_eq,F_] at this
   exact this
  have hal:AllocAt P ops ops.size n 0 []:=by
   refine ⟨fun i o e' ho he=>?_,fun i o ho he=>⟨?_,(hall i o ho).2⟩,fun i o e' ho he=>?_⟩
   ·rw [(hall i o ho).1] at he;cases he
   ·have:=(j_.1 ho).1;omega
   ·rw [(hall i o ho).1] at he;cases he
  refine anyB_sound (E0:=E) hal (fun c a w hq=>by obtain ⟨h0,_⟩:=hq;cases h0) (fun σ H E1 a1 hq hst1 hl1 hg1=>?_) N _ (get s.σ) s.H E.drew a hany hst'.toF (le_drew E) (fun hh=>?_)
  ·obtain ⟨s',hs1,hs2,hk⟩:=hq
   subst hs1 hs2
   exact vcTl_sound πB LA s' E1 a1 b2 ⟨hst1.size,hst1.defers,hst1.heap,hst1.slot⟩ hl1 hk
  ·exfalso;simp at hh
 rw [b3] at hw
 obtain ⟨e,a',w',⟨rfl,E',s',rfl,h1,h2,h3⟩,harr⟩:=wp_region_any (id:=id) hm hw b k cs
 exact ⟨a',E',s',harr,h1,h2,h3⟩
end
attribute [go_sem] stQ.eq_1 stE.eq_1 allE.eq_1 allE.eq_2 vcStep.eq_1
end Go.Abs
