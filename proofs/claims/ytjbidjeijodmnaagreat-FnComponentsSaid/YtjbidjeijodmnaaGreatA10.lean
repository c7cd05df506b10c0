import Derived.Test.YtjbidjeijodmnaaGreatA9
import Derived.Test.YtjbidjeijodmnaaGreatP13
import Derived.Shelf.GgSortMore.Stable
import Derived.Lib.ReflectliteSwap
set_option linter.unusedSimpArgs false
set_option linter.unusedVariables false
namespace Go.Abs
structure Srtr {α:Type} (P:Program) (g:FuncId) (caps:List C) (sf:FuncId) (caps2:List C) (n m:Nat) (Hs:(Nat→α)→List O) (lt:α→α→Bool):Prop where
 gog:isGo P g=true
 hcaps:caps.all (C.refsLt1 m)=true
 hcaps2:caps2.all (C.refsLt1 m)=true
 len:∀f,(Hs f).length=m
 refs:∀f,(Hs f).all (O.refsLt m)=true
 less:∀(f:Nat→α) (X:List O) (i j:Nat),i<n→j<n→ACalls P g (.d (.int .i64 i) :: .d (.int .i64 j) :: caps) (Hs f++X) (fun c H'=>c=.d (.bool (lt (f i) (f j)))∧H'=Hs f++X)
 swap:∀(f:Nat→α) (X:List O) (i j:Nat),i<n→j<n→XCalls P sf (.d (.int .i64 i) :: .d (.int .i64 j) :: caps2) (Hs f++X) (fun c H'=>c=.tup []∧H'=Hs (swp i j f)++X)
theorem XCalls.mono {P:Program} {f:FuncId} {args:List C} {H:List O} {K K':C→List O→Prop} (h:XCalls P f args H K) (hk:∀c H',K c H'→K' c H'):XCalls P f args H K':=fun E vs h1 h2 h3=>by
 obtain ⟨v,E',c,H',k1,k2,k3,k4,k5⟩:=h E vs h1 h2 h3
 exact ⟨v,E',c,H',k1,k2,k3,k4,hk _ _ k5⟩
namespace Srtr
variable {α:Type} {P:Program} {g sf:FuncId} {cs ds:List C} {n m:Nat} {Hs:(Nat→α)→List O} {lt:α→α→Bool}
theorem at0 (h:Srtr P g cs sf ds n m Hs lt) (a:Nat→α) (X:List O):(Hs a++X)[m]? = X[0]?:=by
 rw [List.getElem?_append_right (by rw [h.len];omega),h.len,Nat.sub_self]
theorem atj (h:Srtr P g cs sf ds n m Hs lt) (a:Nat→α) (X:List O) (j:Nat):(Hs a++X)[m+j]? = X[j]?:=by
 rw [List.getElem?_append_right (by rw [h.len];omega),h.len,Nat.add_sub_cancel_left]
theorem set0 (h:Srtr P g cs sf ds n m Hs lt) (a:Nat→α) (X:List O) (o:O):(Hs a++X).set m o=Hs a++X.set 0 o:=by
 rw [List.set_append,if_neg (by rw [h.len];omega),h.len,Nat.sub_self]
theorem setj (h:Srtr P g cs sf ds n m Hs lt) (a:Nat→α) (X:List O) (j:Nat) (o:O):(Hs a++X).set (m+j) o=Hs a++X.set j o:=by
 rw [List.set_append,if_neg (by rw [h.len];omega),h.len,Nat.add_sub_cancel_left]
theorem tk (h:Srtr P g cs sf ds n m Hs lt) (a:Nat→α):(Hs a).take m=Hs a:=List.take_of_length_le (by rw [h.len];omega)
theorem tk0 (h:Srtr P g cs sf ds n m Hs lt) (a:Nat→α) (X:List O):(Hs a++X).take m=Hs a:=by
 rw [List.take_append_of_le_length (by rw [h.len];omega),h.tk]
theorem tkj (h:Srtr P g cs sf ds n m Hs lt) (a:Nat→α) (X:List O) (j:Nat):(Hs a++X).take (m+j)=Hs a++X.take j:=by
 rw [←h.len a,List.take_length_add_append]
theorem refsj (h:Srtr P g cs sf ds n m Hs lt) (a:Nat→α) (j:Nat):(Hs a).all (O.refsLt (m+j))=true:=by
 have:=h.refs a
 simp only [List.all_eq_true] at this ⊢
 exact fun o ho=>O.refsLt_mono (this o ho)
theorem capsj (h:Srtr P g cs sf ds n m Hs lt) (j:Nat):cs.all (C.refsLt1 (m+j))=true:=by
 have:=h.hcaps
 simp only [List.all_eq_true] at this ⊢
 exact fun o ho=>C.refsLt1_mono (this o ho)
theorem capsj2 (h:Srtr P g cs sf ds n m Hs lt) (j:Nat):ds.all (C.refsLt1 (m+j))=true:=by
 have:=h.hcaps2
 simp only [List.all_eq_true] at this ⊢
 exact fun o ho=>C.refsLt1_mono (this o ho)
theorem ext (h:Srtr P g cs sf ds n m Hs lt) (X:List O) (hX:X.all (O.refsLt (m+X.length))=true):Srtr P g cs sf ds n (m+X.length) (fun f=>Hs f++X) lt:=
 ⟨h.gog,h.capsj _,h.capsj2 _,fun f=>by rw [List.length_append,h.len],fun f=>by rw [List.all_append,h.refsj,hX];rfl,
  fun f Y i j hi hj=>by have:=h.less f (X++Y) i j hi hj;simpa only [List.append_assoc] using this,fun f Y i j hi hj=>by have:=h.swap f (X++Y) i j hi hj;simpa only [List.append_assoc] using this⟩
theorem sub (h:Srtr P g cs sf ds n m Hs lt) (k:Nat) (hk:k≤n):Srtr P g cs sf ds k m Hs lt:=
 ⟨h.gog,h.hcaps,h.hcaps2,h.len,h.refs,fun f X i j hi hj=>h.less f X i j (by omega) (by omega),fun f X i j hi hj=>h.swap f X i j (by omega) (by omega)⟩
end Srtr
end Go.Abs
set_option linter.unusedSimpArgs false
set_option linter.unusedVariables false
set_option maxHeartbeats 1000000
namespace Go.Abs
end Go.Abs
set_option linter.unusedSimpArgs false
set_option linter.unusedVariables false
set_option maxHeartbeats 1000000
namespace Go.Abs
end Go.Abs
set_option linter.unusedSimpArgs false
set_option linter.unusedVariables false
namespace Go.Abs
def Env.still (E:Env):Env:={ E with S:=fun b _=>b<E.w.heap.size,N:=0,pv:=fun _=>False }
theorem RepH.still (E:Env):RepH E.still []:=
 ⟨rfl,fun r o h=>by simp at h,fun r o b h=>by simp at h,fun r o b h=>by simp at h,fun r r' o o' b h=>by simp at h,fun b i h=>h⟩
def vcAppS (P:Program) (s:St) (t u:TypeId) (y:C) (K:C→List O→Prop):Prop:=
 match tSlice P t,norm1 s y with
 | some (e,z,by_),.d (.sl ys)=>(P.underlying u).isSome=true∧tIsSlice P u=true∧(∀y',y'∈ys→y'.length=z)∧ys.length≤maxLen∧ys.length * by_≤140737488355328∧K (.own s.H.length 1) (s.H++[.buf 1 z e ys])
 | _,_=>False
def vcOpS (P:Program) (s:St) (o:Oper) (K:C→List O→Prop):Prop:=
 match o.op with
 | .call c =>
  (match c.callee with
  | .builtin .append=>(match c.args.toList,c.argTypes.toList with
   | [x,y],[t,u]=>okOperand x=true∧okOperand y=true∧(match ev s x with
    | .nil0=>vcAppS P s t u (ev s y) K
    | _=>vcAppend P s t u (ev s x) (ev s y) K)
   | _,_=>False)
  | _=>vcEff P s o K)
 | _=>vcEff P s o K
def vcRS (P:Program) (n:Nat) (K:St→Prop):List Oper→St→Prop
 | [],⟨σ,H⟩=>K ⟨σ,H⟩
 | o :: rest,⟨σ,H⟩=>okDst n o=true∧o.guard=none∧vcOpS P ⟨σ,H⟩ o (kR (vcRS P n K rest) ⟨σ,H⟩ o.dst)
attribute [go_sem] vcAppS.eq_1 vcOpS.eq_def vcRS.eq_1 vcRS.eq_2
end Go.Abs
set_option linter.unusedSimpArgs false
set_option linter.unusedVariables false
namespace Go.Abs
theorem RepH.frzB {E:Env} {H:List O} (h:RepH E H) {r q z e:Nat} {xs:List (List D)} (hr:H[r]? = some (.buf q z e xs)) :
  ∃E',E'.w=E.w∧Le E E'∧RepH E' (H.set r .dead)∧E'.β=E.β∧RdD E'.w E'.S (.sl xs) (E.τ r).2∧(∀b i,E'.S b i→E.S b i∨(O.buf q z e xs).block E r b):=by
 obtain ⟨h1,h2,h3,h4⟩:=h.obj r _ hr
 rcases h4 with ⟨ad,h5,rfl⟩ | ⟨b0,cap,arr,h5,h6,h7,h8,h9,h10,h11,h12⟩
 ·refine ⟨E,rfl,Le.refl E,?_,rfl,by rw [h5];exact .nil _ _,fun b i hs=>.inl hs⟩
  refine h.turn (r0:=r) (o0:=.dead) (Le.refl E) (by simp [h.N]) (fun r' hr'=>?_) (fun o' ho'=>?_) (fun _ _ _=>rfl) (fun r' o' b hr' ho' hb=>⟨rfl,fun i hs=>hs⟩) (fun _ hb=>hb) (fun b i hs=>h.Slt b i hs) trivial (fun b hb=>by simp [O.block] at hb)
  ·rw [List.getElem?_set_ne (fun e=>hr' e.symm)]
  ·rw [List.getElem?_set_self (List.getElem?_eq_some_iff.1 hr).1] at ho'
   exact (Option.some.inj ho').symm
 ·have hx:=List.length_pos_iff.2 h7
  have hblk:(O.buf q z e xs).block E r b0:=by simp [O.block,h5,ownB];omega
  have hpv:=h.pv r _ _ hr hblk
  have hlb:=h.lt r _ _ hr hblk
  have hl:Le E (E.freezeBlk b0):=by
   refine ⟨rfl,rfl,rfl,Nat.le_refl _,Nat.le_refl _,fun _ _=>rfl,fun _ _=>⟨Nat.le_refl _,fun _=>rfl⟩,fun _ _ hs=>.inl hs,fun _ _ _=>rfl,fun _ _ _=>rfl,fun b i hs=>?_,fun _ hp=>.inl hp,fun _ _ _ _ _ hh=>hh⟩
   rcases hs with hs | rfl
   ·exact .inl hs
   ·exact .inr (.inr hpv)
  refine ⟨E.freezeBlk b0,rfl,hl,?_,rfl,?_,fun b i hs=>?_⟩
  ·refine h.turn (r0:=r) (o0:=.dead) hl (by simp [Env.freezeBlk,h.N]) (fun r' hr'=>?_) (fun o' ho'=>?_) (fun _ _ _=>rfl) (fun r' o' b hr' ho' hb=>⟨rfl,fun i hs=>?_⟩) (fun _ hb=>hb) (fun b i hs=>?_) trivial (fun b hb=>by simp [O.block] at hb)
   ·rw [List.getElem?_set_ne (fun e=>hr' e.symm)]
   ·rw [List.getElem?_set_self (List.getElem?_eq_some_iff.1 hr).1] at ho'
    exact (Option.some.inj ho').symm
   ·rcases hs with hs | rfl
    ·exact hs
    ·exact absurd (h.apart r' r o' _ _ ho' hr hb hblk) hr'
   ·rcases hs with hs | rfl
    ·exact h.Slt b i hs
    ·exact hlb
  ·rw [h5]
   refine .sl b0 0 cap z xs (fun i j=>arr.getD (i * z+j) undef) h7 h8 h9 h2 (fun i j hi hj=>?_) (fun i j x c hi hj=>?_)
   ·have hxz:=h2 xs[i] (List.getElem_mem _)
    obtain ⟨v,k2,k3,k4⟩:=h11 i j xs[i] (xs[i][j]'(by omega)) (List.getElem?_eq_getElem hi) (List.getElem?_eq_getElem _)
    refine ⟨.inr rfl,?_,?_⟩
    ·simp only [Nat.zero_add]
     show E.w.cell? _=_
     rw [cell_of_row _ _ _ _ _ _ h6,k2,Array.getD_eq_getD_getElem?,k2];rfl
    ·rw [Array.getD_eq_getD_getElem?,k2];exact k3
   ·obtain ⟨v,k2,k3,k4⟩:=h11 i j x c hi hj
    rw [Array.getD_eq_getD_getElem?,k2];exact k4.le hl
  ·rcases hs with hs | rfl
   ·exact .inl hs
   ·exact .inr hblk
theorem RepH.frzBox {E:Env} {H:List O} (h:RepH E H) {rb j r q z e:Nat} {cs:List C} {xs:List (List D)} (hb:H[rb]? = some (.box cs)) (hj:cs[j]? = some (.own r q)) (hr:H[r]? = some (.buf q z e xs)) (hne:rb≠r) :
  ∃E',E'.w=E.w∧Le E E'∧RepH E' ((H.set r .dead).set rb (.box (cs.set j (.d (.sl xs))))):=by
 obtain ⟨E',e1,hl,hH,eβ,hd,hS⟩:=h.frzB hr
 refine ⟨E',e1,hl,?_⟩
 have hb':(H.set r .dead)[rb]? = some (.box cs):=by rw [List.getElem?_set_ne (Ne.symm hne)];exact hb
 have hlen:rb<(H.set r .dead).length:=(List.getElem?_eq_some_iff.1 hb').1
 have at0:∀(r':Nat) (o:O),((H.set r .dead).set rb (.box (cs.set j (.d (.sl xs)))))[r']? = some o→(r'=rb∧o=.box (cs.set j (.d (.sl xs))))∨(H.set r .dead)[r']? = some o:=by
  intro r' o ho
  by_cases e:r'=rb
  ·subst e
   rw [List.getElem?_set_self hlen] at ho
   exact .inl ⟨rfl,(Option.some.inj ho).symm⟩
  ·rw [List.getElem?_set_ne (fun e'=>e e'.symm)] at ho
   exact .inr ho
 have old:∀(r':Nat) (o:O),((H.set r .dead).set rb (.box (cs.set j (.d (.sl xs)))))[r']? = some o→∃o',(H.set r .dead)[r']? = some o'∧o'.block E' r'=o.block E' r':=by
  intro r' o ho
  rcases at0 r' o ho with ⟨rfl,rfl⟩ | ho
  ·exact ⟨_,hb',rfl⟩
  ·exact ⟨o,ho,rfl⟩
 refine ⟨by rw [List.length_set];exact hH.N,fun r' o ho=>?_,fun r' o b ho hk=>?_,fun r' o b ho hk=>?_,fun r1 r2 o1 o2 b h1 h2 k1 k2=>?_,hH.Slt⟩
 ·rcases at0 r' o ho with ⟨rfl,rfl⟩ | ho
  ·obtain ⟨arr,ty,a1,a2,a3,a4⟩:=hH.obj _ _ hb'
   obtain ⟨arr2,ty2,c1,c2,c3,c4⟩:=h.obj _ _ hb
   rw [eβ,e1] at a1
   rw [c1] at a1
   cases a1
   refine ⟨arr,ty,by rw [eβ,e1];exact c1,by simpa using a2,fun i c v hc hv=>?_,a4⟩
   by_cases hij:i=j
   ·subst hij
    have hjl:=(List.getElem?_eq_some_iff.1 hj).1
    rw [List.getElem?_set_self hjl] at hc
    obtain ⟨k1,k2⟩:=c3 i _ v hj hv
    refine ⟨?_,k2⟩
    rw [←Option.some.inj hc]
    cases k1 with
    | own _ _ _ _ _ _ hvv=>rw [hvv (h.obj r _ hr).1.symm];exact .d _ _ hd
   ·rw [List.getElem?_set_ne (fun e'=>hij e'.symm)] at hc
    exact a3 i c v hc hv
  ·exact hH.obj r' o ho
 ·obtain ⟨o',h1,h2⟩:=old r' o ho
  exact hH.pv r' o' b h1 (by rw [h2];exact hk)
 ·obtain ⟨o',h1,h2⟩:=old r' o ho
  exact hH.lt r' o' b h1 (by rw [h2];exact hk)
 ·obtain ⟨o1',g1,e1⟩:=old r1 o1 h1
  obtain ⟨o2',g2,e2⟩:=old r2 o2 h2
  exact hH.apart r1 r2 o1' o2' b g1 g2 (by rw [e1];exact k1) (by rw [e2];exact k2)
theorem AW.frzBox {P:Program} {f:FuncId} {n n0:Nat} {R:C→List O→Prop} {k:List Item} {s:St} (rb j r:Nat) {q z e:Nat} {cs:List C} {xs:List (List D)} (hb:s.H[rb]? = some (.box cs)) (hj:cs[j]? = some (.own r q)) (hr:s.H[r]? = some (.buf q z e xs)) (hne:rb≠r)
  (h:AW P f n n0 R k ⟨s.σ,(s.H.set r .dead).set rb (.box (cs.set j (.d (.sl xs))))⟩):AW P f n n0 R k s:=by
 refine AW.recast (s':=⟨s.σ,(s.H.set r .dead).set rb (.box (cs.set j (.d (.sl xs))))⟩) (fun hn0 E a hst=>?_)
 obtain ⟨E',e1,hl,hH⟩:=hst.heap.frzBox hb hj hr hne
 exact ⟨E',e1,hl,⟨hst.size,hst.defers,hH,fun t=>(hst.slot t).le hl⟩,h⟩
end Go.Abs
set_option linter.unusedSimpArgs false
set_option linter.unusedVariables false
namespace Go.Abs
theorem effOk_ldBA {P:Program} {s:St} {o:Oper} {K:C→List O→Prop} {t:TypeId} {x:Operand} {r q q' z z' e i off n:Nat} {xs:List (List D)} (ho:o.op=.load t x) (hx:okOperand x=true) (hp:ev s x=.tptr r q z i off) (hr:s.H[r]? = some (.buf q' z' e xs))
  (hag:tAgg P t=some true) (hn:tSize P t=some n) (h:q=q'∧z=z'∧i<xs.length∧0<n∧off+n≤z∧idx xs i (fun x=>K (.d (.agg ((x.drop off).take n))) s.H)):EffOk P s o K:=by
 obtain ⟨rfl,rfl,hi,hn0,hoff,h⟩:=h
 intro E ns a hst
 have hpv:=rd_ev hst x hx
 rw [hp] at hpv
 generalize hg:a.eval x=pv at hpv
 obtain ⟨h1,h2,h3,h5⟩:=hst.heap.obj r _ hr
 have hxi:xs[i]? = some xs[i]:=List.getElem?_eq_getElem hi
 have hxl:xs[i].length=z:=h2 _ (List.getElem_mem _)
 have h:=h _ hxi
 rcases h5 with ⟨ad,_,rfl⟩ | ⟨b,cap,arr,k1,k2,k3,k4,k5,k6,k7,k8⟩
 ·simp at hi
 have hcell:∀j,j<n→∃c v,xs[i][off+j]? = some c∧arr[i * z+off+j]? = some v∧v.oneCell'=true∧RdD E.w E.S c v:=fun j hj=>by
  have hc:xs[i][off+j]? = some (xs[i][off+j]'(by omega)):=List.getElem?_eq_getElem _
  obtain ⟨v,n1,n2,n3⟩:=k7 i (off+j) _ _ hxi hc
  exact ⟨_,v,hc,by rw [Nat.add_assoc];exact n1,n2,n3⟩
 have hsz:i * z+off+n≤arr.size:=by
  obtain ⟨c,v,_,hv,_⟩:=hcell (n - 1) (by omega)
  have:=(Array.getElem?_eq_some_iff.1 hv).1
  omega
 cases hpv with
 | tptr _ _ _ _ _ b' hrN hq hv =>
  obtain ⟨n',cap',e1⟩:=hv h1.symm
  rw [k1] at e1
  cases e1
  have hld:=run_load_block (P:=P) (E:=E) k2 hsz
  have hrun:=loadVar_agg hag hn hld
  generalize hvs:((List.range n).map _).toArray=vs at hrun
  have hrun':(Instr.loadAt t (.pointer (some ⟨b,i * z+off,none⟩))).run P E.w=.ok (.agg vs) E.w:=by
   simp only [Instr.loadAt,Instr.sureAddr,Sem.run_bind,Sem.run_pure,Result.andThen_ok]
   exact hrun
  have hvat:∀(j:Nat) (v:Value),vs[j]? = some v→j<n∧arr[i * z+off+j]? = some v:=fun j v hv=>by
   rw [←hvs] at hv
   simp only [List.getElem?_toArray,List.getElem?_map] at hv
   by_cases hj:j<n
   ·rw [List.getElem?_range hj] at hv
    simp only [Option.map_some,Option.some.injEq] at hv
    obtain ⟨c,v',_,g1,_⟩:=hcell j hj
    refine ⟨hj,?_⟩
    rw [←hv,Array.getD_eq_getD_getElem?,g1];rfl
   ·rw [List.getElem?_eq_none (by simpa using hj)] at hv;cases hv
  unfold Oper.wp execOp
  simp only [ho,hg,Sem.run_bind,hrun',Result.andThen_ok,Sem.run_pure,Oper.upon]
  refine ⟨_,E,_,_,rfl,rfl,?_,hst.heap,Le.refl E,h⟩
  refine .d _ _ (.agg _ _ ?_ (fun j v hv=>?_) (fun j c v hc hv=>?_))
  ·rw [←hvs];simp;omega
  ·obtain ⟨hj,g⟩:=hvat j v hv
   obtain ⟨c,v',_,g1,g2,_⟩:=hcell j hj
   rw [g] at g1;cases g1;exact g2
  ·obtain ⟨hj,g⟩:=hvat j v hv
   obtain ⟨c',v',g0,g1,g2,g3⟩:=hcell j hj
   rw [g] at g1;cases g1
   rw [List.getElem?_take,if_pos hj,List.getElem?_drop,g0] at hc
   cases hc
   exact g3
def vcOpA (P:Program) (s:St) (o:Oper) (K:C→List O→Prop):Prop:=
 match o.op with
 | .load t x=>(match ev s x with
  | .tptr r q z i off=>(match s.H[r]? with
   | some (.buf q' z' e xs)=>(match tAgg P t,tSize P t with
    | some true,some n=>okOperand x=true∧q=q'∧z=z'∧i<xs.length∧0<n∧off+n≤z∧idx xs i (fun x=>K (.d (.agg ((x.drop off).take n))) s.H)
    | _,_=>vcOpT P s o K)
   | _=>vcOpT P s o K)
  | _=>vcOpT P s o K)
 | _=>vcOpT P s o K
theorem vcOpA_sound {P:Program} {s:St} {o:Oper} {K:C→List O→Prop} (h:vcOpA P s o K):EffOk P s o K:=by
 unfold vcOpA at h
 split at h
 ·rename_i t x ho
  split at h
  ·rename_i r q z i off hp
   split at h
   ·rename_i q' z' e xs hr
    split at h
    ·rename_i n hag hn
     exact effOk_ldBA ho h.1 hp hr hag hn h.2
    ·exact vcOpT_sound h
   ·exact vcOpT_sound h
  ·exact vcOpT_sound h
 ·exact vcOpT_sound h
def vcRA (P:Program) (n:Nat) (K:St→Prop):List Oper→St→Prop
 | [],⟨σ,H⟩=>K ⟨σ,H⟩
 | o :: rest,⟨σ,H⟩=>okDst n o=true∧o.guard=none∧vcOpA P ⟨σ,H⟩ o (kR (vcRA P n K rest) ⟨σ,H⟩ o.dst)
theorem vcRA_sound {P:Program} {n:Nat} {K:St→Prop} {ops:Array Oper} {E0:Env}:∀(os:List Oper) (l:List Nat) (s:St) (E:Env) (a:Act),l.map (ops[·]?)=os.map some→RepSt E n s a→Le E0 E→vcRA P n K os s →
  wpOps P ops (Behind n E0 K) l a E.w
 | [],l,s,E,a,hl,hst,hle,h=>by
  have:l=[]:=by simpa using hl
  subst this
  exact ⟨rfl,E,s,rfl,hst,hle,h⟩
 | o :: os,l,s,E,a,hl,hst,hle,h=>by
  cases l with
  | nil=>simp at hl
  | cons i l =>
   simp only [List.map_cons,List.cons.injEq] at hl
   obtain ⟨ho,hl⟩:=hl
   unfold vcRA at h
   obtain ⟨hd,hg,h⟩:=h
   have hdst:∀d,o.dst=some d→d<n:=fun d hd'=>by
    unfold okDst at hd
    rw [hd'] at hd
    simpa using hd
   rw [Go.wpOps_cons]
   refine wpOp_of (n:=n) ho hg ((vcOpA_sound h).run hst (fun v E' c H' h1 h2 h3 h4=>?_))
   exact vcRA_sound os l _ E' _ hl (hst.put h3 h2 hdst h1) (hle.trans h3) h4
theorem AW.regA {P:Program} {n:Nat} {f:FuncId} {n0:Nat} {R:C→List O→Prop} {id:Nat} {ops:Array Oper} {k:List Item} {s:St} (h:vcRA P n (AW P f n n0 R k) ops.toList s):AW P f n n0 R (.code (.region id ops false) :: k) s:=by
 refine AW.of_behind (k':=k) fun _ E a b cs hst=>?_
 have hw:=vcRA_sound (ops:=ops) ops.toList (List.range ops.size) s E a (by
  apply List.ext_getElem?
  intro j
  simp only [List.getElem?_map]
  by_cases hj:j<ops.size
  ·rw [List.getElem?_range hj]
   simp [hj]
  ·rw [List.getElem?_eq_none (by simpa using hj),List.getElem?_eq_none (by simpa using hj)]
   rfl) hst (Le.refl E) h
 obtain ⟨e,a',w',⟨rfl,E',s',rfl,h1,h2,h3⟩,harr⟩:=wp_region (id:=id) hw b k cs
 exact ⟨a',E',s',harr,h1,h2,h3⟩
attribute [go_sem] vcOpA.eq_def vcRA.eq_1 vcRA.eq_2
end Go.Abs
set_option linter.unusedSimpArgs false
set_option linter.unusedVariables false
namespace Go.Abs
section
variable {P:Program} {f:FuncId} {n n0:Nat} {R:C→List O→Prop}
theorem AW.adoptBB {k:List Item} {s:St} (rb j z e:Nat) {cs:List C} (hz:0<z) (hb:s.H[rb]? = some (.box cs)) (hj:cs[j]? = some .nil0)
  (h:AW P f n n0 R k ⟨s.σ,(s.H.set rb (.box (cs.set j (.own s.H.length 0))))++[.buf 0 z e []]⟩):AW P f n n0 R k s:=by
 refine AW.recast (s':=⟨s.σ,(s.H.set rb (.box (cs.set j (.own s.H.length 0))))++[.buf 0 z e []]⟩) (fun h0 E a hst=>?_)
 obtain ⟨arr,ty,h1,h2,h3,h4⟩:=hst.heap.obj rb _ hb
 have hjl:=(List.getElem?_eq_some_iff.1 hj).1
 have haj:arr[j]? = some (arr[j]'(by omega)):=Array.getElem?_eq_getElem _
 obtain ⟨k1,k2⟩:=h3 j _ _ hj haj
 obtain ⟨ad,had⟩:∃ad,arr[j]'(by omega)=.slice ad 0 0:=by
  generalize arr[j]'(by omega)=v at k1
  cases k1 with
  | nil0 a=>exact ⟨a,rfl⟩
 rw [had] at haj
 obtain ⟨hl,hH⟩:=rep_ghostB hst.heap ad e hz
 have hrl:rb<s.H.length:=(List.getElem?_eq_some_iff.1 hb).1
 have hb':(s.H++[O.buf 0 z e []])[rb]? = some (.box cs):=by rw [List.getElem?_append_left hrl];exact hb
 have hH2:=hH.recell (c1:=.own s.H.length 0) hb' hj (fun arr' ty' v hh hv hr=>by
  have e1:E.w.heap[E.β rb]? = some (.cells arr' ty' (0,0)):=hh
  rw [h1] at e1
  cases e1
  rw [haj] at hv
  cases hv
  have hτ:(E.ghost ad).τ s.H.length=(0,.slice ad 0 0):=by simp [Env.ghost,hst.heap.N]
  exact .own _ _ _ (by simp [Env.ghost,hst.heap.N]) rfl (by rw [hτ];exact Nat.le_refl _) (fun _=>by rw [hτ]))
 rw [List.set_append_left _ _ hrl] at hH2
 exact ⟨E.ghost ad,rfl,hl,⟨hst.size,hst.defers,hH2,fun t=>(hst.slot t).le hl⟩,h⟩
end
end Go.Abs
set_option linter.unusedSimpArgs false
set_option linter.unusedVariables false
namespace Go.Abs
section
variable {P:Program} {E:Env}
theorem buf_newA {H:List O} (h:RepH E H) {r0 q q' z e:Nat} {xs xs':List (List D)} (ho:H[r0]? = some (.buf q z e xs)) (hq:q<q') (hz:0<z)
  {L rest:List Value} (hL:Cells E.w E.S z xs' L) {cap:Nat} (hc:xs'.length≤cap) (hne:xs'≠[]) (hc0:0<cap) (hm:cap≤maxLen) (hs:(L++rest).length=cap * z)
  (w1:World) (hw1:w1=E.w.alloc (.cells (L++rest).toArray e)) :
  Le E (E.growNew w1 r0 q' (.slice (some ⟨E.w.heap.size,0,none⟩) xs'.length cap) 0) ∧
  RepH (E.growNew w1 r0 q' (.slice (some ⟨E.w.heap.size,0,none⟩) xs'.length cap) 0) (H.set r0 (.buf q' z e xs')):=by
 subst hw1
 have hq0:(E.τ r0).1=q:=(h.obj r0 _ ho).1
 have hN:r0<E.N:=by rw [h.N];exact (List.getElem?_eq_some_iff.1 ho).1
 have hl:Le E (E.growNew (E.w.alloc (.cells (L++rest).toArray e)) r0 q' (.slice (some ⟨E.w.heap.size,0,none⟩) xs'.length cap) 0):=by
  refine ⟨rfl,rfl,rfl,by simp [Env.growNew],Nat.le_refl _,fun _ _=>rfl,fun r hr=>?_,fun _ _ hs=>.inl hs,fun b i hs=>?_,fun b hb hp=>heap_alloc_old E.w _ hb,fun b i hs=>?_,fun b hp=>?_,fun b i arr n hs hh=>(heap_alloc_old E.w _ (h.Slt b i hs)).trans hh⟩
  ·simp only [Env.growNew]
   by_cases er:r=r0
   ·subst er
    rw [if_pos rfl]
    exact ⟨by simp only;omega,fun he=>by simp only at he;omega⟩
   ·rw [if_neg er];exact ⟨Nat.le_refl _,fun _=>rfl⟩
  ·exact World.cell?_alloc_lt E.w _ _ (h.Slt b i hs)
  ·rcases hs with hs | ⟨rfl,_⟩
   ·exact .inl hs
   ·exact .inr (.inl (Nat.le_refl _))
  ·rcases hp with hp | rfl
   ·exact .inl hp
   ·exact .inr (Nat.le_refl _)
 refine ⟨hl,h.turn (r0:=r0) (o0:=.buf q' z e xs') hl (by simp [Env.growNew,h.N]) (fun r hr=>?_) (fun o' ho'=>?_) (fun r hr hr'=>?_) (fun r o' b hr ho' hb=>?_) (fun b hb=>.inl hb) (fun b i hs=>?_) ?_ (fun b hb=>?_)⟩
 ·rw [List.getElem?_set_ne (fun e=>hr e.symm)]
 ·rw [List.getElem?_set_self (List.getElem?_eq_some_iff.1 ho).1] at ho'
  exact (Option.some.inj ho').symm
 ·simp only [Env.growNew];rw [if_neg hr]
 ·have hlt:=h.lt r o' b ho' hb
  refine ⟨heap_alloc_old E.w _ hlt,fun i hs=>?_⟩
  rcases hs with hs | ⟨rfl,_⟩
  ·exact hs
  ·exact absurd hlt (Nat.lt_irrefl _)
 ·simp only [Env.growNew,World.size_alloc]
  rcases hs with hs | ⟨rfl,_⟩
  ·have:=h.Slt b i hs;omega
  ·omega
 ·refine ⟨by simp [Env.growNew],hL.each,hz,.inr ⟨E.w.heap.size,cap,(L++rest).toArray,by simp [Env.growNew],heap_alloc_new E.w _,hne,hc,hm,by simpa using hs,fun i j x c hi hj=>?_,fun i hS=>?_⟩⟩
  ·obtain ⟨u,h1,h2,h3⟩:=hL.rd i j x c hi hj
   have hlt:=(List.getElem?_eq_some_iff.1 h1).1
   refine ⟨u,?_,h2,h3.le hl⟩
   rw [List.getElem?_toArray,List.getElem?_append_left hlt];exact h1
  ·rcases hS with hS | ⟨_,hlt⟩
   ·have:=h.Slt _ i hS;omega
   ·omega
 ·simp only [O.block,Env.growNew,if_pos,ownB] at hb
  rw [if_neg (by omega)] at hb
  simp only [Option.some.injEq] at hb
  subst hb
  refine ⟨.inr rfl,by simp [Env.growNew],fun r o' hr ho' hb=>?_⟩
  have:=h.lt r o' _ ho' hb
  omega
end
theorem effOk_buildB {P:Program} {s:St} {o:Oper} {K:C→List O→Prop} {t:TypeId} {n:Nat} {ps:Array (Nat×Operand)} (ho:o.op=.buildSlice t n ps) {e z by_:Nat} (ht:tSlice P t=some (e,z,by_))
  (h:n * z≤16777216∧ps.size=n∧0<n∧vcElems s z (fun l=>K (.own s.H.length 1) (s.H++[.buf 1 z e l])) ps.toList 0):EffOk P s o K:=by
 obtain ⟨hbig,hps,hn0,h⟩:=h
 obtain ⟨hte,hz,i,zv,hi,hzv,hzs,hiz,hib⟩:=of_tSlice ht
 obtain ⟨l,hk,hl,hlz,hidx,hall⟩:=elems_sound _ _ h
 intro E ns a hst
 have hln:l.length=n:=by rw [hl,Array.length_toList,hps]
 have hparts:(ps.map fun (i,x)=>(i,a.eval x)).toList=((ps.toList.map fun p=>a.eval p.2).zipIdx 0).map fun x=>(x.2,x.1):=by
  apply List.ext_getElem?
  intro j
  simp only [Array.toList_map,List.getElem?_map,List.getElem?_zipIdx]
  cases hp:ps.toList[j]? with
  | none=>simp
  | some p =>
   have hj:j<ps.toList.length:=(List.getElem?_eq_some_iff.1 hp).1
   have:(ps.toList.map (·.1))[j]? = some j:=by
    rw [hidx]
    have hj':j<ps.size:=by simpa using hj
    simp [List.getElem?_range hj']
   simp only [List.getElem?_map,hp,Option.map_some,Option.some.injEq] at this
   simp [this]
 have hbigN:¬(n * i.size > 2 ^ 24):=by rw [hiz];omega
 unfold Oper.wp execOp
 simp only [ho]
 have hnz:0<n * z:=Nat.mul_pos hn0 hz
 generalize hbase:(Array.range (n * z)).map (zv.cells[· % zv.cells.size]!)=base0
 have hbs:base0.size=n * z:=by subst hbase;simp
 have hvs:∀v,v∈(ps.toList.map fun p=>a.eval p.2)→v.cells.size=z:=by
  intro v hv
  obtain ⟨p,hp,rfl⟩:=List.mem_map.1 hv
  obtain ⟨j,hj⟩:=List.mem_iff_getElem?.1 hp
  have hjl:j<l.length:=by rw [hl];exact (List.getElem?_eq_some_iff.1 hj).1
  exact (hall E ns a hst j p _ hj (List.getElem?_eq_getElem hjl)).1
 obtain ⟨arr',h1,h2,h3,_⟩:=fill_elems hz (ps.toList.map fun p=>a.eval p.2) 0 base0 hvs (by simp only [List.length_map,Array.length_toList,hps,Nat.zero_add];omega)
 rw [←hparts] at h1
 have hrun:(Instr.buildSlice t n (ps.map fun (i,x)=>(i,a.eval x))).run P E.w=.ok (.slice (some ⟨E.w.heap.size,0,none⟩) n n) (E.w.alloc (.cells arr' e)):=by
  have hne:¬(n * i.size=0):=by rw [hiz];omega
  have hb2:Array.map (fun x=>zv.cells[x % zv.cells.size]!) (Array.range (n * i.size))=base0:=by rw [hiz];exact hbase
  have h1':Instr.fill (fun j=>some (j * i.size,i.size)) base0 (ps.map fun (i,x)=>(i,a.eval x)).toList=some arr':=by rw [hiz];exact h1
  unfold Instr.buildSlice
  simp only [Sem.run_bind,run_underlying hte,Result.andThen_ok,sizeOf,typeInfo,run_program,hi,Sem.run_pure,Sem.run_ite,if_neg hbigN,if_neg hne,zeroValue,hzv,hb2,h1',newRow,run_newObj]
  rfl
 simp only [Sem.run_bind,hrun,Result.andThen_ok,Sem.run_pure,Oper.upon]
 have hget:∀i j,i<n→j<z→∃p u,ps.toList[i]? = some p∧(a.eval p.2).cells[j]? = some u∧arr'[i * z+j]? = some u:=by
  intro i j hi hj
  have hp:ps.toList[i]? = some (ps.toList[i]'(by simp;omega)):=List.getElem?_eq_getElem _
  have hv:=hvs _ (List.mem_map_of_mem (List.getElem_mem (l:=ps.toList) (n:=i) (by simp;omega)))
  have hu:(a.eval (ps.toList[i]'(by simp;omega)).2).cells[j]? = some _:=Array.getElem?_eq_getElem (by omega)
  refine ⟨_,_,hp,hu,?_⟩
  have:=h3 i j _ (by rw [List.getElem?_map,hp];rfl) hj
  rw [Nat.zero_add] at this
  rw [this];exact hu
 have hsz:arr'.size=n * z:=by rw [h2,hbs]
 have hrd:∀(i j:Nat) (x:List D) (c:D),l[i]? = some x→x[j]? = some c→∃(u:Value),arr'.toList[i * z+j]? = some u∧u.oneCell'=true∧RdD E.w E.S c u:=fun i j x c hx hc=>by
  have hin:i<n:=by rw [←hln];exact (List.getElem?_eq_some_iff.1 hx).1
  have hjz:j<z:=by rw [←hlz x (List.mem_of_getElem? hx)];exact (List.getElem?_eq_some_iff.1 hc).1
  obtain ⟨p,u,h5,h6,h7⟩:=hget i j hin hjz
  have hh:=(hall E ns a hst i p x h5 hx).2 j c u hc h6
  exact ⟨u,by rw [Array.getElem?_toList];exact h7,hh.2,hh.1⟩
 have hL:Cells E.w E.S z l arr'.toList:=by
  refine ⟨by rw [Array.length_toList,hsz,hln],hlz,hrd,fun u hu=>?_⟩
  obtain ⟨k,hk2⟩:=List.mem_iff_getElem?.1 hu
  have hkl:k<n * z:=by rw [←hsz,←Array.length_toList];exact (List.getElem?_eq_some_iff.1 hk2).1
  have hd:k / z<n:=(Nat.div_lt_iff_lt_mul hz).2 hkl
  have hm:k % z<z:=Nat.mod_lt _ hz
  have hxl:=hlz (l[k / z]'(by omega)) (List.getElem_mem _)
  obtain ⟨v,g1,g2,_⟩:=hrd (k / z) (k % z) (l[k / z]'(by omega)) ((l[k / z]'(by omega))[k % z]'(by omega)) (List.getElem?_eq_getElem (by omega)) (List.getElem?_eq_getElem _)
  rw [Nat.div_add_mod' k z,hk2] at g1
  cases g1;exact g2
 obtain ⟨gl,gH⟩:=rep_ghostB hst.heap none e hz
 have hLg:Cells (E.ghost none).w (E.ghost none).S z l arr'.toList:=hL
 have hnm:n≤maxLen:=by
  have:n≤n * z:=Nat.le_mul_of_pos_right n hz
  simp only [maxLen];omega
 obtain ⟨k1,k2⟩:=buf_newA gH (r0:=s.H.length) (q:=0) (q':=1) (z:=z) (e:=e) (xs:=[]) (by simp) (by omega) hz hLg (rest:=[]) (cap:=n) (by omega) (by intro e0;rw [e0] at hln;simp at hln;omega) hn0 hnm (by simp [hsz]) _ rfl
 have hset:(s.H++[O.buf 0 z e []]).set s.H.length (.buf 1 z e l)=s.H++[.buf 1 z e l]:=by simp
 rw [hset] at k2
 have hNN:=hst.heap.N
 refine ⟨_,_,.own s.H.length 1,_,rfl,?_,?_,k2,gl.trans k1,hk⟩
 ·simp [Env.growNew,Env.ghost]
 ·have hτ:(((E.ghost none).growNew ((E.ghost none).w.alloc (.cells (arr'.toList++[]).toArray e)) s.H.length 1 (.slice (some ⟨(E.ghost none).w.heap.size,0,none⟩) l.length n) 0).τ s.H.length)=(1,.slice (some ⟨E.w.heap.size,0,none⟩) n n):=by simp [Env.growNew,Env.ghost,hln]
  exact .own _ _ _ (by simp [Env.growNew,Env.ghost,hNN]) rfl (by rw [hτ];exact Nat.le_refl _) (fun _=>by rw [hτ])
def vcOpU (P:Program) (s:St) (o:Oper) (K:C→List O→Prop):Prop:=
 match o.op with
 | .buildSlice t n ps=>(match tSlice P t with
  | some (e,z,_)=>n * z≤16777216∧ps.size=n∧0<n∧vcElems s z (fun l=>K (.own s.H.length 1) (s.H++[.buf 1 z e l])) ps.toList 0
  | none=>False)
 | _=>vcOpA P s o K
theorem vcOpU_sound {P:Program} {s:St} {o:Oper} {K:C→List O→Prop} (h:vcOpU P s o K):EffOk P s o K:=by
 unfold vcOpU at h
 split at h
 ·rename_i t n ps ho
  split at h
  ·rename_i e z by_ ht
   exact effOk_buildB ho ht h
  ·exact h.elim
 ·exact vcOpA_sound h
def vcRU (P:Program) (n:Nat) (K:St→Prop):List Oper→St→Prop
 | [],⟨σ,H⟩=>K ⟨σ,H⟩
 | o :: rest,⟨σ,H⟩=>okDst n o=true∧o.guard=none∧vcOpU P ⟨σ,H⟩ o (kR (vcRU P n K rest) ⟨σ,H⟩ o.dst)
theorem vcRU_sound {P:Program} {n:Nat} {K:St→Prop} {ops:Array Oper} {E0:Env}:∀(os:List Oper) (l:List Nat) (s:St) (E:Env) (a:Act),l.map (ops[·]?)=os.map some→RepSt E n s a→Le E0 E→vcRU P n K os s →
  wpOps P ops (Behind n E0 K) l a E.w
 | [],l,s,E,a,hl,hst,hle,h=>by
  have:l=[]:=by simpa using hl
  subst this
  exact ⟨rfl,E,s,rfl,hst,hle,h⟩
 | o :: os,l,s,E,a,hl,hst,hle,h=>by
  cases l with
  | nil=>simp at hl
  | cons i l =>
   simp only [List.map_cons,List.cons.injEq] at hl
   obtain ⟨ho,hl⟩:=hl
   unfold vcRU at h
   obtain ⟨hd,hg,h⟩:=h
   have hdst:∀d,o.dst=some d→d<n:=fun d hd'=>by
    unfold okDst at hd
    rw [hd'] at hd
    simpa using hd
   rw [Go.wpOps_cons]
   refine wpOp_of (n:=n) ho hg ((vcOpU_sound h).run hst (fun v E' c H' h1 h2 h3 h4=>?_))
   exact vcRU_sound os l _ E' _ hl (hst.put h3 h2 hdst h1) (hle.trans h3) h4
theorem AW.regU {P:Program} {n:Nat} {f:FuncId} {n0:Nat} {R:C→List O→Prop} {id:Nat} {ops:Array Oper} {k:List Item} {s:St} (h:vcRU P n (AW P f n n0 R k) ops.toList s):AW P f n n0 R (.code (.region id ops false) :: k) s:=by
 refine AW.of_behind (k':=k) fun _ E a b cs hst=>?_
 have hw:=vcRU_sound (ops:=ops) ops.toList (List.range ops.size) s E a (by
  apply List.ext_getElem?
  intro j
  simp only [List.getElem?_map]
  by_cases hj:j<ops.size
  ·rw [List.getElem?_range hj]
   simp [hj]
  ·rw [List.getElem?_eq_none (by simpa using hj),List.getElem?_eq_none (by simpa using hj)]
   rfl) hst (Le.refl E) h
 obtain ⟨e,a',w',⟨rfl,E',s',rfl,h1,h2,h3⟩,harr⟩:=wp_region (id:=id) hw b k cs
 exact ⟨a',E',s',harr,h1,h2,h3⟩
attribute [go_sem] vcOpU.eq_def vcRU.eq_1 vcRU.eq_2
end Go.Abs
set_option linter.unusedVariables false
set_option linter.unusedSimpArgs false
namespace Go.Abs
def vcRG (P:Program) (n:Nat) (ops:Array Oper) (K:St→Prop):List Oper→St→Prop
 | [],⟨σ,H⟩=>K ⟨σ,H⟩
 | o :: rest,⟨σ,H⟩=>okDst n o=true ∧
  (match o.guard with
  | none=>vcOpT P ⟨σ,H⟩ o (kR (vcRG P n ops K rest) ⟨σ,H⟩ o.dst)
  | some (j,want) =>
   match (ops[j]?).bind (·.dst) with
   | some t =>
    match get σ t with
    | .d (.bool b) =>
     br (b == want) (app (vcOpT P (put ⟨σ,H⟩ (some t) (.d (.bool want))) o) (kR (vcRG P n ops K rest) (put ⟨σ,H⟩ (some t) (.d (.bool want))) o.dst))
      (app (vcRG P n ops K rest) (put (put ⟨σ,H⟩ (some t) (.d (.bool (!want)))) o.dst (.tup [])))
    | .tup []=>vcRG P n ops K rest (put ⟨σ,H⟩ o.dst (.tup []))
    | _=>False
   | none=>False)
theorem vcRG_sound {P:Program} {n:Nat} {K:St→Prop} {ops:Array Oper} {E0:Env}:∀(os:List Oper) (l:List Nat) (s:St) (E:Env) (a:Act),l.map (ops[·]?)=os.map some→RepSt E n s a→Le E0 E→vcRG P n ops K os s →
  wpOps P ops (Behind n E0 K) l a E.w
 | [],l,s,E,a,hl,hst,hle,h=>by
  have:l=[]:=by simpa using hl
  subst this
  exact ⟨rfl,E,s,rfl,hst,hle,h⟩
 | o :: os,l,s,E,a,hl,hst,hle,h=>by
  cases l with
  | nil=>simp at hl
  | cons i l =>
   simp only [List.map_cons,List.cons.injEq] at hl
   obtain ⟨ho,hl⟩:=hl
   unfold vcRG at h
   obtain ⟨hd,h⟩:=h
   have hdst:∀d,o.dst=some d→d<n:=fun d hd'=>by
    unfold okDst at hd
    rw [hd'] at hd
    simpa using hd
   simp only [wpOps,ho]
   have run:∀(s:St),RepSt E n s a→vcOpT P s o (kR (vcRG P n ops K os) s o.dst)→o.wp P a E.w (wpOps P ops (Behind n E0 K) l) (Behind n E0 K):=fun s hst h =>
    (vcOpT_sound h).run hst (fun v E' c H' h1 h2 h3 h4=>vcRG_sound os l _ E' _ hl (hst.put h3 h2 hdst h1) (hle.trans h3) h4)
   cases hg:o.guard with
   | none =>
    simp only [hg] at h
    have hw:Region.wanted o (yielded ops a.tmps)=true:=by simp [Region.wanted,hg]
    rw [if_pos hw]
    exact .inl (run s hst h)
   | some gw =>
    obtain ⟨j,want⟩:=gw
    simp only [hg] at h
    split at h
    ·rename_i t ht
     split at h
     ·rename_i b hb
      obtain ⟨h1,h2⟩:=h
      rw [wanted_of hst hg ht hb]
      by_cases e:b=want
      ·rw [if_pos (by simpa using e)]
       exact .inl (run _ (hst.same (by rw [hb,e])) (h1 (by simpa using e)))
      ·rw [if_neg (by simpa using e)]
       have e':b=!want:=by cases b<;>cases want<;>simp_all
       have hst':=hst.same (t:=t) (c:=.d (.bool (!want))) (by rw [hb,e'])
       exact vcRG_sound os l _ E _ hl (hst'.put (Le.refl E) hst'.heap hdst (rd_undef E)) hle (h2 (by simpa using e))
     ·rename_i hb
      rw [wanted_skip hst hg ht hb,if_neg (by simp)]
      exact vcRG_sound os l _ E _ hl (hst.put (Le.refl E) hst.heap hdst (rd_undef E)) hle h
     ·exact h.elim
    ·exact h.elim
theorem AW.regG {P:Program} {n:Nat} {f:FuncId} {n0:Nat} {R:C→List O→Prop} {id:Nat} {ops:Array Oper} {k:List Item} {s:St} (h:vcRG P n ops (AW P f n n0 R k) ops.toList s):AW P f n n0 R (.code (.region id ops false) :: k) s:=by
 refine AW.of_behind (k':=k) fun _ E a b cs hst=>?_
 have hw:=vcRG_sound (ops:=ops) ops.toList (List.range ops.size) s E a (by
  apply List.ext_getElem?
  intro j
  simp only [List.getElem?_map]
  by_cases hj:j<ops.size
  ·rw [List.getElem?_range hj]
   simp [hj]
  ·rw [List.getElem?_eq_none (by simpa using hj),List.getElem?_eq_none (by simpa using hj)]
   rfl) hst (Le.refl E) h
 obtain ⟨e,a',w',⟨rfl,E',s',rfl,h1,h2,h3⟩,harr⟩:=wp_region (id:=id) hw b k cs
 exact ⟨a',E',s',harr,h1,h2,h3⟩
attribute [go_sem] vcRG.eq_1 vcRG.eq_2
end Go.Abs
