import Derived.Test.YtehgpkadkdekmaaGreatDoorJ8
import Derived.Lib.LaidTab
import Derived.Lib.ItoaNum
import Derived.Sort.Grow
import Derived.Deep.Draws
import Derived.Lib.Builder
import Derived.Lib.UnsafeStr
import Derived.WalkKit
open List renaming getElem?_eq_some_iff->a_,all_eq_true->b_,mem_of_getElem?->c_,getElem?_map->d_,getElem?_eq_none->g_,getElem?_set_ne->h_,getElem?_set_self->i_,getElem?_eq_getElem->j_,map_congr_left->l_,length_pos_iff->m_,getElem?_append_left->n_
open Option renaming map_eq_some_iff->e_
open Nat renaming le_refl->f_,lt_of_lt_of_le->k_
open Array renaming getElem?_eq_none->o_
set_option linter.unusedSimpArgs false
set_option linter.unusedVariables false
namespace Go.Abs
theorem aZ9 {E:Env} {H:List O} (h:RepH E H) (k:Nat) (os:Array Obj) :
  Le E { E with w:=Sort.grow (E.w.drewN k) os }/\RepH { E with w:=Sort.grow (E.w.drewN k) os } H:=by
 have hb:∀b,b<E.w.heap.size->(Sort.grow (E.w.drewN k) os).heap[b]? = E.w.heap[b]?:=fun b hb=>by
  show (E.w.heap++os)[b]? = _;exact Array.getElem?_append_left hb
 have hsz:E.w.heap.size<=(Sort.grow (E.w.drewN k) os).heap.size:=by
  show _<=(E.w.heap++os).size;simp
 have hl:Le E { E with w:=Sort.grow (E.w.drewN k) os }:=
  ⟨rfl,rfl,rfl,hsz,f_ _,fun _ _=>rfl,fun _ _=>⟨f_ _,fun _=>rfl⟩,fun _ _ hs=>hs,fun b i hs=>by
   show (Sort.grow (E.w.drewN k) os).cell? _=_;simp only[World.cell?,hb b (h.Slt b i hs)],fun b hlt _=>hb b hlt,fun _ _ hs=>.inl hs,fun _ hp=>.inl hp,fun b i _ _ hs hh=>(hb b (h.Slt b i hs)).trans hh⟩
 exact⟨hl,h.keep hl rfl (fun _ _=>rfl) (fun r o b ho hbk=>⟨hb b (h.lt r o b ho hbk),fun _ hs=>hs⟩) (fun _ hp=>hp) (fun b i hs=>k_ (h.Slt b i hs) hsz)⟩
theorem bW3 {P:Program} {w:World} {name:String} {g:Nat} {k:IntKind} {zs:List Int} (hg:P.globalNamed name=some g) (hz:zs≠[])
  (h:∀j,j<=(zs.map fun z=>Value.int k z).length->w.cell? ⟨g,j,none⟩=(zs.map fun z=>Value.int k z)[j]?):Lib.TabIs P w name k zs:=by
 have h0:=h 0 (Nat.zero_le _);unfold Lib.TabIs;simp only[World.var?,hg,Option.bind_some];generalize hl:(zs.map fun z=>Value.int k z)=l at h h0 |-;have hne:l≠[]:=by rw[<-hl];simpa using hz
 simp only[World.cell?] at h h0;cases hh:w.heap[g]? with
 | none=>rw[hh] at h0;cases l with | nil=>exact absurd rfl hne | cons=>simp at h0
 | some o =>
  rw[hh] at h h0;cases o with
  | cells cs e fz =>
   simp only at h h0 |-;congr 1;have hs:cs.size<=l.length:=by
    have:=h l.length (f_ _);simp at this;exact this
   apply Array.ext_getElem?;intro i;by_cases hi:i<=l.length
   ·have:=h i hi
    simp at this;simpa using this
   ·rw[o_ (by omega),List.getElem?_toArray,g_ (by omega)]
  | _=>cases l with | nil=>exact absurd rfl hne | cons=>simp at h0
theorem bi5 {P:Program} {f:FuncId} {name:String} {g:Nat} {k:IntKind} {zs:List Int} {tx:Int->List UInt8}
  (hs:∀(n:Int),-9223372036854775808<=n->n<=9223372036854775807->∀(w:World),Lib.TabIs P w name k zs ->
   Calls P f #[.int .i64 n] w fun e w'=>e=.returned (.string ⟨(tx n).toArray⟩)/\∃k os,w'=Sort.grow (w.drewN k) os)
  (hg:P.globalNamed name=some g) (hz:zs≠[]) (n:Int) (h0:-9223372036854775808<=n) (h1:n<=9223372036854775807) :
  ACalls P f [.d (.int .i64 n)] [.tab g (zs.map fun z=>Value.int k z)] (fun c H'=>c=.d (.str (tx n))/\H'=[.tab g (zs.map fun z=>Value.int k z)]):=by
 intro E vs hE hsz ha;obtain⟨v,rfl⟩:∃v,vs=#[v]:=by
  match vs,hsz with
  | ⟨[v]⟩,_=>exact⟨v,rfl⟩
 have hv:=ha 0 _ v rfl rfl;cases hv with
 | d _ _ hd =>
  cases hd;have ht:=hE.obj 0 _ rfl;refine(hs n h0 h1 E.w (bW3 hg hz (fun j hj=>(ht j hj).2))).mono ?_;rintro e w' ⟨rfl,k',os,rfl⟩;obtain⟨hl,hH⟩:=aZ9 hE k' os;exact⟨_,_,_,_,rfl,rfl,hH,hl,.d _ _ (.str _),rfl,rfl,rfl⟩
open Go.RowKit
theorem ACalls.boolT {P:Program} {f:FuncId} {args:List D} {g:Nat} {tv:List Value} {b:Bool} (h:ACalls P f (args.map .d) [.tab g tv] (fun c H'=>c=.d (.bool b)/\H'=[.tab g tv])) (w:World) (vs:Array Value)
  (hs:vs.size=args.length) (ha:∀(i:Nat) (d:D) (v:Value),args[i]? = some d->vs[i]? = some v->RdD w (fun b _=>b<w.heap.size) d v)
  (ht:∀j,w.cell? ⟨g,j,none⟩=tv[j]?) (hn:tv≠[]):Calls P f vs w fun e w'=>e=.returned (.bool b)/\Below w.heap.size w w':=by
 let E0:Env:={ w:=w,S:=fun b _=>b<w.heap.size,N:=1,β:=fun _=>0,τ:=fun _=>(0,.tuple #[]),pv:=fun _=>False }
 have hg:g<w.heap.size:=by
  have h0:=ht 0;rcases Nat.lt_or_ge g w.heap.size with k | k
  ·exact k
  ·exfalso
   simp only[World.cell?,o_ k] at h0;apply hn;exact List.eq_nil_of_length_eq_zero (by simpa using h0.symm)
 have at0:∀(r:Nat) (o:O),[O.tab g tv][r]? = some o->o=.tab g tv:=fun r o ho=>by
  match r with
  | 0=>simpa using ho.symm
  | _+1=>simp at ho
 have nb:∀(r:Nat) (o:O) (b:Nat),[O.tab g tv][r]? = some o->¬o.block E0 r b:=fun r o b ho hb=>by
  rw[at0 r o ho] at hb;exact hb
 have hE0:RepH E0 [.tab g tv]:=⟨rfl,fun r o ho=>by rw[at0 r o ho];exact fun j _=>⟨hg,ht j⟩,fun r o b ho hb=>(nb r o b ho hb).elim,fun r o b ho hb=>(nb r o b ho hb).elim,fun r r' o o' b ho _ hb=>(nb r o b ho hb).elim,fun b i h=>h⟩;refine(h E0 vs hE0 (by simpa using hs) (fun i c v hc hv=>?_)).mono ?_
 ·simp only[d_,e_] at hc
  obtain⟨d,hd,rfl⟩:=hc;exact .d _ _ (ha i d v hd hv)
 ·rintro e w' ⟨v,c,E',H',rfl,rfl,h3,h4,h5,h6,rfl,rfl⟩
  cases h5 with
  | d _ _ hd=>cases hd;exact⟨rfl,h4.os,h4.tape,h4.output,h4.size,fun k hk=>h4.blk k hk (fun hp=>hp)⟩
def bytesD (l:List UInt8):List (List D):=l.map fun b=>[.int .u8 b.toNat]
theorem y5 (l:List UInt8):(bytesD l).length=l.length:=by simp[bytesD]
structure Aside (w w':World) (v v':Value):Prop where
 os:w'.os=w.os
 tape:w'.tape=w.tape
 output:w'.output=w.output
 size:w.heap.size<=w'.heap.size
 blk:∀b,b<w.heap.size->ownB v≠some b->w'.heap[b]? = w.heap[b]?
 new:∀b,ownB v'=some b->ownB v=some b\/w.heap.size<=b
theorem aW9.block {w:World} {e:TypeId} {v:Value} {bs:List UInt8} (h:aW9 w e v bs) {b:Nat} (hb:ownB v=some b):b<w.heap.size:=by
 rcases h with ⟨a,rfl,_⟩ | ⟨g,cap,arr,rfl,h2,h3,h4,_⟩
 ·cases a<;>simp[ownB] at hb
 ·have:=m_.2 h3
  simp[ownB] at hb;obtain⟨_,rfl⟩:=hb;exact(Array.getElem?_eq_some_iff.1 h2).1
theorem aW9.same {w w':World} {e:TypeId} {v:Value} {bs:List UInt8} (h:aW9 w e v bs) (hw:∀b,ownB v=some b->w'.heap[b]? = w.heap[b]?):aW9 w' e v bs:=by
 rcases h with h | ⟨g,cap,arr,rfl,h2,h3,h4,h5⟩
 ·exact .inl h
 ·have:=m_.2 h3
  exact .inr ⟨g,cap,arr,rfl,by rw[hw g (by simp[ownB];omega)];exact h2,h3,h4,h5⟩
theorem bm0 {P:Program} {w:World} {t u ty e:TypeId} {by_:Nat} (ht:D6 P t=some (e,1,by_)) (hu:F9 P u=true) {v:Value} {bs l:List UInt8} (h:aW9 w e v bs)
  (hm:bs.length+l.length<=maxLen) (hby:(bs.length+l.length) * by_<=140737488355328) :
  ∃v' w',(Builtin.append_ #[t,u] ty #[v,.string ⟨l.toArray⟩]).run P w=.ok v' w'/\aW9 w' e v' (bs++l)/\Aside w w' v v':=by
 let E:Env:={ w:=w,S:=fun b _=>b<w.heap.size/\ownB v≠some b,N:=1,β:=fun _=>0,τ:=fun _=>(0,v),pv:=fun b=>ownB v=some b }
 have at0:∀(r:Nat) (o:O),[O.buf 0 1 e (bytesD bs)][r]? = some o->r=0/\o=.buf 0 1 e (bytesD bs):=fun r o ho=>by
  match r with
  | 0=>simp at ho;exact⟨rfl,ho.symm⟩
  | _+1=>simp at ho
 have hE:RepH E [.buf 0 1 e (bytesD bs)]:=by
  refine⟨rfl,fun r o ho=>?_,fun r o b ho hb=>?_,fun r o b ho hb=>?_,fun r r' o o' b ho ho' _ _=>by rw[(at0 r o ho).1,(at0 r' o' ho').1],fun b i hs=>hs.1⟩
  ·obtain⟨rfl,rfl⟩:=at0 r o ho
   refine⟨rfl,fun x hx=>by simp only[bytesD,List.mem_map] at hx;obtain⟨_,_,rfl⟩:=hx;rfl,by decide,?_⟩;rcases h with ⟨a,h1,rfl⟩ | ⟨g,cap,arr,h1,h2,h3,h4,h5,h6,h7⟩
   ·exact .inl ⟨a,h1,rfl⟩
   ·have:=m_.2 h3
    refine .inr ⟨g,cap,arr,by rw[y5];exact h1,h2,by simpa[bytesD] using h3,by rw[y5];exact h4,h5,by rw[h6,Nat.mul_one],fun i j x c hi hj=>?_,fun i hs=>hs.2 (by rw[h1];simp[ownB];omega)⟩;simp only[bytesD,d_,e_] at hi;obtain⟨y,hy,rfl⟩:=hi;have hj0:j=0:=by have:=(a_.1 hj).1;simp at this;exact this
    subst hj0;simp at hj;subst hj;exact⟨_,by simpa using h7 i y hy,rfl,.int _ _⟩
  ·obtain⟨rfl,rfl⟩:=at0 r o ho;exact hb
  ·obtain⟨rfl,rfl⟩:=at0 r o ho;exact h.block hb
 have hs:=bo9 (P:=P) (E:=E) (l:=l) hu;obtain⟨L,hL,hfx⟩:=hs.cells;obtain⟨v',E',k1,k2,k3,k4,k5⟩:=an4 (P:=P) (ty:=ty) (xs:=bytesD bs) (q:=0) (r0:=0) hE ht hs.plain rfl (x:=.string ⟨l.toArray⟩) hL hs.len hfx (by simpa[y5] using hm) (by simpa[y5] using hby);have hobj:=k3.obj 0 _ rfl;obtain⟨g1,g2,g3,g4⟩:=hobj;rw[k4] at g4;have happ:bytesD bs++l.map (fun b=>[D.int .u8 b.toNat])=bytesD (bs++l):=by simp[bytesD]
 rw[happ] at g4 k3;refine⟨v',E'.w,k1,?_,k2.os,k2.tape,k2.output,k2.size,fun b hb hne=>k2.blk b hb hne,fun b hb=>k2.newP b (k3.pv 0 _ b rfl (by simp only[O.block,k4];exact hb))⟩;rcases g4 with ⟨a,a1,a2⟩ | ⟨g,cap,arr,a1,a2,a3,a4,a5,a6,a7,a8⟩
 ·refine .inl ⟨a,a1,?_⟩
  have:=congrArg List.length a2;rw[y5] at this;exact List.length_eq_zero_iff.1 (by simpa using this)
 ·rw[y5] at a1 a4
  refine .inr ⟨g,cap,arr,a1,a2,fun e0=>a3 (by simp[bytesD,e0]),a4,a5,by simpa using a6,fun j x hx=>?_⟩;obtain⟨u,c1,_,c3⟩:=a7 j 0 [.int .u8 x.toNat] (.int .u8 x.toNat) (by simp only[bytesD,d_,hx];rfl) rfl;cases c3;simpa using c1
theorem aD8 {P:Program} {ops:Array Oper} {rest:List Oper} {o:Oper} {a:Act} {w:World} {Q:Exit->Act->World->Prop} (hgd:o.guard=none) (sl x:Operand) (t u:TypeId)
  (ho:o.op=.call { callee:=.builtin .append,args:=#[sl,x],argTypes:=#[t,u] }) {e:TypeId} {by_:Nat} (ht:D6 P t=some (e,1,by_)) (hu:F9 P u=true)
  {v:Value} {bs l:List UInt8} (hs:a.eval sl=v) (h:aW9 w e v bs) (hx:a.eval x=.string ⟨l.toArray⟩) (hm:bs.length+l.length<=maxLen) (hby:(bs.length+l.length) * by_<=140737488355328)
  (hk:∀v' w',aW9 w' e v' (bs++l)->Aside w w' v v'->wpList P ops Q rest (a.put o.dst v') w'):wpList P ops Q (o :: rest) a w:=by
 refine wpList_plain hgd fun K hK=>?_;obtain⟨v',w',hr,h2,h3⟩:=bm0 (ty:=o.type) ht hu h hm hby;unfold Oper.wp execOp;simp only[ho,resolve,invoke,builtin,Sem.run_bind,Sem.run_pure,Result.andThen_ok,List.map_toArray,List.map_cons,List.map_nil,hs,hx,hr];exact hK _ _ (hk v' w' h2 h3)
def Env.wrote (E:Env) (w':World) (r:Nat) (v:Value):Env:={ E with w:=w',τ:=fun x=>if x=r then ((E.τ r).1+1,v) else E.τ x,pv:=fun b=>E.pv b\/(E.w.heap.size<=b/\ownB v=some b) }
theorem O8 {P:Program} {f:FuncId} {T e:TypeId} {by_:Nat}
  (hs:∀(b:Nat) (p v:Value) (bs l:List UInt8) (w:World),(p=.pointer none\/p=.pointer (some ⟨b,0,none⟩))->w.heap[b]? = some (.cells #[p,v] T (0,0))->aW9 w e v bs->ownB v≠some b ->
   bs.length+l.length<=maxLen->(bs.length+l.length) * by_<=140737488355328 ->
   Calls P f #[.pointer (some ⟨b,0,none⟩),.string ⟨l.toArray⟩] w fun ex w'=>ex=.returned (.tuple #[.int .i64 l.length,.nilIface]) /\
    ∃v' w2,w'=w2.setCell ⟨b,1,none⟩ v'/\w2.heap[b]? = some (.cells #[.pointer (some ⟨b,0,none⟩),v] T (0,0))/\aW9 w2 e v' (bs++l) /\
     w2.os=w.os/\w2.tape=w.tape/\w2.output=w.output/\w.heap.size<=w2.heap.size/\(∀k,k<w.heap.size->k≠b->ownB v≠some k->w2.heap[k]? = w.heap[k]?) /\
     (∀k,ownB v'=some k->ownB v=some k\/w.heap.size<=k))
  {H:List O} {r:Nat} {bs l:List UInt8} (hr:H[r]? = some (.bld T e bs)) (hm:bs.length+l.length<=maxLen) (hby:(bs.length+l.length) * by_<=140737488355328)
  {K:C->List O->Prop} (hk:K (.tup [.d (.int .i64 l.length),.top]) (H.set r (.bld T e (bs++l)))) :
  ACalls P f [.ptr r 0,.d (.str l)] H K:=by
 intro E vs hE hsz ha;obtain⟨x,y,rfl⟩:∃x y,vs=#[x,y]:=by
  match vs,hsz with
  | ⟨[x,y]⟩,_=>exact⟨x,y,rfl⟩
 have hx:=ha 0 _ x rfl rfl;have hy:=ha 1 _ y rfl rfl;cases hx with
 | ptr _ _ hrN =>
 cases hy with
 | d _ _ hd =>
 cases hd;obtain⟨p,h1,h2,h3,h4,h5⟩:=hE.obj r _ hr;have hbb:=hE.lt r _ (E.β r) hr (.inl rfl);refine(hs (E.β r) p (E.τ r).2 bs l E.w h1 h2 h3 h4 hm hby).mono ?_;rintro ex w' ⟨rfl,v',w2,rfl,g1,g2,g3,g4,g5,g6,g7,g8⟩;have hb2:E.β r<w2.heap.size:=k_ hbb g6;have hself:(w2.setCell ⟨E.β r,1,none⟩ v').heap[E.β r]? = some (.cells #[.pointer (some ⟨E.β r,0,none⟩),v'] T (0,0)):=by rw[heap_setCell_same _ _ _ _ _ _ g1];rfl
 have hoth:∀k,k≠E.β r->(w2.setCell ⟨E.β r,1,none⟩ v').heap[k]? = w2.heap[k]?:=fun k hk=>heap_setCell_other _ _ _ _ hk;have hne:ownB v'≠some (E.β r):=fun e=>by
  rcases g8 _ e with h | h
  ·exact h4 h
  ·omega
 have hold:∀k,k<E.w.heap.size->k≠E.β r->ownB (E.τ r).2≠some k->(w2.setCell ⟨E.β r,1,none⟩ v').heap[k]? = E.w.heap[k]?:=fun k hk h6 h7=>(hoth k h6).trans (g7 k hk h6 h7);have hns:∀b i,E.S b i->b≠E.β r/\ownB (E.τ r).2≠some b:=fun b i hs=>⟨fun e=>h5 b (.inl e.symm) i hs,fun e=>h5 b (.inr e) i hs⟩;have hl:Le E (E.wrote (w2.setCell ⟨E.β r,1,none⟩ v') r v'):=by
  refine⟨g3,g4,g5,by simpa[Env.wrote] using g6,f_ _,fun _ _=>rfl,fun r' hr'=>?_,fun _ _ hs=>hs,fun b i hs=>?_,fun b hb hp=>?_,fun _ _ hs=>.inl hs,fun b hp=>?_,fun b i arr n hs hh=>?_⟩
  ·simp only[Env.wrote]
   by_cases e:r'=r
   ·subst e;rw[if_pos rfl];exact⟨Nat.le_succ _,fun h=>by simp at h⟩
   ·rw[if_neg e];exact⟨f_ _,fun _=>rfl⟩
  ·obtain⟨k1,k2⟩:=hns b i hs
   show (w2.setCell _ _).cell? _=_;simp only[World.cell?,hold b (hE.Slt b i hs) k1 k2]
  ·exact hold b hb (fun e=>hp (hE.pv r _ b hr (.inl e.symm))) (fun e=>hp (hE.pv r _ b hr (.inr e)))
  ·rcases hp with hp | hp
   ·exact .inl hp
   ·exact .inr hp.1
  ·obtain⟨k1,k2⟩:=hns b i hs
   exact(hold b (hE.Slt b i hs) k1 k2).trans hh
 have hset:∀r',r'≠r->(H.set r (.bld T e (bs++l)))[r']? = H[r']?:=fun r' hr'=>by rw[h_ (fun e=>hr' e.symm)]
 refine⟨_,_,E.wrote (w2.setCell ⟨E.β r,1,none⟩ v') r v',_,rfl,rfl,?_,hl,.tup _ _ rfl (fun i c v hc hv=>?_),by simp,hk⟩
 ·refine hE.turn (r0:=r) (o0:=.bld T e (bs++l)) hl (by simp[Env.wrote,hE.N]) hset (fun o' ho'=>?_) (fun r' hne _=>?_) (fun r' o' b hr' ho' hb=>⟨?_,fun i hs=>hs⟩) (fun b hb=>.inl hb) (fun b i hs=>k_ (hE.Slt b i hs) (by simpa[Env.wrote] using g6)) ⟨.pointer (some ⟨E.β r,0,none⟩),.inr rfl,?_,?_,?_,?_⟩ (fun b hb=>?_)
  ·rw[i_ (a_.1 hr).1] at ho'
   exact(Option.some.inj ho').symm
  ·simp only[Env.wrote];rw[if_neg hne]
  ·exact hold b (hE.lt r' o' b ho' hb) (fun e=>hr' (hE.apart r' r o' _ b ho' hr hb (.inl e.symm))) (fun e=>hr' (hE.apart r' r o' _ b ho' hr hb (.inr e)))
  ·simp only[Env.wrote,if_pos];exact hself
  ·simp only[Env.wrote,if_pos]
   exact g2.same fun k hk=>hoth k (fun e=>hne (by rw[<-e];exact hk))
  ·simp only[Env.wrote,if_pos];exact hne
  ·intro b hb i hs
   simp only[Env.wrote,if_pos] at hb;obtain⟨k1,k2⟩:=hns b i hs;rcases hb with hb | hb
   ·exact k1 hb.symm
   ·rcases g8 b hb with h | h
    ·exact k2 h
    ·have:=hE.Slt b i hs;omega
  ·simp only[O.block,Env.wrote,if_pos] at hb
   rcases hb with rfl | hb
   ·exact⟨.inl (hE.pv r _ _ hr (.inl rfl)),by simpa[Env.wrote] using hb2,fun r' o' hr' ho' hb'=>hr' (hE.apart r' r o' _ _ ho' hr hb' (.inl rfl))⟩
   ·have hlt2:b<w2.heap.size:=g2.block hb
    refine⟨?_,by simpa[Env.wrote] using hlt2,fun r' o' hr' ho' hb'=>?_⟩
    ·rcases g8 b hb with h | h
     ·exact .inl (hE.pv r _ _ hr (.inr h))
     ·exact .inr ⟨h,hb⟩
    ·rcases g8 b hb with h | h
     ·exact hr' (hE.apart r' r o' _ _ ho' hr hb' (.inr h))
     ·have:=hE.lt r' o' b ho' hb';omega
 ·match i,hc,hv with
  | 0,hc,hv=>simp at hc hv;subst hc;subst hv;exact .d _ _ (.int _ _)
  | 1,hc,hv=>simp at hc hv;subst hc;subst hv;exact .top _
theorem bl6 {P:Program} {f:FuncId} {T e:TypeId}
  (hs:∀(b g cap:Nat) (p:Value) (cur:Array Value) (l:List UInt8) (w:World),w.heap[b]? = some (.cells #[p,.slice (some ⟨g,0,none⟩) l.length cap] T (0,0))->w.heap[g]? = some (.cells cur e (0,0)) ->
   l≠[]->l.length<=cap->cap<=maxLen->cur.size=cap->(∀(j:Nat) (x:UInt8),l[j]? = some x->cur[j]? = some (.int .u8 x.toNat)) ->
   Calls P f #[.pointer (some ⟨b,0,none⟩)] w fun e w'=>e=.returned (.string ⟨l.toArray⟩)/\w'=w.drew.freeze ⟨g,0,none⟩ l.length)
  {H:List O} {r:Nat} {l:List UInt8} (hr:H[r]? = some (.bld T e l)) (h0:l≠[]) {K:C->List O->Prop} (hk:K (.d (.str l)) (H.set r .dead)) :
  ACalls P f [.ptr r 0] H K:=by
 intro E vs hE hsz ha;obtain⟨v,rfl⟩:∃v,vs=#[v]:=by
  match vs,hsz with
  | ⟨[v]⟩,_=>exact⟨v,rfl⟩
 have hv:=ha 0 _ v rfl rfl;cases hv with
 | ptr _ _ hrN =>
 obtain⟨p,h1,h2,h3,h4,h5⟩:=hE.obj r _ hr;rcases h3 with ⟨_,_,e0⟩ | ⟨b0,cap,arr,k1,k2,k3,k4,k5,k6,k7⟩
 ·exact absurd e0 h0
 ·have hlen:=m_.2 h0
  have hown:ownB (E.τ r).2=some b0:=by rw[k1];simp[ownB];omega
  have hpv:=hE.pv r _ b0 hr (.inr hown);rw[k1] at h2;refine(hs (E.β r) b0 cap p arr l E.w h2 k2 h0 k4 k5 k6 k7).mono ?_;rintro ex w' ⟨rfl,rfl⟩;have hold:∀b,b≠b0->(E.w.drew.freeze ⟨b0,0,none⟩ l.length).heap[b]? = E.w.heap[b]?:=fun b hb=>by
   unfold World.freeze;split
   ·rfl
   ·simp only[Array.getElem?_modify]
    rw[if_neg (fun e=>hb e.symm)];rfl
  have hsize:(E.w.drew.freeze ⟨b0,0,none⟩ l.length).heap.size=E.w.heap.size:=by
   unfold World.freeze;split
   ·rfl
   ·rw[Array.size_modify];rfl
  have hos:(E.w.drew.freeze ⟨b0,0,none⟩ l.length).os=E.w.os/\(E.w.drew.freeze ⟨b0,0,none⟩ l.length).tape=E.w.tape/\(E.w.drew.freeze ⟨b0,0,none⟩ l.length).output=E.w.output:=by
   unfold World.freeze;split<;>exact⟨rfl,rfl,rfl⟩
  have hns:∀i,¬E.S b0 i:=h5 b0 (.inr hown);have hl:Le E { E with w:=E.w.drew.freeze ⟨b0,0,none⟩ l.length }:=by
   refine⟨hos.1,hos.2.1,hos.2.2,Nat.le_of_eq hsize.symm,f_ _,fun _ _=>rfl,fun _ _=>⟨f_ _,fun _=>rfl⟩,fun _ _ hs=>hs,fun b i hs=>?_,fun b hb hp=>hold b (fun e=>hp (by subst e;exact hpv)),fun _ _ hs=>.inl hs,fun _ hp=>.inl hp,fun b i a n hs hh=>(hold b (fun e=>hns i (by subst e;exact hs))).trans hh⟩;show (E.w.drew.freeze _ _).cell? _=_;simp only[World.cell?,hold b (fun e=>hns i (by subst e;exact hs))]
  refine⟨_,_,{ E with w:=E.w.drew.freeze ⟨b0,0,none⟩ l.length },_,rfl,rfl,?_,hl,.d _ _ (.str _),by simp,hk⟩;refine hE.turn (r0:=r) (o0:=.dead) hl (by simp[hE.N]) (fun r' hr'=>?_) (fun o' ho'=>?_) (fun _ _ _=>rfl) (fun r' o' b hr' ho' hb=>⟨?_,fun i hs=>hs⟩) (fun _ hb=>hb) (fun b i hs=>k_ (hE.Slt b i hs) (Nat.le_of_eq hsize.symm)) trivial (fun b hb=>by simp[O.block] at hb)
  ·rw[h_ (fun e=>hr' e.symm)]
  ·rw[i_ (a_.1 hr).1] at ho'
   exact(Option.some.inj ho').symm
  ·exact hold b (fun e=>hr' (hE.apart r' r o' _ _ ho' hr hb (.inr (by rw[hown,e]))))
def Env.newBld (E:Env) (T:TypeId) (v:Value):Env:={ E.newObj (.cells #[.pointer none,v] T) with τ:=fun r=>if r=E.N then (0,v) else E.τ r }
theorem bf6 {E:Env} {H:List O} (h:RepH E H) (T e:TypeId) (ad:Option Addr):Le E (E.newBld T (.slice ad 0 0))/\RepH (E.newBld T (.slice ad 0 0)) (H++[.bld T e []]):=by
 have hl0:=L6 h (.cells #[.pointer none,.slice ad 0 0] T);have hl:Le E (E.newBld T (.slice ad 0 0)):=
  ⟨hl0.os,hl0.tape,hl0.output,hl0.size,hl0.N,hl0.β,fun r hr=>by simp only[Env.newBld];rw[if_neg (by omega)];exact⟨f_ _,fun _=>rfl⟩,fun b i hs=>hl0.S b i hs,hl0.cell,hl0.blk,hl0.newS,hl0.newP,hl0.map⟩
 have hβ:(E.newBld T (.slice ad 0 0)).β H.length=E.w.heap.size:=by simp[Env.newBld,Env.newObj,h.N]
 have hτ:(E.newBld T (.slice ad 0 0)).τ H.length=(0,.slice ad 0 0):=by simp[Env.newBld,h.N]
 have hnone:ownB (.slice ad 0 0)=none:=by cases ad<;>simp[ownB]
 refine⟨hl,h.turn (r0:=H.length) (o0:=.bld T e []) hl (by simp[Env.newBld,Env.newObj,h.N]) (fun r hr=>?_) (fun o ho=>?_) (fun r hr hr'=>?_) (fun r o b hr ho hb=>?_) (fun b hb=>.inl hb) (fun b i hs=>?_) ?_ (fun b hb=>?_)⟩
 ·by_cases hlt:r<H.length
  ·rw[n_ hlt]
  ·rw[g_ (by simp;omega),g_ (by omega)]
 ·simpa using ho.symm
 ·simp only[Env.newBld];rw[if_neg (by omega)]
 ·exact⟨heap_alloc_old E.w _ (h.lt r o b ho hb),fun i hs=>hs⟩
 ·have:=h.Slt b i hs
  simp only[Env.newBld,Env.newObj,World.size_alloc];omega
 ·refine⟨.pointer none,.inl rfl,?_,?_,?_,fun b hb i hs=>?_⟩
  ·rw[hβ,hτ];exact heap_alloc_new E.w _
  ·rw[hτ];exact .inl ⟨ad,rfl,rfl⟩
  ·rw[hτ,hnone];simp
  ·rw[hβ,hτ,hnone] at hb
   rcases hb with rfl | hb
   ·have:=h.Slt _ i hs;omega
   ·cases hb
 ·simp only[O.block,hβ,hτ,hnone] at hb
  rcases hb with rfl | hb
  ·refine⟨.inr rfl,by simp[Env.newBld,Env.newObj],fun r o hr ho hb=>?_⟩
   have:=h.lt r o _ ho hb;omega
  ·cases hb
theorem bx3 {P:Program} {s:St} {o:Oper} {K:C->List O->Prop} {T:TypeId} {x:Operand} (e:TypeId) (ho:o.op=.box T x) (hx:l5 x=true) (hc:ev s x=.agg [.nilp,.nil0])
  (hk:K (.ptr s.H.length 0) (s.H++[.bld T e []])):G6 P s o K:=by
 intro E n a hst;have hv:=o9 hst x hx;rw[hc] at hv;unfold Oper.wp execOp;simp only[ho,Instr.box,newVar,newRow,Sem.run_bind,run_newObj,Result.andThen_ok,Sem.run_pure,Oper.upon];generalize a.eval x=v at hv;cases hv with
 | agg _ vs hl h1 hr =>
  obtain⟨p,q,rfl⟩:∃p q,vs=#[p,q]:=by
   match vs,hl with
   | ⟨[p,q]⟩,_=>exact⟨p,q,rfl⟩
  have hp:=hr 0 _ p rfl rfl;have hq:=hr 1 _ q rfl rfl;cases hp;cases hq with
  | nil0 ad =>
   obtain⟨g1,g2⟩:=bf6 hst.heap T e ad;refine⟨_,E.newBld T (.slice ad 0 0),_,_,rfl,rfl,?_,g2,g1,hk⟩;have e1:(⟨E.w.heap.size,0,none⟩:Addr)=⟨(E.newBld T (.slice ad 0 0)).β s.H.length,0,none⟩:=by
    simp[Env.newBld,Env.newObj,hst.heap.N]
   rw[e1];exact .ptr _ _ (by simp[Env.newBld,Env.newObj,hst.heap.N])
section
variable {P:Program} {f:FuncId} {n n0:Nat} {R:C->List O->Prop}
theorem wpOps_cons {ops:Array Oper} {o:Oper} {i:Nat} {l:List Nat} {s:St} {E0 E:Env} {a:Act} {K:St->Prop} (hi:ops[i]? = some o) (hg:o.guard=none) {K1:C->List O->Prop} (he:G6 P s o K1)
  (hst:RepSt E n s a) (hd:∀d,o.dst=some d->d<n) (hle:Le E0 E)
  (hk:∀c H',K1 c H'->∀(E':Env) (a':Act),RepSt E' n (put { s with H:=H' } o.dst c) a'->Le E0 E'->wpOps P ops (Behind n E0 K) l a' E'.w):wpOps P ops (Behind n E0 K) (i :: l) a E.w:=by
 simp only[wpOps,hi];have hw:Region.wanted o (yielded ops a.tmps)=true:=by simp[Region.wanted,hg]
 rw[if_pos hw];refine .inl ?_;have hw:=he E n a hst;unfold Oper.wp at hw |-;generalize (execOp a.eval o).run P E.w=r at hw |-;have key:∀a' w',(∃v E' c H',a'=a.put o.dst v/\E'.w=w'/\Rd E' c v/\RepH E' H'/\Le E E'/\K1 c H')->wpOps P ops (Behind n E0 K) l a' w':=by
  rintro a' w' ⟨v,E',c,H',rfl,rfl,h1,h2,h3,h4⟩;exact hk c H' h4 E' _ (hst.put h3 h2 hd h1) (hle.trans h3)
 cases r with
 | ok x w' =>
  cases x<;>simp only[Oper.upon] at hw |-<;>first
   | exact key _ _ hw
   | exact Calls.mono hw (fun e w'' he=>by cases e<;>first | exact key _ _ he | exact he.elim | obtain⟨_,_,h⟩:=he;exact h.elim)
   | exact Rows.mono hw (fun _ _ he=>key _ _ he)
   | exact hw
 | halt x w'=>cases x<;>simp only[Oper.upon] at hw
theorem AW.newBld {id:Nat} {ops:Array Oper} {k:List Item} {s:St} {o1 o2:Oper} {os:List Oper} {T d1 d2:Nat} (e:TypeId) (hops:ops.toList=o1 :: o2 :: os) (hg1:o1.guard=none) (hg2:o2.guard=none)
  (hd1:o1.dst=some d1) (hn1:d1<n) (ho2:o2.op=.box T (.tmp d1)) (hd2:o2.dst=some d2) (hn2:d2<n) (h1:K8 P s o1 (fun c H'=>c=.agg [.nilp,.nil0]/\H'=s.H))
  (h:vcR P n ops (fun s'=>AW P f n n0 R k s') os ⟨(d2,.ptr s.H.length 0) :: (d1,.agg [.nilp,.nil0]) :: s.σ,s.H++[.bld T e []]⟩):AW P f n n0 R (.code (.region id ops false) :: k) s:=by
 refine AW.of_behind (k':=k) fun _ E a b cs hst=>?_;have hl:(List.range ops.size).map (ops[·]?)=(o1 :: o2 :: os).map some:=by
  rw[<-hops];apply List.ext_getElem?;intro j;simp only[d_];by_cases hj:j<ops.size
  ·rw[List.getElem?_range hj]
   simp[hj]
  ·rw[g_ (by simpa using hj),g_ (by simpa using hj)]
   rfl
 have hw:wpOps P ops (Behind n E fun s'=>AW P f n n0 R k s') (List.range ops.size) a E.w:=by
  generalize List.range ops.size=l at hl;match l,hl with
  | [],hl=>simp at hl
  | [_],hl=>simp at hl
  | i1 :: i2 :: l',hl =>
   simp only[List.map_cons,List.cons.injEq] at hl;obtain⟨e1,e2,e3⟩:=hl;refine wpOps_cons e1 hg1 (u7 h1) hst (fun d hd=>by rw[hd1] at hd;cases hd;exact hn1) (Le.refl E) ?_;rintro c H' ⟨rfl,rfl⟩ E1 a1 hst1 hl1;rw[hd1] at hst1;have hst1:RepSt E1 n ⟨(d1,.agg [.nilp,.nil0]) :: s.σ,s.H⟩ a1:=hst1;refine wpOps_cons e2 hg2 (bx3 (s:=⟨(d1,.agg [.nilp,.nil0]) :: s.σ,s.H⟩) (K:=fun c H'=>c=.ptr s.H.length 0/\H'=s.H++[.bld T e []]) e ho2 rfl (by simp[ev,get]) ⟨rfl,rfl⟩) hst1 (fun d hd=>by rw[hd2] at hd;cases hd;exact hn2) hl1 ?_;rintro c H' ⟨rfl,rfl⟩ E2 a2 hst2 hl2;rw[hd2] at hst2;exact X3 os l' _ E E2 a2 e3 hst2 hl2 h
 obtain⟨e,a',w',⟨rfl,E',s',rfl,h1,h2,h3⟩,harr⟩:=wp_region (id:=id) hw b k cs;exact⟨a',E',s',harr,h1,h2,h3⟩
end
theorem bM2 {w:World} {S:Nat->Nat->Prop} {d:D} {v:Value} {B:Nat->Prop} (hf:d.flat=true) (h:Tr w d v B):RdD w S d v:=by
 cases h with
 | int k n=>exact .int k n
 | bool b=>exact .bool b
 | str s=>exact .str s
 | nil a cap=>exact .nil a cap
 | sl b cap z e xs arr val Bs hne=>cases xs with | nil=>exact absurd rfl hne | cons=>simp[D.flat] at hf
 | any=>simp[D.flat] at hf
section
variable {P:Program} {f:FuncId} {n n0:Nat} {R:C->List O->Prop}
theorem AW.treeB {k:List Item} {s:St} (r:Nat) {q z e:Nat} {xs:List (List D)} {B:Nat->Prop} (hr:s.H[r]? = some (.tree q z e xs B none)) (hf:∀x,x∈xs->∀d,d∈x->d.flat=true)
  (h:AW P f n n0 R k ⟨s.σ,s.H.set r (.buf q z e xs)⟩):AW P f n n0 R k s:=by
 refine AW.recast (s':=⟨s.σ,s.H.set r (.buf q z e xs)⟩) (fun h0 E a hst=>?_);refine⟨E,rfl,Le.refl E,⟨hst.size,hst.defers,?_,hst.slot⟩,h⟩;obtain⟨h1,h2,h3,h3',h4⟩:=hst.heap.obj r _ hr;refine hst.heap.turn (r0:=r) (o0:=.buf q z e xs) (Le.refl _) (by rw[List.length_set];exact hst.heap.N) (fun r' hr'=>by rw[h_ (Ne.symm hr')]) (fun o' ho'=>?_) (fun _ _ _=>rfl) (fun r' o' b' hr' ho' hb=>⟨rfl,fun i hs=>hs⟩) (fun _ hb=>hb) (fun b i hs=>hst.heap.Slt b i hs) ?_ (fun b' hb=>?_)
 ·rw[i_ (a_.1 hr).1] at ho'
  exact(Option.some.inj ho').symm
 ·refine⟨h1,h2,h3,?_⟩
  rcases h4 with h4 | ⟨b,cap,arr,k1,k2,k3,k4,k5,k6,⟨val,Bs,k7,_,_⟩,_,k8,_⟩
  ·exact .inl h4
  ·refine .inr ⟨b,cap,arr,k1,k2,k3,k4,k5,k6,fun i j x c hi hj=>?_,k8⟩
   obtain⟨m1,m2,m3⟩:=k7 i j x c hi hj;exact⟨_,m1,m2,bM2 (hf x (c_ hi) c (c_ hj)) (m3 (by simp[cn4]))⟩
 ·have hb':(O.tree q z e xs B none).block E r b':=.inl hb
  exact⟨hst.heap.pv r _ b' hr hb',hst.heap.lt r _ b' hr hb',fun r' o' hr' ho' hb2=>hr' (hst.heap.apart r' r o' _ b' ho' hr hb2 hb')⟩
end
section
variable {P:Program} {n:Nat} {md:Region.Mode} {ops:Array Oper}
def bL2 (P:Program) (n:Nat) (ops:Array Oper) (K:St->Prop):List Nat->St->Prop
 | [],⟨σ,H⟩=>K ⟨σ,H⟩
 | i :: r,⟨σ,H⟩=>match ops[i]? with
  | none=>False
  | some o=>H9 n o=true/\o.guard=none/\be2 P ⟨σ,H⟩ o (kR (bL2 P n ops K r) ⟨σ,H⟩ o.dst)
end
attribute [go_sem] bL2.eq_1 bL2.eq_2
section
variable {P:Program} {f:FuncId} {n n0:Nat} {R:C->List O->Prop}
end
set_option maxHeartbeats 2000000
section
variable {P:Program}
def bV5 (P:Program) (s:St) (o:Oper) (K:C->List O->Prop):Prop:=
 match o.op with
 | .buildSlice t n ps =>
  (match ps.toList with
  | [(i,x)]=>i=0/\n=1/\l5 x=true/\(match D6 P t,ev s x with
   | some (e,z,_),.own N qn=>z=1/\(match s.H[N]? with
    | some (.tree q _ _ kid _ none)=>qn=q/\K (.own s.H.length 0) (s.H++[.tree 0 1 e [[.sl kid]] (fun _=>False) (some (0,0,N,qn))])
    | _=>False)
   | _,_=>False)
  | _=>False)
 | .call c =>
  (match c.callee with
  | .builtin .append=>(match c.args.toList,c.argTypes.toList with
   | [x,y],[t,u]=>l5 x=true/\l5 y=true/\q9 P u=true/\(match D6 P t,ev s x,ev s y with
    | some (e,z,by_),.own r q,.own M qm=>z=1/\r≠M/\(match s.H[r]?,s.H[M]? with
     | some (.tree q' z' e' xs _ none),some (.tree qm' zm _ [[.sl kid]] _ (some (0,0,N,qn)))=>q=q'/\qm=qm'/\z'=1/\zm=1/\e'=e/\r≠N/\(match s.H[N]? with
      | some (.tree qn' _ _ _ _ none)=>qn=qn'/\xs.length+1<=maxLen/\(xs.length+1) * by_<=140737488355328 /\
        ∀B,K (.own r (q+1)) ((s.H.set M .dead).set r (.tree (q+1) 1 e (xs++[[.sl kid]]) B (some (xs.length,0,N,qn))))
      | _=>False)
     | _,_=>False)
    | _,_,_=>False)
   | _,_=>False)
  | _=>K8 P s o K)
 | _=>K8 P s o K
def cg2 (P:Program) (n:Nat) (K:St->Prop):List Oper->St->Prop
 | [],⟨σ,H⟩=>K ⟨σ,H⟩
 | o :: rest,⟨σ,H⟩=>H9 n o=true/\o.guard=none/\bV5 P ⟨σ,H⟩ o (kR (cg2 P n K rest) ⟨σ,H⟩ o.dst)
attribute [go_sem] bV5.eq_def cg2.eq_1 cg2.eq_2
end
def as5:List D->List C->List O->(List C->List O->Prop)->Prop
 | [],cs,H,K=>K cs H
 | .sl kid :: r,cs,H,K=>(kid=[]->as5 r (cs++[.d (.sl [])]) H K)/\(kid≠[]->∀zk e' B,as5 r (cs++[.own H.length 0]) (H++[.tree 0 zk e' kid B none]) K)
 | .str s :: r,cs,H,K=>as5 r (cs++[.d (.str s)]) H K
 | .int k n :: r,cs,H,K=>as5 r (cs++[.d (.int k n)]) H K
 | .bool b :: r,cs,H,K=>as5 r (cs++[.d (.bool b)]) H K
 | _ :: _,_,_,_=>False
def bI2 (P:Program) (s:St) (t:TypeId) (r q z i off:Nat) (K:C->List O->Prop):Prop:=
 match s.H[r]?,D9 P t with
 | some (.tree q' z' e xs _ none),some n=>q=q'/\z=z'/\i<xs.length/\off+n<=z/\0<n /\
   idx xs i (fun x=>∀B',as5 ((x.drop off).take n) [] (s.H.set r (.tree q z e (xs.set i (x.take off++List.replicate n .any++x.drop (off+n))) B' none)) (fun cs H=>K (.agg cs) H))
 | _,_=>False
section
variable {P:Program}
def bL4 (P:Program) (s:St) (o:Oper) (K:C->List O->Prop):Prop:=
 match o.op with
 | .load t x =>
  (match ev s x with
  | .tptr r q z i off=>tAgg P t=some true/\l5 x=true/\bI2 P s t r q z i off K
  | _=>Q7 P s o K)
 | _=>Q7 P s o K
def cg3 (P:Program) (n:Nat) (K:St->Prop):List Oper->St->Prop
 | [],⟨σ,H⟩=>K ⟨σ,H⟩
 | o :: rest,⟨σ,H⟩=>H9 n o=true/\o.guard=none/\bL4 P ⟨σ,H⟩ o (kR (cg3 P n K rest) ⟨σ,H⟩ o.dst)
attribute [go_sem] as5.eq_1 as5.eq_2 as5.eq_3 as5.eq_4 as5.eq_5 bI2.eq_def bL4.eq_def cg3.eq_1 cg3.eq_2
end
def C.rn1 (f:Nat->Nat):C->C
 | .ptr r o=>.ptr (f r) o
 | .own r q=>.own (f r) q
 | .rsl r n=>.rsl (f r) n
 | .eptr r z i o=>.eptr (f r) z i o
 | .tptr r q z i o=>.tptr (f r) q z i o
 | .map r=>.map (f r)
 | c=>c
def C.rn2 (f:Nat->Nat):C->C
 | .fn g cs=>.fn g (cs.map (C.rn1 f))
 | .agg cs=>.agg (cs.map (C.rn1 f))
 | .xfn g cs=>.xfn g (cs.map (C.rn1 f))
 | c=>c.rn1 f
def C.rn (f:Nat->Nat):C->C
 | .tup cs=>.tup (cs.map (C.rn2 f))
 | c=>c.rn2 f
section
variable {E E':Env} {f:Nat->Nat} {m:Nat}
theorem Rd.rn1 (hw:E'.w=E.w) (hS:E'.S=E.S) (hβ:∀r,r<m->E'.β (f r)=E.β r) (hτ:∀r,r<m->E'.τ (f r)=E.τ r) (hN:∀r,r<m->f r<E'.N) {c:C} {v:Value} (hc:c.refsLt1 m=true) (h:Rd E c v):Rd E' (c.rn1 f) v:=by
 cases h with
 | d x _ hd=>exact .d _ _ (by rw[hw,hS];exact hd)
 | nil0 a=>exact .nil0 a
 | nilp=>exact .nilp
 | val v=>exact .val v
 | ptr r off _=>simp only[C.refsLt1,decide_eq_true_eq] at hc;rw[<-hβ r hc];exact Rd.ptr (E:=E') (f r) off (hN r hc)
 | own r q _ _ g1 g2 g3=>simp only[C.refsLt1,decide_eq_true_eq] at hc;exact Rd.own (E:=E') (f r) q v (hN r hc) g1 (by rw[hτ r hc];exact g2) (by rw[hτ r hc];exact g3)
 | rsl r n _=>simp only[C.refsLt1,decide_eq_true_eq] at hc;rw[<-hβ r hc];exact Rd.rsl (E:=E') (f r) n (hN r hc)
 | eptr r z i off _=>simp only[C.refsLt1,decide_eq_true_eq] at hc;rw[<-hβ r hc];exact Rd.eptr (E:=E') (f r) z i off (hN r hc)
 | tptr r q z i off b _ g2 g3=>simp only[C.refsLt1,decide_eq_true_eq] at hc;exact Rd.tptr (E:=E') (f r) q z i off b (hN r hc) (by rw[hτ r hc];exact g2) (by rw[hτ r hc];exact g3)
 | map r _=>simp only[C.refsLt1,decide_eq_true_eq] at hc;rw[<-hβ r hc];exact Rd.map (E:=E') (f r) (hN r hc)
 | _=>simp[C.refsLt1] at hc
theorem Rd.rn2 (hw:E'.w=E.w) (hS:E'.S=E.S) (hβ:∀r,r<m->E'.β (f r)=E.β r) (hτ:∀r,r<m->E'.τ (f r)=E.τ r) (hN:∀r,r<m->f r<E'.N) {c:C} {v:Value} (hc:c.refsLt m=true) (h:Rd E c v):Rd E' (c.rn2 f) v:=by
 by_cases h0:c.refsLt1 m=true
 ·have h1:=Rd.rn1 hw hS hβ hτ hN h0 h
  cases c<;>first | exact h1 | simp[C.refsLt1] at h0
 ·cases h with
  | fn g cs vs hl hr =>
   simp only[C.refsLt,b_] at hc;refine .fn _ _ _ (by simpa using hl) (fun i c v hi hv=>?_);simp only[d_,e_] at hi;obtain⟨c0,hc0,rfl⟩:=hi;exact Rd.rn1 hw hS hβ hτ hN (hc c0 (c_ hc0)) (hr i c0 v hc0 hv)
  | agg cs vs hl h1 hr =>
   simp only[C.refsLt,b_] at hc;refine .agg _ _ (by simpa using hl) h1 (fun i c v hi hv=>?_);simp only[d_,e_] at hi;obtain⟨c0,hc0,rfl⟩:=hi;exact Rd.rn1 hw hS hβ hτ hN (hc c0 (c_ hc0)) (hr i c0 v hc0 hv)
  | xfn g cs vs hl hr =>
   simp only[C.refsLt,b_] at hc;refine .xfn _ _ _ (by simpa using hl) (fun i c v hi hv=>?_);simp only[d_,e_] at hi;obtain⟨c0,hc0,rfl⟩:=hi;exact Rd.rn1 hw hS hβ hτ hN (hc c0 (c_ hc0)) (hr i c0 v hc0 hv)
  | _=>simp_all[C.refsLt,C.refsLt1]
theorem Rd.rn (hw:E'.w=E.w) (hS:E'.S=E.S) (hβ:∀r,r<m->E'.β (f r)=E.β r) (hτ:∀r,r<m->E'.τ (f r)=E.τ r) (hN:∀r,r<m->f r<E'.N) {c:C} {v:Value} (hc:c.refsLtT m=true) (h:Rd E c v):Rd E' (c.rn f) v:=by
 cases c with
 | tup cs =>
  cases h with
  | tup _ vs hl hr =>
   simp only[C.refsLtT,b_] at hc;refine .tup _ _ (by simpa using hl) (fun i c v hi hv=>?_);simp only[d_,e_] at hi;obtain⟨c0,hc0,rfl⟩:=hi;exact Rd.rn2 hw hS hβ hτ hN (hc c0 (c_ hc0)) (hr i c0 v hc0 hv)
 | _=>exact Rd.rn2 hw hS hβ hτ hN (by simpa[C.refsLtT] using hc) h
theorem Rd.un1 (hw:E.w=E'.w) (hS:E.S=E'.S) (hβ:∀r,r<m->E'.β (f r)=E.β r) (hτ:∀r,r<m->E'.τ (f r)=E.τ r) (hN:m<=E.N) {c:C} {v:Value} (hc:c.refsLt1 m=true) (h:Rd E' (c.rn1 f) v):Rd E c v:=by
 cases c with
 | d x=>cases h with | d _ _ hd=>exact .d _ _ (by rw[hw,hS];exact hd)
 | nil0=>cases h with | nil0 a=>exact .nil0 a
 | nilp=>cases h with | nilp=>exact .nilp
 | val v=>cases h with | val _=>exact .val v
 | ptr r off=>simp only[C.refsLt1,decide_eq_true_eq] at hc;cases h with | ptr _ _ _=>rw[hβ r hc];exact Rd.ptr (E:=E) r off (by omega)
 | own r q=>simp only[C.refsLt1,decide_eq_true_eq] at hc;cases h with | own _ _ _ _ g1 g2 g3=>exact Rd.own (E:=E) r q v (by omega) g1 (by rw[<-hτ r hc];exact g2) (by rw[<-hτ r hc];exact g3)
 | rsl r n=>simp only[C.refsLt1,decide_eq_true_eq] at hc;cases h with | rsl _ _ _=>rw[hβ r hc];exact Rd.rsl (E:=E) r n (by omega)
 | eptr r z i off=>simp only[C.refsLt1,decide_eq_true_eq] at hc;cases h with | eptr _ _ _ _ _=>rw[hβ r hc];exact Rd.eptr (E:=E) r z i off (by omega)
 | tptr r q z i off=>simp only[C.refsLt1,decide_eq_true_eq] at hc;cases h with | tptr _ _ _ _ _ b _ g2 g3=>exact Rd.tptr (E:=E) r q z i off b (by omega) (by rw[<-hτ r hc];exact g2) (by rw[<-hτ r hc];exact g3)
 | map r=>simp only[C.refsLt1,decide_eq_true_eq] at hc;cases h with | map _ _=>rw[hβ r hc];exact Rd.map (E:=E) r (by omega)
 | _=>simp[C.refsLt1] at hc
theorem Rd.un2 (hw:E.w=E'.w) (hS:E.S=E'.S) (hβ:∀r,r<m->E'.β (f r)=E.β r) (hτ:∀r,r<m->E'.τ (f r)=E.τ r) (hN:m<=E.N) {c:C} {v:Value} (hc:c.refsLt m=true) (h:Rd E' (c.rn2 f) v):Rd E c v:=by
 cases c with
 | fn g cs =>
  simp only[C.refsLt,b_] at hc;cases h with
  | fn _ _ vs hl hr =>
   refine .fn _ _ _ (by simpa using hl) (fun i c v hi hv=>?_);exact Rd.un1 hw hS hβ hτ hN (hc c (c_ hi)) (hr i (c.rn1 f) v (by rw[d_,hi];rfl) hv)
 | agg cs =>
  simp only[C.refsLt,b_] at hc;cases h with
  | agg _ vs hl h1 hr =>
   refine .agg _ _ (by simpa using hl) h1 (fun i c v hi hv=>?_);exact Rd.un1 hw hS hβ hτ hN (hc c (c_ hi)) (hr i (c.rn1 f) v (by rw[d_,hi];rfl) hv)
 | xfn g cs =>
  simp only[C.refsLt,b_] at hc;cases h with
  | xfn _ _ vs hl hr =>
   refine .xfn _ _ _ (by simpa using hl) (fun i c v hi hv=>?_);exact Rd.un1 hw hS hβ hτ hN (hc c (c_ hi)) (hr i (c.rn1 f) v (by rw[d_,hi];rfl) hv)
 | _=>exact Rd.un1 hw hS hβ hτ hN (by simpa[C.refsLt] using hc) h
theorem Rd.un (hw:E.w=E'.w) (hS:E.S=E'.S) (hβ:∀r,r<m->E'.β (f r)=E.β r) (hτ:∀r,r<m->E'.τ (f r)=E.τ r) (hN:m<=E.N) {c:C} {v:Value} (hc:c.refsLtT m=true) (h:Rd E' (c.rn f) v):Rd E c v:=by
 cases c with
 | tup cs =>
  simp only[C.refsLtT,b_] at hc;cases h with
  | tup _ vs hl hr =>
   refine .tup _ _ (by simpa using hl) (fun i c v hi hv=>?_);exact Rd.un2 hw hS hβ hτ hN (hc c (c_ hi)) (hr i (c.rn2 f) v (by rw[d_,hi];rfl) hv)
 | _=>exact Rd.un2 hw hS hβ hτ hN (by simpa[C.refsLtT] using hc) h
end
def O.rn (f:Nat->Nat):O->O
 | .box cs=>.box (cs.map (C.rn2 f))
 | o=>o
def O.moves (m:Nat):O->Bool
 | .box cs=>cs.all (C.refsLt m)
 | o=>o.still
theorem O.block_rn (f:Nat->Nat) (E:Env) (x:Nat) (o:O):(o.rn f).block E x=o.block E x:=by cases o<;>rfl
theorem J4.un {E E':Env} {f:Nat->Nat} {m r:Nat} (hw:E.w=E'.w) (hS:E.S=E'.S) (hβ:∀r,r<m->E'.β (f r)=E.β r) (hτ:∀r,r<m->E'.τ (f r)=E.τ r) (hN:m<=E.N) (hr:r<m) {o:O} (ho:o.moves m=true) (h:J4 E' (f r) (o.rn f)):J4 E r o:=by
 cases o with
 | box cs =>
  obtain⟨arr,e,h1,h2,h3,h4⟩:=h;simp only[O.moves,b_] at ho;refine⟨arr,e,by rw[hw,<-hβ r hr];exact h1,by simpa using h2,fun i c v hc hv=>?_,by rw[hS,<-hβ r hr];exact h4⟩;have h5:=h3 i (c.rn2 f) v (by rw[d_,hc];rfl) hv;exact⟨Rd.un2 hw hS hβ hτ hN (ho c (c_ hc)) h5.1,h5.2⟩
 | _=>exact J4.ren hw.symm hS.symm (hβ r hr) (hτ r hr) ho h
theorem J4.rn {E E':Env} {f:Nat->Nat} {m r:Nat} (hw:E'.w=E.w) (hS:E'.S=E.S) (hβ:∀r,r<m->E'.β (f r)=E.β r) (hτ:∀r,r<m->E'.τ (f r)=E.τ r) (hN:∀r,r<m->f r<E'.N) (hr:r<m) {o:O} (ho:o.moves m=true) (h:J4 E r o):J4 E' (f r) (o.rn f):=by
 cases o with
 | box cs =>
  obtain⟨arr,e,h1,h2,h3,h4⟩:=h;simp only[O.moves,b_] at ho;refine⟨arr,e,by rw[hw,hβ r hr];exact h1,by simpa using h2,fun i c v hc hv=>?_,by rw[hS,hβ r hr];exact h4⟩;simp only[d_,e_] at hc;obtain⟨c0,hc0,rfl⟩:=hc;have h5:=h3 i c0 v hc0 hv;exact⟨Rd.rn2 hw hS hβ hτ hN (ho c0 (c_ hc0)) h5.1,h5.2⟩
 | _=>exact J4.ren hw.symm hS.symm (hβ r hr).symm (hτ r hr).symm ho h
theorem ACalls.embR {P:Program} {g:FuncId} {args:List C} {H0:List O} {R:C->List O->Prop} (h:ACalls P g args H0 R) {H:List O} (rs:List Nat) (ha:args.all (C.refsLtT H0.length)=true) (hst:H0.all (O.moves H0.length)=true)
  (hrs:rs.length=H0.length) (hnd:rs.Nodup) (hat:rs.map (H[·]?)=H0.map fun o=>some (o.rn fun i=>rs.getD i 0)) {K:C->List O->Prop}
  (hk:∀c H',R c H'->H'.length=H0.length->c.refsLtT H0.length=true/\H'.all (O.moves H0.length)=true/\K (c.rn fun i=>rs.getD i 0) (I4 H rs (H'.map (O.rn fun i=>rs.getD i 0)))):ACalls P g (args.map (C.rn fun i=>rs.getD i 0)) H K:=by
 intro E vs hH hs hargs;have hpl:∀i,i<H0.length->∃x o,rs[i]? = some x/\rs.getD i 0=x/\H[x]? = some (o.rn fun i=>rs.getD i 0)/\H0[i]? = some o:=fun i hi=>by
  have hi':i<rs.length:=by omega
  have h1:=congrArg (fun l=>l[i]?) hat;simp only[d_,j_ hi',j_ hi,Option.map_some] at h1;exact⟨rs[i],H0[i],j_ hi',by simp[hi'],Option.some.inj h1,j_ hi⟩
 have hltR:∀r,r∈rs->r<H.length:=fun r hr=>by
  obtain⟨i,hi⟩:=List.mem_iff_getElem?.1 hr;obtain⟨x,o,h1,_,h3,_⟩:=hpl i (by rw[<-hrs];exact(a_.1 hi).1);rw[hi] at h1;cases h1;exact(a_.1 h3).1
 have hpos:∀x i,rs[i]? = some x->pos rs x=some i:=fun x i hx=>by
  cases hp:pos rs x with
  | none=>exact absurd (c_ hx) (aj3 hp)
  | some j =>
   have hj:=J9 hp;obtain⟨a1,a2⟩:=a_.1 hx;obtain⟨b1,b2⟩:=a_.1 hj;have hpw:=List.pairwise_iff_getElem.1 hnd;rcases Nat.lt_trichotomy i j with hlt | rfl | hlt
   ·exact absurd (a2.trans b2.symm) (hpw i j a1 b1 hlt)
   ·rfl
   ·exact absurd (b2.trans a2.symm) (hpw j i b1 a1 hlt)
 have hinj:∀i j,i<H0.length->j<H0.length->rs.getD i 0=rs.getD j 0->i=j:=fun i j hi hj he=>by
  obtain⟨x,_,h1,h2,_⟩:=hpl i hi;obtain⟨y,_,g1,g2,_⟩:=hpl j hj;have:x=y:=by rw[<-h2,<-g2,he]
  subst this;have a1:=hpos x i h1;have a2:=hpos x j g1;rw[a1] at a2;exact Option.some.inj a2
 let f:Nat->Nat:=fun i=>rs.getD i 0
 let E0:Env:={ E with N:=H0.length,β:=fun i=>E.β (f i),τ:=fun i=>E.τ (f i),pv:=fun b=>∃(i:Nat) (o:O),H0[i]? = some o/\o.block E (f i) b }
 have hlt0:∀{i:Nat} {o:O},H0[i]? = some o->i<H0.length:=fun ho=>(a_.1 ho).1;have hget:∀{i:Nat} {o:O},H0[i]? = some o->H[f i]? = some (o.rn f):=fun {i o} ho=>by
  obtain⟨x,o',_,h2,h3,h4⟩:=hpl i (hlt0 ho);rw[ho] at h4;cases h4;show H[rs.getD i 0]? = _;rw[h2];exact h3
 simp only[b_] at hst ha;have hb0:∀(i:Nat) (o:O),o.block E0 i=o.block E (f i):=fun i o=>O.block_ren rfl rfl;have hpv0:∀b,E0.pv b->E.pv b:=fun b ⟨i,o,ho,hb⟩=>hH.pv (f i) _ b (hget ho) (by rw[O.block_rn];exact hb);have hE0:RepH E0 H0:=by
  refine⟨rfl,fun i o ho=>?_,fun i o b ho hb=>⟨i,o,ho,by rw[<-hb0];exact hb⟩,fun i o b ho hb=>hH.lt (f i) _ b (hget ho) (by rw[O.block_rn,<-hb0];exact hb),fun i j o o' b ho ho' hb hb'=>?_,hH.Slt⟩
  ·exact J4.un (E:=E0) (E':=E) (f:=f) (m:=H0.length) rfl rfl (fun _ _=>rfl) (fun _ _=>rfl) (f_ _) (hlt0 ho) (hst o (c_ ho)) (hH.obj (f i) _ (hget ho))
  ·rw[hb0] at hb hb'
   exact hinj i j (hlt0 ho) (hlt0 ho') (hH.apart (f i) (f j) _ _ b (hget ho) (hget ho') (by rw[O.block_rn];exact hb) (by rw[O.block_rn];exact hb'))
 refine(h E0 vs hE0 (by simpa using hs) (fun i c v hc hv=>?_)).mono ?_
 ·have h1:=hargs i (c.rn f) v (by rw[d_,hc];rfl) hv
  exact Rd.un (E:=E0) (E':=E) (m:=H0.length) rfl rfl (fun _ _=>rfl) (fun _ _=>rfl) (f_ _) (ha c (c_ hc)) h1
 ·rintro ex w' ⟨v,c,E',H',rfl,rfl,h3,h4,h5,h6,h7⟩
  obtain⟨k1,k2,k3⟩:=hk c H' h7 h6;have hN':E'.N=H0.length:=by rw[h3.N,h6]
  let E2:Env:={ E with w:=E'.w,S:=E'.S,τ:=fun x=>match pos rs x with | some i=>E'.τ i | none=>E.τ x,pv:=fun b=>E.pv b\/E'.pv b }
  have hτin:∀x i,pos rs x=some i->E2.τ x=E'.τ i:=fun x i hp=>by show (match pos rs x with | some i=>E'.τ i | none=>E.τ x)=_;rw[hp]
  have hτout:∀x,pos rs x=none->E2.τ x=E.τ x:=fun x hp=>by show (match pos rs x with | some i=>E'.τ i | none=>E.τ x)=_;rw[hp]
  have hin0:∀x i,pos rs x=some i->i<H0.length/\f i=x:=fun x i hp=>by
   have h1:=J9 hp;have hi:i<H0.length:=by rw[<-hrs];exact(a_.1 h1).1
   obtain⟨y,_,g1,g2,_⟩:=hpl i hi;rw[h1] at g1;cases g1;exact⟨hi,g2⟩
  have hβin:∀x i,pos rs x=some i->E2.β x=E'.β i:=fun x i hp=>by
   obtain⟨g1,g2⟩:=hin0 x i hp;have:=h4.β i g1;rw[this];show E.β x=E.β (f i);rw[g2]
  have hl:Le E E2:=by
   refine⟨h4.os,h4.tape,h4.output,h4.size,f_ _,fun _ _=>rfl,fun x hx=>?_,h4.S,h4.cell,fun b hb hp=>h4.blk b hb (fun hp'=>hp (hpv0 b hp')),fun b i hs=>?_,fun b hp=>?_,h4.map⟩
   ·cases hp:pos rs x with
    | none=>rw[hτout x hp];exact⟨f_ _,fun _=>rfl⟩
    | some i =>
     obtain⟨g1,g2⟩:=hin0 x i hp;rw[hτin x i hp];have:=h4.τ i g1;have e0:E0.τ i=E.τ x:=by show E.τ (f i)=_;rw[g2]
     rw[e0] at this;exact this
   ·rcases h4.newS b i hs with h' | h' | h'
    ·exact .inl h'
    ·exact .inr (.inl h')
    ·exact .inr (.inr (hpv0 b h'))
   ·rcases hp with hp | hp
    ·exact .inl hp
    ·rcases h4.newP b hp with h' | h'
     ·exact .inl (hpv0 b h')
     ·exact .inr h'
  simp only[b_] at k2;have hin:∀{x:Nat} {o:O} {i:Nat},pos rs x=some i->(I4 H rs (H'.map (O.rn f)))[x]? = some o->∃o',H'[i]? = some o'/\o=o'.rn f:=fun {x o i} hp ho=>by
   rw[au0 rs _ H i x hnd (by rw[List.length_map,hrs,h6]) hltR (J9 hp),d_] at ho;obtain⟨o',h7,rfl⟩:=e_.1 ho;exact⟨o',h7,rfl⟩
  have hout:∀{x:Nat} {o:O},pos rs x=none->(I4 H rs (H'.map (O.rn f)))[x]? = some o->H[x]? = some o:=fun {x o} hp ho=>by
   rw[V3 rs _ H x (aj3 hp)] at ho;exact ho
  have hbin:∀{x:Nat} (o:O) {i:Nat},pos rs x=some i->o.block E2 x=o.block E' i:=fun {x} o {i} hp=>O.block_ren (hβin x i hp) (hτin x i hp);have hbout:∀{x:Nat} (o:O),pos rs x=none->o.block E2 x=o.block E x:=fun {x} o hp=>O.block_same rfl (hτout x hp);have far:∀{x:Nat} {o:O} {b:Nat},pos rs x=none->H[x]? = some o->o.block E x b->¬E0.pv b:=by
   rintro x o b hp ho hb ⟨i,o1,ho1,hb1⟩;have he:=hH.apart x (f i) o _ b ho (hget ho1) hb (by rw[O.block_rn];exact hb1);obtain⟨y,_,g1,g2,_⟩:=hpl i (hlt0 ho1);have:pos rs x=some i:=hpos x i (by rw[g1,<-g2,he]);rw[hp] at this;cases this
  have far':∀{x:Nat} {o:O} {b:Nat},pos rs x=none->H[x]? = some o->o.block E x b->¬E'.pv b:=by
   intro x o b hp ho hb hp';rcases h4.newP b hp' with h' | h'
   ·exact far hp ho hb h'
   ·have:=hH.lt x o b ho hb;exact absurd h' (by show ¬E.w.heap.size<=b;omega)
  have hfl:∀i,i<H0.length->f i<E.N:=fun i hi=>by
   obtain⟨x,o,_,g2,g3,_⟩:=hpl i hi;show rs.getD i 0<_;rw[g2,hH.N];exact(a_.1 g3).1
  have hposf:∀i,i<H0.length->pos rs (f i)=some i:=fun i hi=>by
   obtain⟨x,_,g1,g2,_⟩:=hpl i hi;show pos rs (rs.getD i 0)=_;rw[g2];exact hpos x i g1
  have hH2:RepH E2 (I4 H rs (H'.map (O.rn f))):=by
   refine⟨by rw[X8];exact hH.N,fun x o ho=>?_,fun x o b ho hb=>?_,fun x o b ho hb=>?_,fun x x' o o' b ho ho' hb hb'=>?_,h3.Slt⟩
   ·cases hp:pos rs x with
    | some i =>
     obtain⟨o',g1,rfl⟩:=hin hp ho;obtain⟨g2,rfl⟩:=hin0 x i hp;exact J4.rn (E:=E') (E':=E2) (m:=H0.length) rfl rfl (fun r hr=>hβin _ r (hposf r hr)) (fun r hr=>hτin _ r (hposf r hr)) hfl g2 (k2 o' (c_ g1)) (h3.obj i o' g1)
    | none =>
     have ho':=hout hp ho;refine(hH.obj x o ho').keep hl (by rw[hH.N];exact(a_.1 ho').1) (hτout x hp) (fun b hb=>⟨h4.blk b (hH.lt x o b ho' hb) (far hp ho' hb),fun i hs=>?_⟩);rcases h4.newS b i hs with h' | h' | h'
     ·exact h'
     ·have:=hH.lt x o b ho' hb;exact absurd h' (by show ¬E.w.heap.size<=b;omega)
     ·exact absurd h' (far hp ho' hb)
   ·cases hp:pos rs x with
    | some i =>
     obtain⟨o',g1,rfl⟩:=hin hp ho;rw[O.block_rn,hbin o' hp] at hb;exact .inr (h3.pv i o' b g1 hb)
    | none=>rw[hbout o hp] at hb;exact .inl (hH.pv x o b (hout hp ho) hb)
   ·cases hp:pos rs x with
    | some i =>
     obtain⟨o',g1,rfl⟩:=hin hp ho;rw[O.block_rn,hbin o' hp] at hb;exact h3.lt i o' b g1 hb
    | none=>rw[hbout o hp] at hb;exact k_ (hH.lt x o b (hout hp ho) hb) h4.size
   ·cases hp:pos rs x with
    | some i =>
     obtain⟨o,g1,rfl⟩:=hin hp ho;rw[O.block_rn,hbin o hp] at hb;cases hp':pos rs x' with
     | some i' =>
      obtain⟨o',g2,rfl⟩:=hin hp' ho';rw[O.block_rn,hbin o' hp'] at hb';have e:=h3.apart i i' o o' b g1 g2 hb hb';subst e;have a1:=J9 hp;have a2:=J9 hp';rw[a1] at a2;exact Option.some.inj a2
     | none =>
      rw[hbout o' hp'] at hb';exact absurd (h3.pv i o b g1 hb) (far' hp' (hout hp' ho') hb')
    | none =>
     rw[hbout o hp] at hb;cases hp':pos rs x' with
     | some i' =>
      obtain⟨o',g2,rfl⟩:=hin hp' ho';rw[O.block_rn,hbin o' hp'] at hb';exact absurd (h3.pv i' o' b g2 hb') (far' hp (hout hp ho) hb)
     | none =>
      rw[hbout o' hp'] at hb';exact hH.apart x x' o o' b (hout hp ho) (hout hp' ho') hb hb'
  exact⟨v,c.rn f,E2,I4 H rs (H'.map (O.rn f)),rfl,rfl,hH2,hl,Rd.rn (E:=E') (E':=E2) (m:=H0.length) rfl rfl (fun r hr=>hβin _ r (hposf r hr)) (fun r hr=>hτin _ r (hposf r hr)) hfl k1 h5,by rw[X8],k3⟩
theorem C.still_rn {c:C} (f:Nat->Nat) (h:c.still=true):c.rn2 f=c:=by cases c<;>first | rfl | simp[C.still] at h
theorem O.still_rn {o:O} (f:Nat->Nat) (h:o.still=true):o.rn f=o:=by
 cases o with
 | box cs =>
  simp only[O.still,b_] at h;exact congrArg O.box ((l_ fun c hc=>C.still_rn f (h c hc)).trans (List.map_id _))
 | _=>rfl
theorem O.still_moves {o:O} (m:Nat) (h:o.still=true):o.moves m=true:=by
 cases o with
 | box cs =>
  simp only[O.still,b_] at h;simp only[O.moves,b_];intro c hc;have:=h c hc;cases c<;>first | rfl | simp[C.still] at this
 | _=>exact h
theorem ACalls.emb {P:Program} {g:FuncId} {args:List C} {H0:List O} {R:C->List O->Prop} (h:ACalls P g args H0 R) {H:List O} (rs:List Nat) (ha:args.all (C.refsLtT H0.length)=true) (hst:H0.all O.still=true)
  (hrs:rs.length=H0.length) (hnd:rs.Nodup) (hat:rs.map (H[·]?)=H0.map some) {K:C->List O->Prop}
  (hk:∀c H',R c H'->H'.length=H0.length->c.refsLtT H0.length=true/\H'.all O.still=true/\K (c.rn fun i=>rs.getD i 0) (I4 H rs H')):ACalls P g (args.map (C.rn fun i=>rs.getD i 0)) H K:=by
 rw[b_] at hst;refine h.embR rs ha (b_.2 fun o ho=>O.still_moves _ (hst o ho)) hrs hnd (hat.trans (l_ fun o ho=>by rw[O.still_rn _ (hst o ho)])) (fun c H' hc hl=>?_);obtain⟨k1,k2,k3⟩:=hk c H' hc hl;rw[b_] at k2;refine⟨k1,b_.2 fun o ho=>O.still_moves _ (k2 o ho),?_⟩;rw[show H'.map (O.rn fun i=>rs.getD i 0)=H' from (l_ fun o ho=>O.still_rn _ (k2 o ho)).trans (List.map_id _)];exact k3
theorem bd5 {r:Nat} {c:C} (h:c.one=true):c.at1 r=c.rn (fun i=>[r].getD i 0)/\c.refsLtT 1=true:=by
 cases c<;>simp_all[C.one,C.at1,C.rn,C.rn2,C.rn1,C.refsLtT,C.refsLt,C.refsLt1]
theorem ACalls.at1 {P:Program} {f:FuncId} {args:List C} {o:O} {R:C->List O->Prop} (h:ACalls P f args [o] R) (hf:args.all C.one=true) (r:Nat) {H:List O} (hr:H[r]? = some o) (ho:o.still=true)
  {K:C->List O->Prop} (hk:∀c o',R c [o']->c.one=true/\o'.still=true/\K (c.at1 r) (H.set r o')):ACalls P f (args.map (C.at1 r)) H K:=by
 rw[b_] at hf;rw[l_ fun c hc=>(bd5 (r:=r) (hf c hc)).1];refine h.emb [r] (b_.2 fun c hc=>(bd5 (r:=r) (hf c hc)).2) (by simpa using ho) rfl (by simp) (by simp[hr]) (fun c H' hc hl=>?_);obtain⟨o',rfl⟩:=List.length_eq_one_iff.1 hl;obtain⟨k1,k2,k3⟩:=hk c o' hc;exact⟨(bd5 (r:=r) k1).2,by simpa using k2,by rw[<-(bd5 (r:=r) k1).1];exact k3⟩
attribute [go_sem] O.rn.eq_def O.moves.eq_def C.rn.eq_def C.rn2.eq_def C.rn1.eq_def
section
variable {P:Program} {n:Nat} {md:Region.Mode} {ops:Array Oper} {LA:Array Bool} {F:List (Nat×O)}
def bV9 (P:Program) (n:Nat) (ops:Array Oper) (F:List (Nat×O)) (X:List Nat) (K:St->Prop):List Nat->St->Prop
 | [],⟨σ,H⟩=>K ⟨σ,H⟩
 | i :: r,⟨σ,H⟩=>match ops[i]? with
  | none=>False
  | some o=>H9 n o=true/\o.guard=none /\
   (match H8 o.op with
   | some _=>bV9 P n ops F X K r (put ⟨σ,H⟩ o.dst .top)
   | none=>(match au5 X i o.op with
    | true=>bz3 P F ⟨σ,H⟩ o.op (kD (bV9 P n ops F X K r) ⟨σ,H⟩ o.dst)
    | false=>bL4 P ⟨σ,H⟩ o (fun c H'=>D8 F H'/\bV9 P n ops F X K r (put ⟨σ,H'⟩ o.dst c))))
end
attribute [go_sem] bV9.eq_1 bV9.eq_2
section
variable {P:Program} {f:FuncId} {n n0:Nat} {R:C->List O->Prop}
end
section
variable {P:Program} {f:FuncId} {n n0:Nat} {R:C->List O->Prop}
theorem AW.placeBox {k:List Item} {s:St} (t r i:Nat) {cs:List D} (ht:get s.σ t=.ptr r 0) (hr:s.H[r]? = some (.box (cs.map .d))) (hi:s.H[i]? = some .hole) (hne:i≠r)
  (h:AW P f n n0 R k ⟨(t,.own i 1) :: s.σ,(s.H.set r .dead).set i (.pb cs)⟩):AW P f n n0 R k s:=by
 refine AW.recast (s':=⟨(t,.own i 1) :: s.σ,(s.H.set r .dead).set i (.pb cs)⟩) (fun h0 E a hst=>?_);have hv:=hst.slot t;rw[ht] at hv;obtain⟨arr,e,h1,h2,h3,h4⟩:=hst.heap.obj r _ hr;have hrl:=(a_.1 hr).1;have hil:=(a_.1 hi).1;have hi0:(E.τ i).1=0:=hst.heap.obj i _ hi;have hiN:i<E.N:=by rw[hst.heap.N];exact hil
 have hl:Le E (E.rename i 1 (.pointer (some ⟨E.β r,0,none⟩))):=by
  refine⟨rfl,rfl,rfl,f_ _,f_ _,fun _ _=>rfl,fun r' hr'=>?_,fun _ _ hs=>hs,fun _ _ _=>rfl,fun _ _ _=>rfl,fun _ _ hs=>.inl hs,fun _ hp=>.inl hp,fun _ _ _ _ _ hh=>hh⟩;simp only[Env.rename];by_cases er:r'=i
  ·subst er;rw[if_pos rfl];exact⟨by simp only;omega,fun e=>by simp only at e;omega⟩
  ·rw[if_neg er];exact⟨f_ _,fun _=>rfl⟩
 have hτ:(E.rename i 1 (.pointer (some ⟨E.β r,0,none⟩))).τ i=(1,.pointer (some ⟨E.β r,0,none⟩)):=by simp[Env.rename]
 have hK:=hst.heap.kill r;have hi1:(s.H.set r .dead)[i]? = some .hole:=by rw[h_ (Ne.symm hne)];exact hi
 refine⟨E.rename i 1 (.pointer (some ⟨E.β r,0,none⟩)),rfl,hl,hst.reslot hl ?_ ?_,h⟩
 ·refine hK.turn (r0:=i) (o0:=.pb cs) hl (by simp[Env.rename,hst.heap.N]) (fun r' hr'=>?_) (fun o ho=>?_) (fun r' hr' _=>?_) (fun r' o b hr' ho hb=>⟨rfl,fun i hs=>hs⟩) (fun b hb=>hb) (fun b i hs=>hst.heap.Slt b i hs) ?_ (fun b hb=>?_)
  ·rw[h_ (fun e=>hr' e.symm)]
  ·rw[i_ (by rw[List.length_set];exact hil)] at ho
   exact(Option.some.inj ho).symm
  ·simp only[Env.rename];rw[if_neg hr']
  ·refine⟨by rw[hτ],E.β r,arr,e,by rw[hτ],h1,by simpa using h2,fun j c v hc hv=>?_,h4⟩
   obtain⟨k1,k2⟩:=h3 j (.d c) v (by rw[d_,hc];rfl) hv;cases k1 with
   | d _ _ hd=>exact⟨hd,k2⟩
  ·simp only[O.block,hτ] at hb
   obtain rfl:E.β r=b:=by simpa using hb
   refine⟨hst.heap.pv r _ _ hr rfl,hst.heap.lt r _ _ hr rfl,fun r' o' hr' ho' hbb=>?_⟩;by_cases er:r=r'
   ·subst er
    rw[i_ hrl] at ho';cases ho';exact hbb
   ·rw[h_ er] at ho'
    exact er (hst.heap.apart r r' _ o' _ hr ho' rfl hbb)
 ·generalize a.tmps.getD t undef=v at hv
  cases hv with
  | ptr _ _ hN=>exact .own _ _ _ hiN rfl (by simp[Env.rename]) (fun _=>by simp[Env.rename])
def Env.boxed (E:Env) (b:Nat):Env:={ E with N:=E.N+1,β:=fun r=>if r=E.N then b else E.β r }
theorem AW.unbox {k:List Item} {s:St} (t i:Nat) {cs:List D} (ht:get s.σ t=.own i 1) (hi:s.H[i]? = some (.pb cs))
  (h:AW P f n n0 R k ⟨(t,.ptr s.H.length 0) :: s.σ,(s.H.set i .dead)++[.box (cs.map .d)]⟩):AW P f n n0 R k s:=by
 refine AW.recast (s':=⟨(t,.ptr s.H.length 0) :: s.σ,(s.H.set i .dead)++[.box (cs.map .d)]⟩) (fun h0 E a hst=>?_);have hv:=hst.slot t;rw[ht] at hv;obtain⟨hq,b,arr,e,h1,h2,h3,h4,h5⟩:=hst.heap.obj i _ hi;have hil:=(a_.1 hi).1;have hN:E.N=s.H.length:=hst.heap.N;have hl:Le E (E.boxed b):=by
  refine⟨rfl,rfl,rfl,f_ _,by simp[Env.boxed],fun r hr=>?_,fun r hr=>⟨f_ _,fun _=>rfl⟩,fun _ _ hs=>hs,fun _ _ _=>rfl,fun _ _ _=>rfl,fun _ _ hs=>.inl hs,fun _ hp=>.inl hp,fun _ _ _ _ _ hh=>hh⟩;simp only[Env.boxed];rw[if_neg (by omega)]
 have hβ:(E.boxed b).β s.H.length=b:=by simp[Env.boxed,hN]
 have hK:=hst.heap.kill i;refine⟨E.boxed b,rfl,hl,hst.reslot hl ?_ ?_,h⟩
 ·refine hK.turn (r0:=s.H.length) (o0:=.box (cs.map .d)) hl (by simp[Env.boxed,hN]) (fun r hr=>?_) (fun o ho=>?_) (fun r hr hr'=>rfl) (fun r o b hr ho hb=>⟨rfl,fun i hs=>hs⟩) (fun b hb=>hb) (fun b i hs=>hst.heap.Slt b i hs) ?_ (fun b' hb=>?_)
  ·by_cases hlt:r<s.H.length
   ·rw[n_ (by simpa using hlt)]
   ·rw[g_ (by simp;omega),g_ (by simp;omega)]
  ·rw[List.getElem?_append_right (by simp)] at ho
   simpa using ho.symm
  ·refine⟨arr,e,by rw[hβ];exact h2,by simpa using h3,fun j c v hc hv=>?_,by rw[hβ];exact h5⟩
   rw[d_] at hc;obtain⟨d,hd,rfl⟩:=e_.1 hc;obtain⟨k1,k2⟩:=h4 j d v hd hv;exact⟨.d _ _ k1,k2⟩
  ·simp only[O.block,hβ] at hb
   subst hb;refine⟨hst.heap.pv i _ _ hi h1,hst.heap.lt i _ _ hi h1,fun r' o' hr' ho' hbb=>?_⟩;by_cases er:i=r'
   ·subst er
    rw[i_ hil] at ho';cases ho';exact hbb
   ·rw[h_ er] at ho'
    exact er (hst.heap.apart i r' _ o' _ hi ho' h1 hbb)
 ·generalize a.tmps.getD t undef=v at hv
  cases hv with
  | own _ _ _ hN' h1' hq' hv' =>
   have hv':=hv' hq.symm;subst hv';rw[h1];have:(⟨b,0,none⟩:Addr)=⟨(E.boxed b).β s.H.length,0,none⟩:=by rw[hβ]
   rw[this];exact .ptr _ _ (by simp[Env.boxed,hN])
end
theorem cU1 {P:Program} {e:TypeId} (hl:leaves P 6 e=some [.int .u8]) (x:List D) (h:Sh P e x):∃b:UInt8,x=[.int .u8 (b.toNat:Int)]:=by
 obtain⟨ls,h1,h2,h3⟩:=h;rw[hl] at h1;cases h1;match x,h2,h3 with
 | [c0],_,h3 =>
  obtain⟨b0,rfl,q0⟩:=(h3 0 _ _ rfl rfl).int_inv;have h0:0<=b0/\b0<=255:=by
   have e1:IntKind.u8.min=0:=by decide
   have e2:IntKind.u8.max=255:=by decide
   simp only[Lit.wf,e1,e2,Bool.and_eq_true,decide_eq_true_eq] at q0;exact q0
  refine⟨UInt8.ofNat b0.toNat,?_⟩;have:((UInt8.ofNat b0.toNat).toNat:Int)=b0:=by
   rw[UInt8.toNat_ofNat',Nat.mod_eq_of_lt (by omega)];omega
  rw[this]
theorem sl_bytes {P:Program} {t e:TypeId} {x:D} (hl:leaves P 6 t=some [.sl e]) (he:leaves P 6 e=some [.int .u8]) (h:Sh P t [x]):∃l:List UInt8,x=.sl (bytesD l):=
 shL hl (cU1 he) h
end Go.Abs
