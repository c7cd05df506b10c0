import Derived.Test.YtehcdhelbkjaeaaGreatDoorA8
import Derived.Lib.LaidTab
import Derived.Lib.ItoaNum
import Derived.Sort.Grow
import Derived.Deep.Draws
import Derived.Lib.Builder
import Derived.Lib.UnsafeStr
import Derived.WalkKit
open List renaming getElem?_eq_some_iff→a_,mem_of_getElem?→b_,getElem?_map→c_,all_eq_true→d_,getElem?_set_ne→e_,getElem?_eq_getElem→g_,getElem?_set_self→j_,getElem?_append_right→k_,getElem?_append_left→l_,length_pos_iff→p_,eq_nil_of_length_eq_zero→q_
open Bool renaming and_eq_true→f_
open Array renaming getElem?_eq_some_iff→h_,getElem?_eq_none→o_
open Option renaming map_eq_some_iff→i_
open Nat renaming le_refl→m_,lt_of_lt_of_le→n_
set_option linter.unusedSimpArgs false
set_option linter.unusedVariables false
namespace Go.Abs
theorem rep_grow {E:Env} {H:List O} (h:RepH E H) (k:Nat) (os:Array Obj) :
  Le E { E with w:=Sort.grow (E.w.drewN k) os }∧RepH { E with w:=Sort.grow (E.w.drewN k) os } H:=by
 have hb:∀b,b<E.w.heap.size→(Sort.grow (E.w.drewN k) os).heap[b]? = E.w.heap[b]?:=fun b hb=>by
  show (E.w.heap++os)[b]? = _
  exact Array.getElem?_append_left hb
 have hsz:E.w.heap.size≤(Sort.grow (E.w.drewN k) os).heap.size:=by
  show _≤(E.w.heap++os).size
  simp
 have hl:Le E { E with w:=Sort.grow (E.w.drewN k) os }:=
  ⟨rfl,rfl,rfl,hsz,m_ _,fun _ _=>rfl,fun _ _=>⟨m_ _,fun _=>rfl⟩,fun _ _ hs=>hs,fun b i hs=>by
   show (Sort.grow (E.w.drewN k) os).cell? _=_
   simp only [World.cell?,hb b (h.Slt b i hs)],fun b hlt _=>hb b hlt,fun _ _ hs=>.inl hs,fun _ hp=>.inl hp,fun b i _ _ hs hh=>(hb b (h.Slt b i hs)).trans hh⟩
 exact ⟨hl,h.keep hl rfl (fun _ _=>rfl) (fun r o b ho hbk=>⟨hb b (h.lt r o b ho hbk),fun _ hs=>hs⟩) (fun _ hp=>hp) (fun b i hs=>n_ (h.Slt b i hs) hsz)⟩
theorem tab_is {P:Program} {w:World} {name:String} {g:Nat} {k:IntKind} {zs:List Int} (hg:P.globalNamed name=some g) (hz:zs≠[])
  (h:∀j,j≤(zs.map fun z=>Value.int k z).length→w.cell? ⟨g,j,none⟩=(zs.map fun z=>Value.int k z)[j]?):Lib.TabIs P w name k zs:=by
 have h0:=h 0 (Nat.zero_le _)
 unfold Lib.TabIs
 simp only [World.var?,hg,Option.bind_some]
 generalize hl:(zs.map fun z=>Value.int k z)=l at h h0 ⊢
 have hne:l≠[]:=by rw [←hl];simpa using hz
 simp only [World.cell?] at h h0
 cases hh:w.heap[g]? with
 | none=>rw [hh] at h0;cases l with | nil=>exact absurd rfl hne | cons=>simp at h0
 | some o =>
  rw [hh] at h h0
  cases o with
  | cells cs e fz =>
   simp only at h h0 ⊢
   congr 1
   have hs:cs.size≤l.length:=by
    have:=h l.length (m_ _)
    simp at this
    exact this
   apply Array.ext_getElem?
   intro i
   by_cases hi:i≤l.length
   ·have:=h i hi
    simp at this
    simpa using this
   ·rw [o_ (by omega),List.getElem?_toArray,List.getElem?_eq_none (by omega)]
  | _=>cases l with | nil=>exact absurd rfl hne | cons=>simp at h0
theorem itoa_calls {P:Program} {f:FuncId} {name:String} {g:Nat} {k:IntKind} {zs:List Int} {tx:Int→List UInt8}
  (hs:∀(n:Int),-9223372036854775808≤n→n≤9223372036854775807→∀(w:World),Lib.TabIs P w name k zs →
   Calls P f #[.int .i64 n] w fun e w'=>e=.returned (.string ⟨(tx n).toArray⟩)∧∃k os,w'=Sort.grow (w.drewN k) os)
  (hg:P.globalNamed name=some g) (hz:zs≠[]) (n:Int) (h0:-9223372036854775808≤n) (h1:n≤9223372036854775807) :
  ACalls P f [.d (.int .i64 n)] [.tab g (zs.map fun z=>Value.int k z)] (fun c H'=>c=.d (.str (tx n))∧H'=[.tab g (zs.map fun z=>Value.int k z)]):=by
 intro E vs hE hsz ha
 obtain ⟨v,rfl⟩:∃v,vs=#[v]:=by
  match vs,hsz with
  | ⟨[v]⟩,_=>exact ⟨v,rfl⟩
 have hv:=ha 0 _ v rfl rfl
 cases hv with
 | d _ _ hd =>
  cases hd
  have ht:=hE.obj 0 _ rfl
  refine (hs n h0 h1 E.w (tab_is hg hz (fun j hj=>(ht j hj).2))).mono ?_
  rintro e w' ⟨rfl,k',os,rfl⟩
  obtain ⟨hl,hH⟩:=rep_grow hE k' os
  exact ⟨_,_,_,_,rfl,rfl,hH,hl,.d _ _ (.str _),rfl,rfl,rfl⟩
open Go.RowKit
theorem RowB.block {w:World} {e:TypeId} {v:Value} {bs:List UInt8} (h:RowB w e v bs) {b:Nat} (hb:ownB v=some b):b<w.heap.size:=by
 rcases h with ⟨a,rfl,_⟩ | ⟨g,cap,arr,rfl,h2,h3,h4,_⟩
 ·cases a<;>simp [ownB] at hb
 ·have:=p_.2 h3
  simp [ownB] at hb
  obtain ⟨_,rfl⟩:=hb
  exact (h_.1 h2).1
theorem RowB.same {w w':World} {e:TypeId} {v:Value} {bs:List UInt8} (h:RowB w e v bs) (hw:∀b,ownB v=some b→w'.heap[b]? = w.heap[b]?):RowB w' e v bs:=by
 rcases h with h | ⟨g,cap,arr,rfl,h2,h3,h4,h5⟩
 ·exact .inl h
 ·have:=p_.2 h3
  exact .inr ⟨g,cap,arr,rfl,by rw [hw g (by simp [ownB];omega)];exact h2,h3,h4,h5⟩
theorem bstr_calls {P:Program} {f:FuncId} {T e:TypeId}
  (hs:∀(b g cap:Nat) (p:Value) (cur:Array Value) (l:List UInt8) (w:World),w.heap[b]? = some (.cells #[p,.slice (some ⟨g,0,none⟩) l.length cap] T (0,0))→w.heap[g]? = some (.cells cur e (0,0)) →
   l≠[]→l.length≤cap→cap≤maxLen→cur.size=cap→(∀(j:Nat) (x:UInt8),l[j]? = some x→cur[j]? = some (.int .u8 x.toNat)) →
   Calls P f #[.pointer (some ⟨b,0,none⟩)] w fun e w'=>e=.returned (.string ⟨l.toArray⟩)∧w'=w.drew.freeze ⟨g,0,none⟩ l.length)
  {H:List O} {r:Nat} {l:List UInt8} (hr:H[r]? = some (.bld T e l)) (h0:l≠[]) {K:C→List O→Prop} (hk:K (.d (.str l)) (H.set r .dead)) :
  ACalls P f [.ptr r 0] H K:=by
 intro E vs hE hsz ha
 obtain ⟨v,rfl⟩:∃v,vs=#[v]:=by
  match vs,hsz with
  | ⟨[v]⟩,_=>exact ⟨v,rfl⟩
 have hv:=ha 0 _ v rfl rfl
 cases hv with
 | ptr _ _ hrN =>
 obtain ⟨p,h1,h2,h3,h4,h5⟩:=hE.obj r _ hr
 rcases h3 with ⟨_,_,e0⟩ | ⟨b0,cap,arr,k1,k2,k3,k4,k5,k6,k7⟩
 ·exact absurd e0 h0
 ·have hlen:=p_.2 h0
  have hown:ownB (E.τ r).2=some b0:=by rw [k1];simp [ownB];omega
  have hpv:=hE.pv r _ b0 hr (.inr hown)
  rw [k1] at h2
  refine (hs (E.β r) b0 cap p arr l E.w h2 k2 h0 k4 k5 k6 k7).mono ?_
  rintro ex w' ⟨rfl,rfl⟩
  have hold:∀b,b≠b0→(E.w.drew.freeze ⟨b0,0,none⟩ l.length).heap[b]? = E.w.heap[b]?:=fun b hb=>by
   unfold World.freeze
   split
   ·rfl
   ·simp only [Array.getElem?_modify]
    rw [if_neg (fun e=>hb e.symm)]
    rfl
  have hsize:(E.w.drew.freeze ⟨b0,0,none⟩ l.length).heap.size=E.w.heap.size:=by
   unfold World.freeze
   split
   ·rfl
   ·rw [Array.size_modify];rfl
  have hos:(E.w.drew.freeze ⟨b0,0,none⟩ l.length).os=E.w.os∧(E.w.drew.freeze ⟨b0,0,none⟩ l.length).tape=E.w.tape∧(E.w.drew.freeze ⟨b0,0,none⟩ l.length).output=E.w.output:=by
   unfold World.freeze
   split<;>exact ⟨rfl,rfl,rfl⟩
  have hns:∀i,¬E.S b0 i:=h5 b0 (.inr hown)
  have hl:Le E { E with w:=E.w.drew.freeze ⟨b0,0,none⟩ l.length }:=by
   refine ⟨hos.1,hos.2.1,hos.2.2,Nat.le_of_eq hsize.symm,m_ _,fun _ _=>rfl,fun _ _=>⟨m_ _,fun _=>rfl⟩,fun _ _ hs=>hs,fun b i hs=>?_,fun b hb hp=>hold b (fun e=>hp (by subst e;exact hpv)),fun _ _ hs=>.inl hs,fun _ hp=>.inl hp,fun b i a n hs hh=>(hold b (fun e=>hns i (by subst e;exact hs))).trans hh⟩
   show (E.w.drew.freeze _ _).cell? _=_
   simp only [World.cell?,hold b (fun e=>hns i (by subst e;exact hs))]
  refine ⟨_,_,{ E with w:=E.w.drew.freeze ⟨b0,0,none⟩ l.length },_,rfl,rfl,?_,hl,.d _ _ (.str _),by simp,hk⟩
  refine hE.turn (r0:=r) (o0:=.dead) hl (by simp [hE.N]) (fun r' hr'=>?_) (fun o' ho'=>?_) (fun _ _ _=>rfl) (fun r' o' b hr' ho' hb=>⟨?_,fun i hs=>hs⟩) (fun _ hb=>hb) (fun b i hs=>n_ (hE.Slt b i hs) (Nat.le_of_eq hsize.symm)) trivial (fun b hb=>by simp [O.block] at hb)
  ·rw [e_ (fun e=>hr' e.symm)]
  ·rw [j_ (a_.1 hr).1] at ho'
   exact (Option.some.inj ho').symm
  ·exact hold b (fun e=>hr' (hE.apart r' r o' _ _ ho' hr hb (.inr (by rw [hown,e]))))
section
variable {P:Program} {f:FuncId} {n n0:Nat} {R:C→List O→Prop}
theorem wpOps_cons {ops:Array Oper} {o:Oper} {i:Nat} {l:List Nat} {s:St} {E0 E:Env} {a:Act} {K:St→Prop} (hi:ops[i]? = some o) (hg:o.guard=none) {K1:C→List O→Prop} (he:EffOk P s o K1)
  (hst:RepSt E n s a) (hd:∀d,o.dst=some d→d<n) (hle:Le E0 E)
  (hk:∀c H',K1 c H'→∀(E':Env) (a':Act),RepSt E' n (put { s with H:=H' } o.dst c) a'→Le E0 E'→wpOps P ops (Behind n E0 K) l a' E'.w):wpOps P ops (Behind n E0 K) (i :: l) a E.w:=by
 simp only [wpOps,hi]
 have hw:Region.wanted o (yielded ops a.tmps)=true:=by simp [Region.wanted,hg]
 rw [if_pos hw]
 refine .inl ?_
 have hw:=he E n a hst
 unfold Oper.wp at hw ⊢
 generalize (execOp a.eval o).run P E.w=r at hw ⊢
 have key:∀a' w',(∃v E' c H',a'=a.put o.dst v∧E'.w=w'∧Rd E' c v∧RepH E' H'∧Le E E'∧K1 c H')→wpOps P ops (Behind n E0 K) l a' w':=by
  rintro a' w' ⟨v,E',c,H',rfl,rfl,h1,h2,h3,h4⟩
  exact hk c H' h4 E' _ (hst.put h3 h2 hd h1) (hle.trans h3)
 cases r with
 | ok x w' =>
  cases x<;>simp only [Oper.upon] at hw ⊢<;>first
   | exact key _ _ hw
   | exact Calls.mono hw (fun e w'' he=>by cases e<;>first | exact key _ _ he | exact he.elim | (obtain ⟨_,_,h⟩:=he;exact h.elim))
   | exact Rows.mono hw (fun _ _ he=>key _ _ he)
   | exact hw
 | halt x w'=>cases x<;>simp only [Oper.upon] at hw
end
section
variable {P:Program} {f:FuncId} {n n0:Nat} {R:C→List O→Prop}
end
section
variable {P:Program} {n:Nat} {md:Region.Mode} {ops:Array Oper}
def vcTlL (P:Program) (n:Nat) (ops:Array Oper) (K:St→Prop):List Nat→St→Prop
 | [],⟨σ,H⟩=>K ⟨σ,H⟩
 | i :: r,⟨σ,H⟩=>match ops[i]? with
  | none=>False
  | some o=>okDst n o=true∧o.guard=none∧vcOpL P ⟨σ,H⟩ o (kR (vcTlL P n ops K r) ⟨σ,H⟩ o.dst)
end
attribute [go_sem] vcTlL.eq_1 vcTlL.eq_2
section
variable {P:Program} {f:FuncId} {n n0:Nat} {R:C→List O→Prop}
theorem AW.forget {k:List Item} {s:St} (r:Nat) (h:AW P f n n0 R k ⟨s.σ,s.H.set r .dead⟩):AW P f n n0 R k s:=by
 refine AW.recast (s':=⟨s.σ,s.H.set r .dead⟩) (fun h0 E a hst=>?_)
 exact ⟨E,rfl,Le.refl E,⟨hst.size,hst.defers,hst.heap.kill r,hst.slot⟩,by simpa using h⟩
end
set_option maxHeartbeats 2000000
section
variable {P:Program}
def vcOpP (P:Program) (s:St) (o:Oper) (K:C→List O→Prop):Prop:=
 match o.op with
 | .buildSlice t n ps =>
  (match ps.toList with
  | [(i,x)]=>i=0∧n=1∧okOperand x=true∧(match tSlice P t,ev s x with
   | some (e,z,_),.own N qn=>z=1∧(match s.H[N]? with
    | some (.tree q _ _ kid _ none)=>qn=q∧K (.own s.H.length 0) (s.H++[.tree 0 1 e [[.sl kid]] (fun _=>False) (some (0,0,N,qn))])
    | _=>False)
   | _,_=>False)
  | _=>False)
 | .call c =>
  (match c.callee with
  | .builtin .append=>(match c.args.toList,c.argTypes.toList with
   | [x,y],[t,u]=>okOperand x=true∧okOperand y=true∧tIsSlice P u=true∧(match tSlice P t,ev s x,ev s y with
    | some (e,z,by_),.own r q,.own M qm=>z=1∧r≠M∧(match s.H[r]?,s.H[M]? with
     | some (.tree q' z' e' xs _ none),some (.tree qm' zm _ [[.sl kid]] _ (some (0,0,N,qn)))=>q=q'∧qm=qm'∧z'=1∧zm=1∧e'=e∧r≠N∧(match s.H[N]? with
      | some (.tree qn' _ _ _ _ none)=>qn=qn'∧xs.length+1≤maxLen∧(xs.length+1) * by_≤140737488355328 ∧
        ∀B,K (.own r (q+1)) ((s.H.set M .dead).set r (.tree (q+1) 1 e (xs++[[.sl kid]]) B (some (xs.length,0,N,qn))))
      | _=>False)
     | _,_=>False)
    | _,_,_=>False)
   | _,_=>False)
  | _=>vcEff P s o K)
 | _=>vcEff P s o K
def vcRP (P:Program) (n:Nat) (K:St→Prop):List Oper→St→Prop
 | [],⟨σ,H⟩=>K ⟨σ,H⟩
 | o :: rest,⟨σ,H⟩=>okDst n o=true∧o.guard=none∧vcOpP P ⟨σ,H⟩ o (kR (vcRP P n K rest) ⟨σ,H⟩ o.dst)
attribute [go_sem] vcOpP.eq_def vcRP.eq_1 vcRP.eq_2
end
def takeK:List D→List C→List O→(List C→List O→Prop)→Prop
 | [],cs,H,K=>K cs H
 | .sl kid :: r,cs,H,K=>(kid=[]→takeK r (cs++[.d (.sl [])]) H K)∧(kid≠[]→∀zk e' B,takeK r (cs++[.own H.length 0]) (H++[.tree 0 zk e' kid B none]) K)
 | .str s :: r,cs,H,K=>takeK r (cs++[.d (.str s)]) H K
 | .int k n :: r,cs,H,K=>takeK r (cs++[.d (.int k n)]) H K
 | .bool b :: r,cs,H,K=>takeK r (cs++[.d (.bool b)]) H K
 | _ :: _,_,_,_=>False
def vcTake (P:Program) (s:St) (t:TypeId) (r q z i off:Nat) (K:C→List O→Prop):Prop:=
 match s.H[r]?,tSize P t with
 | some (.tree q' z' e xs _ none),some n=>q=q'∧z=z'∧i<xs.length∧off+n≤z∧0<n ∧
   idx xs i (fun x=>∀B',takeK ((x.drop off).take n) [] (s.H.set r (.tree q z e (xs.set i (x.take off++List.replicate n .any++x.drop (off+n))) B' none)) (fun cs H=>K (.agg cs) H))
 | _,_=>False
section
variable {P:Program}
theorem Tr.loose {E:Env} {H:List O} {kid:List (List D)} {v:Value} {B:Nat→Prop} (h:Tr E.w (.sl kid) v B) (hne:kid≠[]) (hf:Free E H B):∃zk e' B2,Loose E H zk e' kid v B2∧∀b',(ownB v=some b'∨B2 b')→B b':=by
 cases h with
 | nil a cap=>exact absurd rfl hne
 | sl b2 cap2 z2 e2 _ arr2 val2 Bs2 hne2 h02 hcap2 hmax2 hz2 hb2 hsz2 hv2 hr2 hself2 hdis2 =>
  have hBB:∀b',(ownB (.slice (some ⟨b2,0,none⟩) kid.length cap2)=some b'∨∃i j x c,kid[i]? = some x∧x[j]? = some c∧Bs2 i j b')→b'=b2∨∃i j x c,kid[i]? = some x∧x[j]? = some c∧Bs2 i j b':=by
   rintro b' (hb' | hb')
   ·left
    simp only [ownB] at hb'
    split at hb'
    ·cases hb'
    ·cases hb';rfl
   ·exact .inr hb'
  refine ⟨z2,e2,fun b'=>∃i j x c,kid[i]? = some x∧x[j]? = some c∧Bs2 i j b',⟨.inr ⟨b2,cap2,arr2,rfl,hb2,hne,hcap2,hmax2,hsz2,?_,?_⟩,hz2,h02,hf.mono hBB⟩,hBB⟩
  ·refine ⟨val2,fun i j b'=>Bs2 i j b'∧∃x c,kid[i]? = some x∧x[j]? = some c,fun i j x c hi hj=>⟨(hv2 i j x c hi hj).1,(hv2 i j x c hi hj).2,fun _=>?_⟩,fun i j b' ⟨hb',x,c,hi,hj⟩=>⟨i,j,x,c,hi,hj,hb'⟩,fun i j i' j' b' ⟨hb1,_⟩ ⟨hb2,_⟩=>hdis2 i j i' j' b' hb1 hb2⟩
   have:=hr2 i j x c hi hj
   have e1:(fun b'=>Bs2 i j b'∧∃x c,kid[i]? = some x∧x[j]? = some c)=Bs2 i j:=by
    funext b';exact propext ⟨fun h=>h.1,fun h=>⟨h,x,c,hi,hj⟩⟩
   dsimp only
   rw [e1];exact this
  ·rintro ⟨i,j,x,c,hi,hj,hb'⟩;exact hself2 i j hb'
theorem takeK_sound {K:List C→List O→Prop}:∀(ds:List D) (vs:List Value) (cs:List C) (ws:List Value) (E:Env) (H:List O) (Bk:Nat→Nat→Prop),RepH E H→vs.length=ds.length→ws.length=cs.length →
  (∀(j:Nat) (d:D) (v:Value),ds[j]? = some d→vs[j]? = some v→CellT E H d v (Bk j))→(∀k k' b,Bk k b→Bk k' b→k=k') →
  (∀(j:Nat) (c:C) (v:Value),cs[j]? = some c→ws[j]? = some v→Rd E c v)→takeK ds cs H K →
  ∃E' cs' H',Le E E'∧E'.w=E.w∧RepH E' H'∧(ws++vs).length=cs'.length∧(∀(j:Nat) (c:C) (v:Value),cs'[j]? = some c→(ws++vs)[j]? = some v→Rd E' c v)∧K cs' H'
 | [],vs,cs,ws,E,H,Bk,hH,hl,hlw,hc,hd,hr,h=>by
  obtain rfl:vs=[]:=q_ (by simpa using hl)
  exact ⟨E,cs,H,Le.refl E,rfl,hH,by simpa using hlw,by simpa using hr,h⟩
 | d :: r,[],cs,ws,E,H,Bk,hH,hl,hlw,hc,hd,hr,h=>by simp at hl
 | d :: r,v :: vs,cs,ws,E,H,Bk,hH,hl,hlw,hc,hd,hr,h=>by
  have hl':vs.length=r.length:=by simpa using hl
  have h0:=hc 0 d v rfl rfl
  have hdis:∀k k' b,Bk (k+1) b→Bk (k'+1) b→k=k':=fun k k' b h1 h2=>by have:=hd _ _ b h1 h2;omega
  have snoc:∀(E1:Env) (c0:C),Rd E1 c0 v→(∀(j:Nat) (c:C) (u:Value),cs[j]? = some c→ws[j]? = some u→Rd E1 c u)→∀(j:Nat) (c:C) (u:Value),(cs++[c0])[j]? = some c→(ws++[v])[j]? = some u→Rd E1 c u:=fun E1 c0 hc0 ho j c u h1 h2=>by
   by_cases hj:j<cs.length
   ·rw [l_ hj] at h1
    rw [l_ (by omega)] at h2
    exact ho j c u h1 h2
   ·rw [k_ (by omega)] at h1
    rw [k_ (by omega),hlw] at h2
    have hj0:j - cs.length=0:=by
     have:=(a_.1 h1).1
     simp at this;omega
    rw [hj0] at h1 h2
    simp at h1 h2
    subst h1 h2
    exact hc0
  have flat:∀c0,Rd E c0 v→takeK r (cs++[c0]) H K→∃E' cs' H',Le E E'∧E'.w=E.w∧RepH E' H'∧(ws++v :: vs).length=cs'.length∧(∀(j:Nat) (c:C) (u:Value),cs'[j]? = some c→(ws++v :: vs)[j]? = some u→Rd E' c u)∧K cs' H':=fun c0 hc0 h=>by
   have:=takeK_sound r vs (cs++[c0]) (ws++[v]) E H (fun j=>Bk (j+1)) hH hl' (by simp [hlw]) (fun j d' v' h1 h2=>hc (j+1) d' v' (by simpa using h1) (by simpa using h2)) hdis (snoc E c0 hc0 hr) h
   simpa using this
  match d,h,h0 with
  | .str s,h,h0 =>
   have h9:=h0.tr
   generalize Bk 0=B0 at h9
   cases h9 with
   | str=>exact flat _ (.d _ _ (.str s)) h
  | .int k n,h,h0 =>
   have h9:=h0.tr
   generalize Bk 0=B0 at h9
   cases h9 with
   | int=>exact flat _ (.d _ _ (.int k n)) h
  | .bool b,h,h0 =>
   have h9:=h0.tr
   generalize Bk 0=B0 at h9
   cases h9 with
   | bool=>exact flat _ (.d _ _ (.bool b)) h
  | .sl kid,h,h0 =>
   obtain ⟨h1,h2⟩:=h
   by_cases hk:kid=[]
   ·subst hk
    have h9:=h0.tr
    generalize Bk 0=B0 at h9
    cases h9 with
    | nil a cap=>exact flat _ (.d _ _ (.nil a cap)) (h1 rfl)
    | sl b cap z e _ arr val Bs hne=>exact absurd rfl hne
   ·obtain ⟨zk,e',B2,hL,hB2⟩:=h0.tr.loose hk h0.free
    obtain ⟨g1,g2⟩:=hH.giveT (q:=0) hL
    have hNN:E.N=H.length:=hH.N
    have hτ:(E.named 0 v).τ H.length=(0,v):=by simp [Env.named,hNN]
    have:=takeK_sound r vs (cs++[.own H.length 0]) (ws++[v]) (E.named 0 v) (H++[.tree 0 zk e' kid B2 none]) (fun j=>Bk (j+1)) g2 hl' (by simp [hlw]) (fun j d' v' k1 k2=>by
     have hc':=hc (j+1) d' v' (by simpa using k1) (by simpa using k2)
     refine ⟨hc'.tr,hc'.one,fun b hb=>?_⟩
     obtain ⟨f1,f2,f3,f4⟩:=hc'.free b hb
     refine ⟨f1,f2,f3,fun r' o' ho' hbb=>?_⟩
     by_cases hlt:r'<H.length
     ·rw [l_ hlt] at ho'
      have hτ':(E.named 0 v).τ r'=E.τ r':=by simp only [Env.named];rw [if_neg (by omega)]
      rw [O.block_same (E:=E) (E':=E.named 0 v) rfl hτ'] at hbb
      exact f4 r' o' ho' hbb
     ·have hre:r'=H.length:=by
       have:=(a_.1 ho').1
       simp at this;omega
      subst hre
      rw [k_ (by simp)] at ho'
      simp at ho'
      subst ho'
      simp only [O.block,hτ] at hbb
      have:=hd _ _ b hb (hB2 b hbb)
      omega) hdis (snoc _ _ (.own _ _ _ (by simp [Env.named,hNN]) h0.one (by rw [hτ];exact m_ _) (fun _=>by rw [hτ])) (fun j c u k1 k2=>(hr j c u k1 k2).le g1)) (h2 hk zk e' B2)
    obtain ⟨E',cs',H',q1,q2,q3,q4,q5,q6⟩:=this
    exact ⟨E',cs',H',g1.trans q1,q2,q3,by simpa using q4,by simpa using q5,q6⟩
theorem effOk_take {s:St} {o:Oper} {K:C→List O→Prop} {t:TypeId} {x:Operand} {r q z i off:Nat} (ho:o.op=.load t x) (hx:okOperand x=true) (hp:ev s x=.tptr r q z i off) (hag:tAgg P t=some true)
  (h:vcTake P s t r q z i off K):EffOk P s o K:=by
 unfold vcTake at h
 split at h
 ·rename_i q' z' e xs B n hr hn
  obtain ⟨rfl,rfl,hi,hoff,hn0,h⟩:=h
  intro E ns a hst
  have hpv:=rd_ev hst x hx
  rw [hp] at hpv
  generalize hg:a.eval x=pv at hpv
  obtain ⟨h1,h2,h3,h4,h5⟩:=hst.heap.obj r _ hr
  have hxi:xs[i]? = some xs[i]:=g_ hi
  have hxl:xs[i].length=z:=h2 _ (List.getElem_mem _)
  have h:=h _ hxi
  rcases h5 with ⟨ad,_,rfl⟩ | ⟨b,cap,arr,k1,k2,k3,k4,k5,k6,k7,k8,k9,_⟩
  ·simp at hi
  obtain ⟨val,Bs,m1,m2,m3⟩:=k7
  let Fz:Nat→Prop:=fun b'=>∃j,off≤j∧j<off+n∧Bs i j b'
  have hFB:∀b',Fz b'→B b':=fun b' ⟨j,_,_,hb⟩=>m2 i j b' hb
  have hblkF:∀b',Fz b'→(O.tree q z e xs B none).block E r b':=fun b' hb=>.inr (hFB b' hb)
  have hrl:=(a_.1 hr).1
  have hcell:∀j,j<n→∃c,xs[i][off+j]? = some c∧arr[i * z+off+j]? = some (val i (off+j))∧(val i (off+j)).oneCell'=true∧Tr E.w c (val i (off+j)) (Bs i (off+j)):=fun j hj=>by
   have hc:xs[i][off+j]? = some (xs[i][off+j]'(by omega)):=g_ _
   obtain ⟨n1,n2,n3⟩:=m1 i (off+j) _ _ hxi hc
   exact ⟨_,hc,by rw [Nat.add_assoc];exact n1,n2,n3 (fun h=>h)⟩
  have hsz:i * z+off+n≤arr.size:=by
   obtain ⟨c,_,hv,_⟩:=hcell (n - 1) (by omega)
   have:=(h_.1 hv).1
   omega
  cases hpv with
  | tptr _ _ _ _ _ b' hrN hq hv =>
   obtain ⟨n',cap',e1⟩:=hv h1.symm
   rw [k1] at e1
   cases e1
   have hld:=run_load_block (P:=P) k2 hsz
   have hrun:=loadVar_agg hag hn hld
   generalize hvs:((List.range n).map _).toArray=vs at hrun
   have hrun':(Instr.loadAt t (.pointer (some ⟨b,i * z+off,none⟩))).run P E.w=.ok (.agg vs) E.w:=by
    simp only [Instr.loadAt,Instr.sureAddr,Sem.run_bind,Sem.run_pure,Result.andThen_ok]
    exact hrun
   let B':Nat→Prop:=fun b'=>B b'∧¬Fz b'
   let o':O:=.tree q z e (xs.set i (xs[i].take off++List.replicate n .any++xs[i].drop (off+n))) B' none
   have hH:RepH E (s.H.set r o'):=by
    refine hst.heap.turn (r0:=r) (o0:=o') (Le.refl E) (by simp [hst.heap.N]) (fun r' hr'=>?_) (fun o' ho'=>?_) (fun _ _ _=>rfl) (fun r' o' b hr' ho' hb=>⟨rfl,fun i hs=>hs⟩) (fun _ hb=>hb) (fun b i hs=>hst.heap.Slt b i hs) ?_ (fun b2 hb2=>?_)
    ·rw [e_ (fun e=>hr' e.symm)]
    ·rw [j_ hrl] at ho'
     exact (Option.some.inj ho').symm
    ·have hlen':(xs[i].take off++List.replicate n D.any++xs[i].drop (off+n)).length=z:=by simp;omega
     refine ⟨h1,fun x hx=>?_,h3,fun b' hb' i' hs=>h4 b' hb'.1 i' hs,.inr ⟨b,cap,arr,by rw [List.length_set];exact k1,k2,by intro e;apply k3;simpa using e,by simpa using k4,k5,k6,⟨val,fun i' j' b'=>Bs i' j' b'∧¬(i'=i∧off≤j'∧j'<off+n),fun i' j' x' c hx' hc'=>?_,fun i' j' b' hb'=>?_,fun i1 j1 i2 j2 b' hb1 hb2=>m3 i1 j1 i2 j2 b' hb1.1 hb2.1⟩,fun hb=>k8 hb.1,k9,trivial⟩⟩
     ·rcases List.mem_or_eq_of_mem_set hx with hx | rfl
      ·exact h2 x hx
      ·exact hlen'
     ·have hi'l:i'<xs.length:=by have:=(a_.1 hx').1;simpa using this
      by_cases e:i'=i
      ·subst e
       rw [j_ hi'l] at hx'
       cases hx'
       have hj':j'<z:=by rw [←hlen'];exact (a_.1 hc').1
       have hcj:xs[i'][j']? = some (xs[i'][j']'(by omega)):=g_ _
       obtain ⟨n1,n2,n3⟩:=m1 i' j' _ _ hxi hcj
       refine ⟨n1,n2,fun _=>?_⟩
       by_cases hj:off≤j'∧j'<off+n
       ·have hd:c=.any:=by
         rw [List.append_assoc,k_ (by simp;omega),l_ (by simp;omega)] at hc'
         rw [List.getElem?_replicate] at hc'
         split at hc'
         ·exact (Option.some.inj hc').symm
         ·cases hc'
        subst hd
        have hF:(fun b'=>Bs i' j' b'∧¬(i'=i'∧off≤j'∧j'<off+n))=fun _=>False:=by
         funext b';simp;exact fun _=>⟨hj.1,hj.2⟩
        show Tr _ _ _ (fun b'=>Bs i' j' b'∧¬(i'=i'∧off≤j'∧j'<off+n))
        rw [hF];exact .any _
       ·have hF:(fun b'=>Bs i' j' b'∧¬(i'=i'∧off≤j'∧j'<off+n))=Bs i' j':=by
         funext b'
         exact propext ⟨fun h=>h.1,fun h=>⟨h,fun ⟨_,h2⟩=>hj h2⟩⟩
        show Tr _ _ _ (fun b'=>Bs i' j' b'∧¬(i'=i'∧off≤j'∧j'<off+n))
        rw [hF]
        have hce:c=xs[i'][j']'(by omega):=by
         by_cases hjo:j'<off
         ·rw [List.append_assoc,l_ (by simp;omega),List.getElem?_take,if_pos hjo,hcj] at hc'
          exact (Option.some.inj hc').symm
         ·rw [k_ (by simp;omega),List.getElem?_drop] at hc'
          simp only [List.length_append,List.length_take,List.length_replicate] at hc'
          rw [show off+n+(j' - (min off xs[i'].length+n))=j' by omega,hcj] at hc'
          exact (Option.some.inj hc').symm
        rw [hce];exact n3 (fun h=>h)
      ·rw [e_ (fun e2=>e e2.symm)] at hx'
       obtain ⟨n1,n2,n3⟩:=m1 i' j' _ _ hx' hc'
       refine ⟨n1,n2,fun _=>?_⟩
       have hF:(fun b'=>Bs i' j' b'∧¬(i'=i∧off≤j'∧j'<off+n))=Bs i' j':=by
        funext b'
        exact propext ⟨fun h=>h.1,fun h=>⟨h,fun ⟨h2,_⟩=>e h2⟩⟩
       show Tr _ _ _ (fun b'=>Bs i' j' b'∧¬(i'=i∧off≤j'∧j'<off+n))
       rw [hF];exact n3 (fun h=>h)
     ·refine ⟨m2 i' j' b' hb'.1,fun ⟨j,g1,g2,g3⟩=>?_⟩
      obtain ⟨rfl,rfl⟩:=m3 i' j' i j b' hb'.1 g3
      exact hb'.2 ⟨rfl,g1,g2⟩
    ·have hb2':(O.tree q z e xs B none).block E r b2:=by
      rcases hb2 with hb2 | hb2
      ·exact .inl hb2
      ·exact .inr hb2.1
     exact ⟨hst.heap.pv r _ b2 hr hb2',hst.heap.lt r _ b2 hr hb2',fun r' o' hr' ho' hb3=>hr' (hst.heap.apart r' r o' _ b2 ho' hr hb3 hb2')⟩
   have hvat:∀j,j<n→vs.toList[j]? = some (val i (off+j)):=fun j hj=>by
    obtain ⟨c,_,g1,_⟩:=hcell j hj
    rw [←hvs,c_,List.getElem?_range hj]
    simp only [Option.map_some]
    rw [Array.getD_eq_getD_getElem?,g1];rfl
   have hvl:vs.toList.length=n:=by rw [←hvs];simp
   obtain ⟨E',cs',H',q1,q2,q3,q4,q5,q6⟩:=takeK_sound (K:=fun cs H=>K (.agg cs) H) ((xs[i].drop off).take n) vs.toList [] [] E (s.H.set r o') (fun j b'=>j<n∧Bs i (off+j) b') hH (by rw [hvl];simp;omega) rfl (fun j d v hd hv=>by
    have hj:j<n:=by
     have:=(a_.1 hv).1
     omega
    rw [hvat j hj] at hv
    cases hv
    obtain ⟨c,g0,_,g2,g3⟩:=hcell j hj
    rw [List.getElem?_take,if_pos hj,List.getElem?_drop,g0] at hd
    cases hd
    have hFe:(fun b'=>j<n∧Bs i (off+j) b')=Bs i (off+j):=by funext b';simp [hj]
    rw [hFe]
    refine ⟨g3,g2,fun b' hb'=>?_⟩
    have hbF:Fz b':=⟨off+j,by omega,by omega,hb'⟩
    have hbl:=hblkF b' hbF
    refine ⟨hst.heap.pv r _ b' hr hbl,hst.heap.lt r _ b' hr hbl,h4 b' (hFB b' hbF),fun r' o2 ho2 hb2=>?_⟩
    by_cases er:r=r'
    ·subst er
     rw [j_ hrl] at ho2
     cases ho2
     rcases hb2 with hb2 | hb2
     ·have:b'=b:=by
       rw [k1] at hb2
       simp only [ownB] at hb2
       split at hb2
       ·cases hb2
       ·simpa using hb2.symm
      subst this
      exact k8 (hFB _ hbF)
     ·exact hb2.2 hbF
    ·rw [e_ er] at ho2
     exact er (hst.heap.apart r r' _ o2 b' hr ho2 hbl hb2)) (fun k k' b' hb hb'=>by
    have:=m3 _ _ _ _ b' hb.2 hb'.2
    omega) (fun j c v hc=>by simp at hc) (h B')
   unfold Oper.wp execOp
   simp only [ho,hg,Sem.run_bind,hrun',Result.andThen_ok,Sem.run_pure,Oper.upon]
   refine ⟨_,E',.agg cs',H',rfl,q2,?_,q3,q1,q6⟩
   refine .agg _ _ (by simpa using q4) (fun j v hv=>?_) (fun j c v hc hv=>q5 j c v hc (by simpa using hv))
   have hv':vs.toList[j]? = some v:=by simpa using hv
   have hj:j<n:=by
    have:=(a_.1 hv').1
    omega
   rw [hvat j hj] at hv'
   cases hv'
   obtain ⟨_,_,_,g2,_⟩:=hcell j hj
   exact g2
 ·exact h.elim
def vcOpM (P:Program) (s:St) (o:Oper) (K:C→List O→Prop):Prop:=
 match o.op with
 | .load t x =>
  (match ev s x with
  | .tptr r q z i off=>tAgg P t=some true∧okOperand x=true∧vcTake P s t r q z i off K
  | _=>vcOpT P s o K)
 | _=>vcOpT P s o K
theorem vcOpM_sound {s:St} {o:Oper} {K:C→List O→Prop} (h:vcOpM P s o K):EffOk P s o K:=by
 unfold vcOpM at h
 split at h
 ·rename_i t x ho
  split at h
  ·rename_i r q z i off hev
   exact effOk_take ho h.2.1 hev h.1 h.2.2
  ·exact vcOpT_sound h
 ·exact vcOpT_sound h
def vcRM (P:Program) (n:Nat) (K:St→Prop):List Oper→St→Prop
 | [],⟨σ,H⟩=>K ⟨σ,H⟩
 | o :: rest,⟨σ,H⟩=>okDst n o=true∧o.guard=none∧vcOpM P ⟨σ,H⟩ o (kR (vcRM P n K rest) ⟨σ,H⟩ o.dst)
attribute [go_sem] takeK.eq_1 takeK.eq_2 takeK.eq_3 takeK.eq_4 takeK.eq_5 vcTake.eq_def vcOpM.eq_def vcRM.eq_1 vcRM.eq_2
end
def C.rn1 (f:Nat→Nat):C→C
 | .ptr r o=>.ptr (f r) o
 | .own r q=>.own (f r) q
 | .rsl r n=>.rsl (f r) n
 | .eptr r z i o=>.eptr (f r) z i o
 | .tptr r q z i o=>.tptr (f r) q z i o
 | .map r=>.map (f r)
 | c=>c
def C.rn2 (f:Nat→Nat):C→C
 | .fn g cs=>.fn g (cs.map (C.rn1 f))
 | .agg cs=>.agg (cs.map (C.rn1 f))
 | .xfn g cs=>.xfn g (cs.map (C.rn1 f))
 | c=>c.rn1 f
def C.rn (f:Nat→Nat):C→C
 | .tup cs=>.tup (cs.map (C.rn2 f))
 | c=>c.rn2 f
section
variable {E E':Env} {f:Nat→Nat} {m:Nat}
theorem Rd.rn1 (hw:E'.w=E.w) (hS:E'.S=E.S) (hβ:∀r,r<m→E'.β (f r)=E.β r) (hτ:∀r,r<m→E'.τ (f r)=E.τ r) (hN:∀r,r<m→f r<E'.N) {c:C} {v:Value} (hc:c.refsLt1 m=true) (h:Rd E c v):Rd E' (c.rn1 f) v:=by
 cases h with
 | d x _ hd=>exact .d _ _ (by rw [hw,hS];exact hd)
 | nil0 a=>exact .nil0 a
 | nilp=>exact .nilp
 | val v=>exact .val v
 | ptr r off _=>simp only [C.refsLt1,decide_eq_true_eq] at hc;rw [←hβ r hc];exact Rd.ptr (E:=E') (f r) off (hN r hc)
 | own r q _ _ g1 g2 g3=>simp only [C.refsLt1,decide_eq_true_eq] at hc;exact Rd.own (E:=E') (f r) q v (hN r hc) g1 (by rw [hτ r hc];exact g2) (by rw [hτ r hc];exact g3)
 | rsl r n _=>simp only [C.refsLt1,decide_eq_true_eq] at hc;rw [←hβ r hc];exact Rd.rsl (E:=E') (f r) n (hN r hc)
 | eptr r z i off _=>simp only [C.refsLt1,decide_eq_true_eq] at hc;rw [←hβ r hc];exact Rd.eptr (E:=E') (f r) z i off (hN r hc)
 | tptr r q z i off b _ g2 g3=>simp only [C.refsLt1,decide_eq_true_eq] at hc;exact Rd.tptr (E:=E') (f r) q z i off b (hN r hc) (by rw [hτ r hc];exact g2) (by rw [hτ r hc];exact g3)
 | map r _=>simp only [C.refsLt1,decide_eq_true_eq] at hc;rw [←hβ r hc];exact Rd.map (E:=E') (f r) (hN r hc)
 | _=>simp [C.refsLt1] at hc
theorem Rd.rn2 (hw:E'.w=E.w) (hS:E'.S=E.S) (hβ:∀r,r<m→E'.β (f r)=E.β r) (hτ:∀r,r<m→E'.τ (f r)=E.τ r) (hN:∀r,r<m→f r<E'.N) {c:C} {v:Value} (hc:c.refsLt m=true) (h:Rd E c v):Rd E' (c.rn2 f) v:=by
 by_cases h0:c.refsLt1 m=true
 ·have h1:=Rd.rn1 hw hS hβ hτ hN h0 h
  cases c<;>first | exact h1 | (simp [C.refsLt1] at h0)
 ·cases h with
  | fn g cs vs hl hr =>
   simp only [C.refsLt,d_] at hc
   refine .fn _ _ _ (by simpa using hl) (fun i c v hi hv=>?_)
   simp only [c_,i_] at hi
   obtain ⟨c0,hc0,rfl⟩:=hi
   exact Rd.rn1 hw hS hβ hτ hN (hc c0 (b_ hc0)) (hr i c0 v hc0 hv)
  | agg cs vs hl h1 hr =>
   simp only [C.refsLt,d_] at hc
   refine .agg _ _ (by simpa using hl) h1 (fun i c v hi hv=>?_)
   simp only [c_,i_] at hi
   obtain ⟨c0,hc0,rfl⟩:=hi
   exact Rd.rn1 hw hS hβ hτ hN (hc c0 (b_ hc0)) (hr i c0 v hc0 hv)
  | xfn g cs vs hl hr =>
   simp only [C.refsLt,d_] at hc
   refine .xfn _ _ _ (by simpa using hl) (fun i c v hi hv=>?_)
   simp only [c_,i_] at hi
   obtain ⟨c0,hc0,rfl⟩:=hi
   exact Rd.rn1 hw hS hβ hτ hN (hc c0 (b_ hc0)) (hr i c0 v hc0 hv)
  | _=>simp_all [C.refsLt,C.refsLt1]
theorem Rd.rn (hw:E'.w=E.w) (hS:E'.S=E.S) (hβ:∀r,r<m→E'.β (f r)=E.β r) (hτ:∀r,r<m→E'.τ (f r)=E.τ r) (hN:∀r,r<m→f r<E'.N) {c:C} {v:Value} (hc:c.refsLtT m=true) (h:Rd E c v):Rd E' (c.rn f) v:=by
 cases c with
 | tup cs =>
  cases h with
  | tup _ vs hl hr =>
   simp only [C.refsLtT,d_] at hc
   refine .tup _ _ (by simpa using hl) (fun i c v hi hv=>?_)
   simp only [c_,i_] at hi
   obtain ⟨c0,hc0,rfl⟩:=hi
   exact Rd.rn2 hw hS hβ hτ hN (hc c0 (b_ hc0)) (hr i c0 v hc0 hv)
 | _=>exact Rd.rn2 hw hS hβ hτ hN (by simpa [C.refsLtT] using hc) h
theorem Rd.un1 (hw:E.w=E'.w) (hS:E.S=E'.S) (hβ:∀r,r<m→E'.β (f r)=E.β r) (hτ:∀r,r<m→E'.τ (f r)=E.τ r) (hN:m≤E.N) {c:C} {v:Value} (hc:c.refsLt1 m=true) (h:Rd E' (c.rn1 f) v):Rd E c v:=by
 cases c with
 | d x=>cases h with | d _ _ hd=>exact .d _ _ (by rw [hw,hS];exact hd)
 | nil0=>cases h with | nil0 a=>exact .nil0 a
 | nilp=>cases h with | nilp=>exact .nilp
 | val v=>cases h with | val _=>exact .val v
 | ptr r off=>simp only [C.refsLt1,decide_eq_true_eq] at hc;cases h with | ptr _ _ _=>rw [hβ r hc];exact Rd.ptr (E:=E) r off (by omega)
 | own r q=>simp only [C.refsLt1,decide_eq_true_eq] at hc;cases h with | own _ _ _ _ g1 g2 g3=>exact Rd.own (E:=E) r q v (by omega) g1 (by rw [←hτ r hc];exact g2) (by rw [←hτ r hc];exact g3)
 | rsl r n=>simp only [C.refsLt1,decide_eq_true_eq] at hc;cases h with | rsl _ _ _=>rw [hβ r hc];exact Rd.rsl (E:=E) r n (by omega)
 | eptr r z i off=>simp only [C.refsLt1,decide_eq_true_eq] at hc;cases h with | eptr _ _ _ _ _=>rw [hβ r hc];exact Rd.eptr (E:=E) r z i off (by omega)
 | tptr r q z i off=>simp only [C.refsLt1,decide_eq_true_eq] at hc;cases h with | tptr _ _ _ _ _ b _ g2 g3=>exact Rd.tptr (E:=E) r q z i off b (by omega) (by rw [←hτ r hc];exact g2) (by rw [←hτ r hc];exact g3)
 | map r=>simp only [C.refsLt1,decide_eq_true_eq] at hc;cases h with | map _ _=>rw [hβ r hc];exact Rd.map (E:=E) r (by omega)
 | _=>simp [C.refsLt1] at hc
theorem Rd.un2 (hw:E.w=E'.w) (hS:E.S=E'.S) (hβ:∀r,r<m→E'.β (f r)=E.β r) (hτ:∀r,r<m→E'.τ (f r)=E.τ r) (hN:m≤E.N) {c:C} {v:Value} (hc:c.refsLt m=true) (h:Rd E' (c.rn2 f) v):Rd E c v:=by
 cases c with
 | fn g cs =>
  simp only [C.refsLt,d_] at hc
  cases h with
  | fn _ _ vs hl hr =>
   refine .fn _ _ _ (by simpa using hl) (fun i c v hi hv=>?_)
   exact Rd.un1 hw hS hβ hτ hN (hc c (b_ hi)) (hr i (c.rn1 f) v (by rw [c_,hi];rfl) hv)
 | agg cs =>
  simp only [C.refsLt,d_] at hc
  cases h with
  | agg _ vs hl h1 hr =>
   refine .agg _ _ (by simpa using hl) h1 (fun i c v hi hv=>?_)
   exact Rd.un1 hw hS hβ hτ hN (hc c (b_ hi)) (hr i (c.rn1 f) v (by rw [c_,hi];rfl) hv)
 | xfn g cs =>
  simp only [C.refsLt,d_] at hc
  cases h with
  | xfn _ _ vs hl hr =>
   refine .xfn _ _ _ (by simpa using hl) (fun i c v hi hv=>?_)
   exact Rd.un1 hw hS hβ hτ hN (hc c (b_ hi)) (hr i (c.rn1 f) v (by rw [c_,hi];rfl) hv)
 | _=>exact Rd.un1 hw hS hβ hτ hN (by simpa [C.refsLt] using hc) h
theorem Rd.un (hw:E.w=E'.w) (hS:E.S=E'.S) (hβ:∀r,r<m→E'.β (f r)=E.β r) (hτ:∀r,r<m→E'.τ (f r)=E.τ r) (hN:m≤E.N) {c:C} {v:Value} (hc:c.refsLtT m=true) (h:Rd E' (c.rn f) v):Rd E c v:=by
 cases c with
 | tup cs =>
  simp only [C.refsLtT,d_] at hc
  cases h with
  | tup _ vs hl hr =>
   refine .tup _ _ (by simpa using hl) (fun i c v hi hv=>?_)
   exact Rd.un2 hw hS hβ hτ hN (hc c (b_ hi)) (hr i (c.rn2 f) v (by rw [c_,hi];rfl) hv)
 | _=>exact Rd.un2 hw hS hβ hτ hN (by simpa [C.refsLtT] using hc) h
end
theorem ACalls.emb {P:Program} {g:FuncId} {args:List C} {H0:List O} {R:C→List O→Prop} (h:ACalls P g args H0 R) {H:List O} (rs:List Nat) (ha:args.all (C.refsLtT H0.length)=true) (hst:H0.all O.still=true)
  (hrs:rs.length=H0.length) (hnd:rs.Nodup) (hat:rs.map (H[·]?)=H0.map some) {K:C→List O→Prop}
  (hk:∀c H',R c H'→H'.length=H0.length→c.refsLtT H0.length=true∧H'.all O.still=true∧K (c.rn fun i=>rs.getD i 0) (setAll H rs H')):ACalls P g (args.map (C.rn fun i=>rs.getD i 0)) H K:=by
 intro E vs hH hs hargs
 have hpl:∀i,i<H0.length→∃x o,rs[i]? = some x∧rs.getD i 0=x∧H[x]? = some o∧H0[i]? = some o:=fun i hi=>by
  have hi':i<rs.length:=by omega
  have h1:=congrArg (fun l=>l[i]?) hat
  simp only [c_,g_ hi',g_ hi,Option.map_some] at h1
  exact ⟨rs[i],H0[i],g_ hi',by simp [hi'],Option.some.inj h1,g_ hi⟩
 have hltR:∀r,r∈rs→r<H.length:=fun r hr=>by
  obtain ⟨i,hi⟩:=List.mem_iff_getElem?.1 hr
  obtain ⟨x,o,h1,_,h3,_⟩:=hpl i (by rw [←hrs];exact (a_.1 hi).1)
  rw [hi] at h1;cases h1
  exact (a_.1 h3).1
 have hpos:∀x i,rs[i]? = some x→pos rs x=some i:=fun x i hx=>by
  cases hp:pos rs x with
  | none=>exact absurd (b_ hx) (pos_none hp)
  | some j =>
   have hj:=pos_some hp
   obtain ⟨a1,a2⟩:=a_.1 hx
   obtain ⟨b1,b2⟩:=a_.1 hj
   have hpw:=List.pairwise_iff_getElem.1 hnd
   rcases Nat.lt_trichotomy i j with hlt | rfl | hlt
   ·exact absurd (a2.trans b2.symm) (hpw i j a1 b1 hlt)
   ·rfl
   ·exact absurd (b2.trans a2.symm) (hpw j i b1 a1 hlt)
 have hinj:∀i j,i<H0.length→j<H0.length→rs.getD i 0=rs.getD j 0→i=j:=fun i j hi hj he=>by
  obtain ⟨x,_,h1,h2,_⟩:=hpl i hi
  obtain ⟨y,_,g1,g2,_⟩:=hpl j hj
  have:x=y:=by rw [←h2,←g2,he]
  subst this
  have a1:=hpos x i h1
  have a2:=hpos x j g1
  rw [a1] at a2;exact Option.some.inj a2
 let f:Nat→Nat:=fun i=>rs.getD i 0
 let E0:Env:={ E with N:=H0.length,β:=fun i=>E.β (f i),τ:=fun i=>E.τ (f i),pv:=fun b=>∃(i:Nat) (o:O),H0[i]? = some o∧o.block E (f i) b }
 have hlt0:∀{i:Nat} {o:O},H0[i]? = some o→i<H0.length:=fun ho=>(a_.1 ho).1
 have hget:∀{i:Nat} {o:O},H0[i]? = some o→H[f i]? = some o:=fun {i o} ho=>by
  obtain ⟨x,o',_,h2,h3,h4⟩:=hpl i (hlt0 ho)
  rw [ho] at h4;cases h4
  show H[rs.getD i 0]? = _
  rw [h2];exact h3
 simp only [d_] at hst ha
 have hb0:∀(i:Nat) (o:O),o.block E0 i=o.block E (f i):=fun i o=>O.block_ren rfl rfl
 have hpv0:∀b,E0.pv b→E.pv b:=fun b ⟨i,o,ho,hb⟩=>hH.pv (f i) o b (hget ho) hb
 have hE0:RepH E0 H0:=by
  refine ⟨rfl,fun i o ho=>?_,fun i o b ho hb=>⟨i,o,ho,by rw [←hb0];exact hb⟩,fun i o b ho hb=>hH.lt (f i) o b (hget ho) (by rw [←hb0];exact hb),fun i j o o' b ho ho' hb hb'=>?_,hH.Slt⟩
  ·exact RepO.ren (E:=E) (E':=E0) (r:=f i) (r':=i) rfl rfl rfl rfl (hst o (b_ ho)) (hH.obj (f i) o (hget ho))
  ·rw [hb0] at hb hb'
   exact hinj i j (hlt0 ho) (hlt0 ho') (hH.apart (f i) (f j) o o' b (hget ho) (hget ho') hb hb')
 refine (h E0 vs hE0 (by simpa using hs) (fun i c v hc hv=>?_)).mono ?_
 ·have h1:=hargs i (c.rn f) v (by rw [c_,hc];rfl) hv
  exact Rd.un (E:=E0) (E':=E) (m:=H0.length) rfl rfl (fun _ _=>rfl) (fun _ _=>rfl) (m_ _) (ha c (b_ hc)) h1
 ·rintro ex w' ⟨v,c,E',H',rfl,rfl,h3,h4,h5,h6,h7⟩
  obtain ⟨k1,k2,k3⟩:=hk c H' h7 h6
  have hN':E'.N=H0.length:=by rw [h3.N,h6]
  let E2:Env:={ E with w:=E'.w,S:=E'.S,τ:=fun x=>match pos rs x with | some i=>E'.τ i | none=>E.τ x,pv:=fun b=>E.pv b∨E'.pv b }
  have hτin:∀x i,pos rs x=some i→E2.τ x=E'.τ i:=fun x i hp=>by show (match pos rs x with | some i=>E'.τ i | none=>E.τ x)=_;rw [hp]
  have hτout:∀x,pos rs x=none→E2.τ x=E.τ x:=fun x hp=>by show (match pos rs x with | some i=>E'.τ i | none=>E.τ x)=_;rw [hp]
  have hin0:∀x i,pos rs x=some i→i<H0.length∧f i=x:=fun x i hp=>by
   have h1:=pos_some hp
   have hi:i<H0.length:=by rw [←hrs];exact (a_.1 h1).1
   obtain ⟨y,_,g1,g2,_⟩:=hpl i hi
   rw [h1] at g1;cases g1
   exact ⟨hi,g2⟩
  have hβin:∀x i,pos rs x=some i→E2.β x=E'.β i:=fun x i hp=>by
   obtain ⟨g1,g2⟩:=hin0 x i hp
   have:=h4.β i g1
   rw [this]
   show E.β x=E.β (f i)
   rw [g2]
  have hl:Le E E2:=by
   refine ⟨h4.os,h4.tape,h4.output,h4.size,m_ _,fun _ _=>rfl,fun x hx=>?_,h4.S,h4.cell,fun b hb hp=>h4.blk b hb (fun hp'=>hp (hpv0 b hp')),fun b i hs=>?_,fun b hp=>?_,h4.map⟩
   ·cases hp:pos rs x with
    | none=>rw [hτout x hp];exact ⟨m_ _,fun _=>rfl⟩
    | some i =>
     obtain ⟨g1,g2⟩:=hin0 x i hp
     rw [hτin x i hp]
     have:=h4.τ i g1
     have e0:E0.τ i=E.τ x:=by show E.τ (f i)=_;rw [g2]
     rw [e0] at this;exact this
   ·rcases h4.newS b i hs with h' | h' | h'
    ·exact .inl h'
    ·exact .inr (.inl h')
    ·exact .inr (.inr (hpv0 b h'))
   ·rcases hp with hp | hp
    ·exact .inl hp
    ·rcases h4.newP b hp with h' | h'
     ·exact .inl (hpv0 b h')
     ·exact .inr h'
  simp only [d_] at k2
  have hin:∀{x:Nat} {o:O} {i:Nat},pos rs x=some i→(setAll H rs H')[x]? = some o→H'[i]? = some o:=fun {x o i} hp ho=>by
   rw [setAll_at rs H' H i x hnd (by rw [hrs,h6]) hltR (pos_some hp)] at ho;exact ho
  have hout:∀{x:Nat} {o:O},pos rs x=none→(setAll H rs H')[x]? = some o→H[x]? = some o:=fun {x o} hp ho=>by
   rw [setAll_other rs H' H x (pos_none hp)] at ho;exact ho
  have hbin:∀{x:Nat} (o:O) {i:Nat},pos rs x=some i→o.block E2 x=o.block E' i:=fun {x} o {i} hp=>O.block_ren (hβin x i hp) (hτin x i hp)
  have hbout:∀{x:Nat} (o:O),pos rs x=none→o.block E2 x=o.block E x:=fun {x} o hp=>O.block_same rfl (hτout x hp)
  have far:∀{x:Nat} {o:O} {b:Nat},pos rs x=none→H[x]? = some o→o.block E x b→¬E0.pv b:=by
   rintro x o b hp ho hb ⟨i,o1,ho1,hb1⟩
   have he:=hH.apart x (f i) o o1 b ho (hget ho1) hb hb1
   obtain ⟨y,_,g1,g2,_⟩:=hpl i (hlt0 ho1)
   have:pos rs x=some i:=hpos x i (by rw [g1,←g2,he])
   rw [hp] at this;cases this
  have far':∀{x:Nat} {o:O} {b:Nat},pos rs x=none→H[x]? = some o→o.block E x b→¬E'.pv b:=by
   intro x o b hp ho hb hp'
   rcases h4.newP b hp' with h' | h'
   ·exact far hp ho hb h'
   ·have:=hH.lt x o b ho hb;exact absurd h' (by show ¬E.w.heap.size≤b;omega)
  have hH2:RepH E2 (setAll H rs H'):=by
   refine ⟨by rw [setAll_len];exact hH.N,fun x o ho=>?_,fun x o b ho hb=>?_,fun x o b ho hb=>?_,fun x x' o o' b ho ho' hb hb'=>?_,h3.Slt⟩
   ·cases hp:pos rs x with
    | some i =>
     have g1:=hin hp ho
     exact RepO.ren (E:=E') (E':=E2) (r:=i) (r':=x) rfl rfl (hβin x i hp).symm (hτin x i hp).symm (k2 o (b_ g1)) (h3.obj i o g1)
    | none =>
     have ho':=hout hp ho
     refine (hH.obj x o ho').keep hl (by rw [hH.N];exact (a_.1 ho').1) (hτout x hp) (fun b hb=>⟨h4.blk b (hH.lt x o b ho' hb) (far hp ho' hb),fun i hs=>?_⟩)
     rcases h4.newS b i hs with h' | h' | h'
     ·exact h'
     ·have:=hH.lt x o b ho' hb;exact absurd h' (by show ¬E.w.heap.size≤b;omega)
     ·exact absurd h' (far hp ho' hb)
   ·cases hp:pos rs x with
    | some i=>rw [hbin o hp] at hb;exact .inr (h3.pv i o b (hin hp ho) hb)
    | none=>rw [hbout o hp] at hb;exact .inl (hH.pv x o b (hout hp ho) hb)
   ·cases hp:pos rs x with
    | some i=>rw [hbin o hp] at hb;exact h3.lt i o b (hin hp ho) hb
    | none=>rw [hbout o hp] at hb;exact n_ (hH.lt x o b (hout hp ho) hb) h4.size
   ·cases hp:pos rs x with
    | some i =>
     rw [hbin o hp] at hb
     cases hp':pos rs x' with
     | some i' =>
      rw [hbin o' hp'] at hb'
      have e:=h3.apart i i' o o' b (hin hp ho) (hin hp' ho') hb hb'
      subst e
      have a1:=pos_some hp
      have a2:=pos_some hp'
      rw [a1] at a2;exact Option.some.inj a2
     | none =>
      rw [hbout o' hp'] at hb'
      exact absurd (h3.pv i o b (hin hp ho) hb) (far' hp' (hout hp' ho') hb')
    | none =>
     rw [hbout o hp] at hb
     cases hp':pos rs x' with
     | some i' =>
      rw [hbin o' hp'] at hb'
      exact absurd (h3.pv i' o' b (hin hp' ho') hb') (far' hp (hout hp ho) hb)
     | none =>
      rw [hbout o' hp'] at hb'
      exact hH.apart x x' o o' b (hout hp ho) (hout hp' ho') hb hb'
  have hfl:∀i,i<H0.length→f i<E.N:=fun i hi=>by
   obtain ⟨x,o,_,g2,g3,_⟩:=hpl i hi
   show rs.getD i 0<_
   rw [g2,hH.N];exact (a_.1 g3).1
  have hposf:∀i,i<H0.length→pos rs (f i)=some i:=fun i hi=>by
   obtain ⟨x,_,g1,g2,_⟩:=hpl i hi
   show pos rs (rs.getD i 0)=_
   rw [g2];exact hpos x i g1
  exact ⟨v,c.rn f,E2,setAll H rs H',rfl,rfl,hH2,hl,Rd.rn (E:=E') (E':=E2) (m:=H0.length) rfl rfl (fun r hr=>hβin _ r (hposf r hr)) (fun r hr=>hτin _ r (hposf r hr)) hfl k1 h5,by rw [setAll_len],k3⟩
attribute [go_sem] C.rn.eq_def C.rn2.eq_def C.rn1.eq_def
theorem rep_below {E:Env} {H:List O} (h:RepH E H) {w':World} (hb:Below E.w.heap.size E.w w') :
  Le E { E with w:=w' }∧RepH { E with w:=w' } H:=by
 have hl:Le E { E with w:=w' }:=
  ⟨hb.os,hb.tape,hb.output,hb.size,m_ _,fun _ _=>rfl,fun _ _=>⟨m_ _,fun _=>rfl⟩,fun _ _ hs=>hs,fun b i hs=>by
   show w'.cell? _=_
   simp only [World.cell?,hb.block b (h.Slt b i hs)],fun b hlt _=>hb.block b hlt,fun _ _ hs=>.inl hs,fun _ hp=>.inl hp,fun b i _ _ hs hh=>(hb.block b (h.Slt b i hs)).trans hh⟩
 exact ⟨hl,h.keep hl rfl (fun _ _=>rfl) (fun r o b ho hbk=>⟨hb.block b (h.lt r o b ho hbk),fun _ hs=>hs⟩) (fun _ hp=>hp) (fun b i hs=>n_ (h.Slt b i hs) hb.size)⟩
theorem ACalls.boolTs {P:Program} {f:FuncId} {args:List D} {ts:List (Nat×List Value)} {b:Bool} (h:ACalls P f (args.map .d) (ts.map fun t=>.tab t.1 t.2) (fun c H'=>c=.d (.bool b)∧H'=ts.map fun t=>.tab t.1 t.2)) (w:World) (vs:Array Value)
  (hs:vs.size=args.length) (ha:∀(i:Nat) (d:D) (v:Value),args[i]? = some d→vs[i]? = some v→RdD w (fun b _=>b<w.heap.size) d v)
  (ht:∀t,t∈ts→(∀j,w.cell? ⟨t.1,j,none⟩=t.2[j]?)∧t.2≠[]):Calls P f vs w fun e w'=>e=.returned (.bool b)∧Below w.heap.size w w':=by
 let E0:Env:={ w:=w,S:=fun b _=>b<w.heap.size,N:=ts.length,β:=fun _=>0,τ:=fun _=>(0,.tuple #[]),pv:=fun _=>False }
 have hg:∀t,t∈ts→t.1<w.heap.size:=fun t hm=>by
  obtain ⟨h1,h2⟩:=ht t hm
  have h0:=h1 0
  rcases Nat.lt_or_ge t.1 w.heap.size with k | k
  ·exact k
  ·exfalso
   simp only [World.cell?,o_ k] at h0
   apply h2
   exact q_ (by simpa using h0.symm)
 have at0:∀(r:Nat) (o:O),(ts.map fun t=>O.tab t.1 t.2)[r]? = some o→∃t,t∈ts∧o=.tab t.1 t.2:=fun r o ho=>by
  rw [c_,i_] at ho
  obtain ⟨t,h1,h2⟩:=ho
  exact ⟨t,b_ h1,h2.symm⟩
 have nb:∀(r:Nat) (o:O) (b:Nat),(ts.map fun t=>O.tab t.1 t.2)[r]? = some o→¬o.block E0 r b:=fun r o b ho hb=>by
  obtain ⟨t,_,e⟩:=at0 r o ho
  rw [e] at hb;exact hb
 have hE0:RepH E0 (ts.map fun t=>O.tab t.1 t.2):=⟨by simp [E0],fun r o ho=>by
  obtain ⟨t,hm,e⟩:=at0 r o ho
  rw [e];exact fun j _=>⟨hg t hm,(ht t hm).1 j⟩,fun r o b ho hb=>(nb r o b ho hb).elim,fun r o b ho hb=>(nb r o b ho hb).elim,fun r r' o o' b ho _ hb=>(nb r o b ho hb).elim,fun b i h=>h⟩
 refine (h E0 vs hE0 (by simpa using hs) (fun i c v hc hv=>?_)).mono ?_
 ·simp only [c_,i_] at hc
  obtain ⟨d,hd,rfl⟩:=hc
  exact .d _ _ (ha i d v hd hv)
 ·rintro e w' ⟨v,c,E',H',rfl,rfl,h3,h4,h5,h6,rfl,rfl⟩
  cases h5 with
  | d _ _ hd=>cases hd;exact ⟨rfl,h4.os,h4.tape,h4.output,h4.size,fun k hk=>h4.blk k hk (fun hp=>hp)⟩
section
variable {P:Program} {n:Nat} {md:Region.Mode} {ops:Array Oper} {LA:Array Bool} {F:List (Nat×O)}
theorem vcOpM_congr {s s':St} {o:Oper} {K:C→List O→Prop} (hH:s.H=s'.H) (he:∀x,x∈o.op.operands→ev s x=ev s' x) (h:vcOpM P s o K):vcOpM P s' o K:=by
 unfold vcOpM at h ⊢
 split at h
 ·rename_i t x ho
  have hx:=he x (by rw [ho];simp [Op.operands])
  rw [←hx]
  split at h
  ·rename_i r q z i off hev
   refine ⟨h.1,h.2.1,?_⟩
   have h3:=h.2.2
   unfold vcTake at h3 ⊢
   rw [←hH];exact h3
  ·exact vcOpT_congr hH he h
 ·exact vcOpT_congr hH he h
def vcAM (P:Program) (n:Nat) (ops:Array Oper) (F:List (Nat×O)) (X:List Nat) (K:St→Prop):List Nat→St→Prop
 | [],⟨σ,H⟩=>K ⟨σ,H⟩
 | i :: r,⟨σ,H⟩=>match ops[i]? with
  | none=>False
  | some o=>okDst n o=true∧o.guard=none ∧
   (match allocOp o.op with
   | some _=>vcAM P n ops F X K r (put ⟨σ,H⟩ o.dst .top)
   | none=>(match quietX X i o.op with
    | true=>vcQE P F ⟨σ,H⟩ o.op (kD (vcAM P n ops F X K r) ⟨σ,H⟩ o.dst)
    | false=>vcOpM P ⟨σ,H⟩ o (fun c H'=>holdsB F H'∧vcAM P n ops F X K r (put ⟨σ,H'⟩ o.dst c))))
theorem vcAM_any {X:List Nat} {K:St→Prop}:∀(π:List Nat) (listed:Array Bool) (s:St),ClosedL md ops listed→okOrder md ops LA X π listed=true→holdsF F s.H→vcAM P n ops F X K π s →
  anyB P n md ops LA F (fun σ H=>∃s',get s'.σ=σ∧s'.H=H∧K s') π.length listed (get s.σ) s.H
 | [],listed,s,_,hB,hF,h=>⟨hF,by simpa [okOrder] using hB,s,rfl,rfl,h⟩
 | i :: r,listed,⟨σ,H⟩,hcl,hB,hF,h=>by
  simp only [okOrder,f_] at hB
  obtain ⟨⟨hA,hB1⟩,hB2⟩:=hB
  unfold vcAM at h
  cases ho:ops[i]? with
  | none=>simp only [ho] at h
  | some o =>
   simp only [ho] at h hB1
   obtain ⟨hd,hg,h⟩:=h
   simp only [List.length_cons]
   have hgp:∀(c:C) (H':List O),get (put ⟨σ,H'⟩ o.dst c).σ=upd (get σ) o.dst c∧(put ⟨σ,H'⟩ o.dst c).H=H':=fun c H'=>⟨get_put ⟨σ,H'⟩ o.dst c,by cases o.dst<;>rfl⟩
   cases hao:allocOp o.op with
   | some e =>
    simp only [hao] at h
    simp only [hao,Option.isSome_some,Bool.true_or,if_true,f_] at hB1
    obtain ⟨⟨b1,b2⟩,b3⟩:=hB1
    have hnf:floatOp o.op=false:=by
     unfold allocOp at hao
     split at hao
     ·rename_i hop;rw [hop];rfl
     ·cases hao
    simp only [hnf,Bool.false_and,Bool.or_false] at b3
    have:=vcAM_any r (listed.setIfInBounds i true) _ (hcl.set (by simpa using b1)) hB2 (by rw [(hgp .top H).2];exact hF) h
    rw [(hgp .top H).1,(hgp .top H).2] at this
    exact anyB_first ho hd hA (barOk_spec b3) r.length listed (get σ) H hcl (Region.free_spec ho b2) (by simpa using b1) (gOk_none hg) (by unfold QAns;simp only [hao]) this
   | none =>
    simp only [hao] at h
    cases hq:quietX X i o.op with
    | true =>
     simp only [hq] at h
     simp only [hq,Bool.or_true,if_true,f_] at hB1
     obtain ⟨⟨b1,b2⟩,b3⟩:=hB1
     obtain ⟨c,h1,h2⟩:=PA_of (o:=o) hF h
     have h2':vcAM P n ops F X K r (put ⟨σ,H⟩ o.dst c):=h2
     have:=vcAM_any r (listed.setIfInBounds i true) _ (hcl.set (by simpa using b1)) hB2 (by rw [(hgp c H).2];exact hF) h2'
     rw [(hgp c H).1,(hgp c H).2] at this
     rw [Bool.or_eq_true] at b3
     rcases b3 with b3 | b3
     ·exact anyB_first ho hd hA (barOk_spec b3) r.length listed (get σ) H hcl (Region.free_spec ho b2) (by simpa using b1) (gOk_none hg) (by unfold QAns;simp only [hao];exact h1) this
     ·simp only [f_] at b3
      obtain ⟨⟨c3,c4⟩,c5⟩:=b3
      unfold floatOp at c3
      split at c3
      ·rename_i x k hop
       rw [hop] at h
       unfold vcQE at h
       obtain ⟨_,h⟩:=h
       split at h
       ·rename_i cs hcs
        obtain ⟨hk,hK⟩:=h
        have:=vcAM_any r (listed.setIfInBounds i true) _ (hcl.set (by simpa using b1)) hB2 (by rw [(hgp (cs.getD k .top) H).2];exact hF) hK
        rw [(hgp (cs.getD k .top) H).1,(hgp (cs.getD k .top) H).2] at this
        exact ⟨hF,.inr ⟨i,o,cs.getD k .top,⟨ho,hd,hg,c4,b2,by simpa using b1⟩,⟨x,k,cs,hop,hcs,hk,rfl⟩,this⟩⟩
       ·exact h.elim
      ·cases c3
    | false =>
     simp only [hq] at h
     simp only [hao,hq,Option.isSome_none,Bool.or_self,Bool.false_eq_true,if_false,decide_eq_true_eq] at hB1
     refine anyB_only hF hB1 ?_
     unfold bOp
     simp only [ho]
     refine ⟨hd,gOk_none hg,?_⟩
     simp only [hao]
     have hc:vcOpM P (stOf (get σ) H (tmpsOf o.op)) o (fun c H'=>holdsB F H'∧vcAM P n ops F X K r (put ⟨σ,H'⟩ o.dst c)):=by
      refine vcOpM_congr (s:=⟨σ,H⟩) rfl (fun x hx=>?_) h
      cases x with
      | tmp t =>
       show get σ t=get (stOf (get σ) H (tmpsOf o.op)).σ t
       rw [get_stOf,if_pos]
       exact List.mem_filterMap.2 ⟨.tmp t,by simpa using hx,rfl⟩
      | _=>rfl
     refine (vcOpM_sound hc).mono (fun c H' ⟨k1,k2⟩=>?_)
     have:=vcAM_any r (listed.setIfInBounds i true) _ (hcl.set (by rw [hB1];simp)) hB2 (by rw [(hgp c H').2];exact holdsB_F k1) k2
     rw [(hgp c H').1,(hgp c H').2] at this
     exact this
theorem AW.drawH {f:FuncId} {n0:Nat} {R:C→List O→Prop} {id:Nat} {k:List Item} {s:St} (T:St→Prop) (hm:P.follows .mixedOrders=true) (LA:Array Bool) (F:List (Nat×O)) (X π πB:List Nat) (al:Option (Nat×Tmp×TypeId×List Value))
  (hT:∀(s':St) (E0 E:Env) (a:Act),okTail .any ops πB LA=true→RepSt E n s' a→Le E0 E→T s'→wpAny P .any ops (Behind n E0 (AW P f n n0 R k)) πB.length LA a E.w)
  (hB:okDraw n ops LA X π πB al=true) (hz:zeroOk P al) (hF:holdsB F s.H) (hany:anyB P n .any ops LA F (fun σ H=>∃s',get s'.σ=σ∧s'.H=H∧T (adoptV s' al)) π.length (Array.replicate ops.size false) (get s.σ) s.H) :
  AW P f n n0 R (.code (.region id ops true) :: k) s:=by
 refine AW.of_behind (k':=k) fun _ E a b cs hst=>?_
 have hst':RepSt E.drew n s a:=⟨hst.size,hst.defers,rep_drew hst.heap,fun t=>(hst.slot t).le (le_drew E)⟩
 simp only [okDraw,f_,decide_eq_true_eq] at hB
 obtain ⟨⟨⟨b1,b2⟩,b3⟩,b4⟩:=hB
 have hw:wpAny P .any ops (Behind n E (AW P f n n0 R k)) (π.length+πB.length) (Array.replicate ops.size false) a E.drew.w:=by
  cases al with
  | some q =>
   obtain ⟨ia,d,e,zl⟩:=q
   simp only [f_,d_,List.mem_range] at b4
   have hall:∀(i:Nat) (o:Oper),ops[i]? = some o→(match allocOp o.op with
     | some e'=>decide (i=ia) && decide (o.dst=some d) && decide (e'=e)
     | none=>decide (i≠ia) && decide (o.dst≠some d))=true:=fun i o ho=>by
    have:=b4.2 i (h_.1 ho).1
    simp only [ho] at this
    exact this
   have hal:AllocAt P ops ia d e zl:=by
    refine ⟨fun i o e' ho he=>?_,fun i o ho he=>?_,fun i o e' ho he=>hz⟩
    ·have:=hall i o ho
     simp only [he,f_,decide_eq_true_eq] at this
     exact ⟨this.1.1,this.1.2,this.2⟩
    ·have:=hall i o ho
     simp only [he,f_,decide_eq_true_eq] at this
     exact this
   refine anyB_sound (E0:=E) hal (fun c a w hq=>by obtain ⟨h0,_⟩:=hq;cases h0) (fun σ H E1 a1 hq hst1 hl1 hg1=>?_) π.length _ (get s.σ) s.H E.drew a hany hst'.toF (le_drew E) (fun hh=>?_)
   ·obtain ⟨s',hs1,hs2,hk⟩:=hq
    subst hs1 hs2
    have hstS:RepSt E1 n s' a1:=⟨hst1.size,hst1.defers,hst1.heap,hst1.slot⟩
    obtain ⟨E2,hw2,hl2,hst2⟩:=hstS.adopt hl1 (ia:=ia) (tZero_one hz) (hg1 b4.1)
    rw [←hw2]
    exact hT _ E E2 a1 b2 hst2 hl2 hk
   ·exfalso
    by_cases hlt:ia<ops.size
    ·simp [hlt] at hh
    ·simp [o_,hlt] at hh
  | none =>
   simp only [f_,d_,List.mem_range,decide_eq_true_eq] at b4
   have hall:∀(i:Nat) (o:Oper),ops[i]? = some o→allocOp o.op=none∧o.dst≠some n:=fun i o ho=>by
    have:=b4.1 i (h_.1 ho).1
    simp only [ho,f_,decide_eq_true_eq,Option.isNone_iff_eq_none] at this
    exact this
   have hal:AllocAt P ops ops.size n 0 []:=by
    refine ⟨fun i o e' ho he=>?_,fun i o ho he=>⟨?_,(hall i o ho).2⟩,fun i o e' ho he=>?_⟩
    ·rw [(hall i o ho).1] at he;cases he
    ·have:=(h_.1 ho).1;omega
    ·rw [(hall i o ho).1] at he;cases he
   refine anyB_sound (E0:=E) hal (fun c a w hq=>by obtain ⟨h0,_⟩:=hq;cases h0) (fun σ H E1 a1 hq hst1 hl1 hg1=>?_) π.length _ (get s.σ) s.H E.drew a hany hst'.toF (le_drew E) (fun hh=>?_)
   ·obtain ⟨s',hs1,hs2,hk⟩:=hq
    subst hs1 hs2
    exact hT s' E E1 a1 b2 ⟨hst1.size,hst1.defers,hst1.heap,hst1.slot⟩ hl1 hk
   ·exfalso;simp at hh
 rw [b3] at hw
 obtain ⟨e,a',w',⟨rfl,E',s',rfl,h1,h2,h3⟩,harr⟩:=wp_region_any (id:=id) hm hw b k cs
 exact ⟨a',E',s',harr,h1,h2,h3⟩
theorem AW.drawM {f:FuncId} {n0:Nat} {R:C→List O→Prop} {id:Nat} {k:List Item} {s:St} (hm:P.follows .mixedOrders=true) (LA:Array Bool) (F:List (Nat×O)) (X π πB:List Nat) (al:Option (Nat×Tmp×TypeId×List Value))
  (hB:okDraw n ops LA X π πB al=true) (hz:zeroOk P al) (hF:holdsB F s.H) (h:vcAM P n ops F X (fun s'=>vcTl P n ops (AW P f n n0 R k) πB (adoptV s' al)) π s) :
  AW P f n n0 R (.code (.region id ops true) :: k) s:=by
 have hB':=hB
 simp only [okDraw,f_,decide_eq_true_eq] at hB'
 have hany:=vcAM_any (md:=.any) (LA:=LA) π (Array.replicate ops.size false) s (fun k ok hk hl=>by have:=(h_.1 hk).1;simp [this] at hl) hB'.1.1.1 (holdsB_F hF) h
 exact AW.drawH (fun s'=>vcTl P n ops (AW P f n n0 R k) πB s') hm LA F X π πB al (fun s' E0 E a hb hst hl h=>vcTl_sound πB LA s' E a hb hst hl h) hB hz hF hany
end
attribute [go_sem] vcAM.eq_1 vcAM.eq_2
section
variable {P:Program} {f:FuncId} {n n0:Nat} {R:C→List O→Prop}
theorem AW.recastE {k:List Item} {s:St} (h:n0≤s.H.length→∀E a,RepSt E n s a→∃s' E',E'.w=E.w∧Le E E'∧RepSt E' n s' a∧AW P f n n0 R k s'):AW P f n n0 R k s:=by
 intro h0 E a b cs hst hb hk
 obtain ⟨s',E',hw,hl,hst',h'⟩:=h h0 E a hst
 have hN:n0≤E.N:=by rw [hst.heap.N];exact h0
 have hN':n0≤s'.H.length:=by rw [←hst'.heap.N];exact Nat.le_trans hN hl.N
 obtain ⟨fr,w',v,r,E'',H',g1,g2,g3,g4,g5,g6,g7,g8⟩:=h' hN' E' a b cs hst' hb hk
 rw [hw] at g1
 exact ⟨fr,w',v,r,E'',H',g1,g2,g3,g4,g5,g6,(hl.trunc hN).trans g7,g8⟩
theorem AW.placeD {k:List Item} {s:St} (rb j r i:Nat) {q z e:Nat} {xs:List (List D)} {B:Nat→Prop} {cs:List C} (hb:s.H[rb]? = some (.box cs)) (hj:cs[j]? = some (.own r q)) (hr:s.H[r]? = some (.tree q z e xs B none)) (hi:s.H[i]? = some .dead) (hne:i≠r)
  (h:∀Q,AW P f n n0 R k ⟨s.σ,(((s.H.set r .dead).set i (.tree Q z e xs B none)).set rb (.box (cs.set j (.own i Q))))⟩):AW P f n n0 R k s:=by
 refine AW.recastE (fun h0 E a hst=>?_)
 obtain ⟨hH1,hL⟩:=hst.heap.takeT hr
 have hver:=(hst.heap.obj r _ hr).1
 have hi1:(s.H.set r .dead)[i]? = some .dead:=by rw [e_ (Ne.symm hne)];exact hi
 obtain ⟨Q,hQ⟩:∃Q,Q=(E.τ i).1+1:=⟨_,rfl⟩
 obtain ⟨hl,hH⟩:=hH1.fillD (q:=Q) hi1 (by omega) hL
 have hiN:i<E.N:=by rw [hst.heap.N];exact (a_.1 hi).1
 have hrb1:rb≠r:=fun e=>by subst e;rw [hb] at hr;cases hr
 have hrb2:rb≠i:=fun e=>by subst e;rw [hb] at hi;cases hi
 have hb1:((s.H.set r .dead).set i (.tree Q z e xs B none))[rb]? = some (.box cs):=by
  rw [e_ (Ne.symm hrb2),e_ (Ne.symm hrb1)];exact hb
 obtain ⟨arr,ty,h1,h2,h3,h4⟩:=hH.obj rb _ hb1
 obtain ⟨_,_,_,_,g3,_⟩:=hst.heap.obj rb _ hb
 refine ⟨⟨s.σ,(((s.H.set r .dead).set i (.tree Q z e xs B none)).set rb (.box (cs.set j (.own i Q))))⟩,E.rename i Q (E.τ r).2,rfl,hl,⟨hst.size,hst.defers,?_,fun t=>(hst.slot t).le hl⟩,h Q⟩
 refine hH.turn (r0:=rb) (Le.refl _) (by rw [List.length_set];exact hH.N) (fun r' hr'=>by rw [e_ (Ne.symm hr')]) (fun o' ho'=>?_) (fun _ _ _=>rfl) (fun r' o' b' hr' ho' hb=>⟨rfl,fun i hs=>hs⟩) (fun _ hb=>hb) (fun b' i hs=>hH.Slt b' i hs) (o0:=.box (cs.set j (.own i Q))) ?_ (fun b' hbb=>?_)
 ·rw [j_ (a_.1 hb1).1] at ho'
  exact (Option.some.inj ho').symm
 ·refine ⟨arr,ty,h1,by simpa using h2,fun i' c v hc hv=>?_,h4⟩
  by_cases ej:j=i'
  ·subst ej
   rw [j_ (a_.1 hj).1] at hc
   cases hc
   obtain ⟨k1,k2⟩:=h3 j _ v hj hv
   refine ⟨?_,k2⟩
   have hrr:(E.rename i Q (E.τ r).2).τ r=E.τ r:=by simp only [Env.rename];rw [if_neg (Ne.symm hne)]
   cases k1 with
   | own _ _ _ hN h1 hq hv' =>
    rw [hrr] at hv'
    have hv':=hv' hver.symm
    subst hv'
    exact .own _ _ _ hiN h1 (by simp [Env.rename]) (fun _=>by simp [Env.rename])
  ·rw [e_ ej] at hc
   exact h3 i' c v hc hv
 ·exact ⟨hH.pv rb _ b' hb1 hbb,hH.lt rb _ b' hb1 hbb,fun r' o' hr' ho' hb2=>hr' (hH.apart r' rb o' _ b' ho' hb1 hb2 hbb)⟩
theorem AW.nilB {k:List Item} {s:St} (rb j:Nat) {cs:List C} (hb:s.H[rb]? = some (.box cs)) (hj:cs[j]? = some .nil0)
  (h:AW P f n n0 R k ⟨s.σ,s.H.set rb (.box (cs.set j (.d (.sl []))))⟩):AW P f n n0 R k s:=by
 refine AW.recast (s':=⟨s.σ,s.H.set rb (.box (cs.set j (.d (.sl []))))⟩) (fun h0 E a hst=>?_)
 refine ⟨E,rfl,Le.refl E,⟨hst.size,hst.defers,hst.heap.recell hb hj (fun arr ty v h1 h2 h3=>?_),hst.slot⟩,h⟩
 cases h3 with
 | nil0 ad=>exact .d _ _ (.nil ad 0)
end
section
variable {P:Program} {f:FuncId} {n n0:Nat} {R:C→List O→Prop}
end
end Go.Abs
