import Derived.Test.YtehkgphockcjdaaGreatA8
import Derived.Lib.LaidTab
import Derived.Lib.ItoaNum
import Derived.Sort.Grow
import Derived.Deep.Draws
import Derived.Lib.Builder
import Derived.Lib.UnsafeStr
import Derived.WalkKit
open List renaming mem_of_getElem?→a_,getElem?_eq_some_iff→b_,getElem?_map→c_,all_eq_true→d_,getElem?_eq_getElem→e_,length_pos_iff→h_
open Option renaming map_eq_some_iff→f_
open Nat renaming le_refl→g_,lt_of_lt_of_le→i_
set_option linter.unusedSimpArgs false
set_option linter.unusedVariables false
namespace Go.Abs
theorem rep_grow {E:Env} {H:List O} (h:RepH E H) (k:Nat) (os:Array Obj) :
  Le E { E with w:=Sort.grow (E.w.drewN k) os }∧RepH { E with w:=Sort.grow (E.w.drewN k) os } H:=by
 have hb:∀b,b<E.w.heap.size→(Sort.grow (E.w.drewN k) os).heap[b]? = E.w.heap[b]?:=fun b hb=>by
  show (E.w.heap++os)[b]? = _
  exact Array.getElem?_append_left hb
 have hsz:E.w.heap.size≤(Sort.grow (E.w.drewN k) os).heap.size:=by
  show _≤(E.w.heap++os).size
  simp
 have hl:Le E { E with w:=Sort.grow (E.w.drewN k) os }:=
  ⟨rfl,rfl,rfl,hsz,g_ _,fun _ _=>rfl,fun _ _=>⟨g_ _,fun _=>rfl⟩,fun _ _ hs=>hs,fun b i hs=>by
   show (Sort.grow (E.w.drewN k) os).cell? _=_
   simp only [World.cell?,hb b (h.Slt b i hs)],fun b hlt _=>hb b hlt,fun _ _ hs=>.inl hs,fun _ hp=>.inl hp,fun b i _ _ hs hh=>(hb b (h.Slt b i hs)).trans hh⟩
 exact ⟨hl,h.keep hl rfl (fun _ _=>rfl) (fun r o b ho hbk=>⟨hb b (h.lt r o b ho hbk),fun _ hs=>hs⟩) (fun _ hp=>hp) (fun b i hs=>i_ (h.Slt b i hs) hsz)⟩
theorem tab_is {P:Program} {w:World} {name:String} {g:Nat} {k:IntKind} {zs:List Int} (hg:P.globalNamed name=some g) (hz:zs≠[])
  (h:∀j,j≤(zs.map fun z=>Value.int k z).length→w.cell? ⟨g,j,none⟩=(zs.map fun z=>Value.int k z)[j]?):Lib.TabIs P w name k zs:=by
 have h0:=h 0 (Nat.zero_le _)
 unfold Lib.TabIs
 simp only [World.var?,hg,Option.bind_some]
 generalize hl:(zs.map fun z=>Value.int k z)=l at h h0 ⊢
 have hne:l≠[]:=by rw [←hl];simpa using hz
 simp only [World.cell?] at h h0
 cases hh:w.heap[g]? with
 | none=>rw [hh] at h0;cases l with | nil=>exact absurd rfl hne | cons=>simp at h0
 | some o =>
  rw [hh] at h h0
  cases o with
  | cells cs e fz =>
   simp only at h h0 ⊢
   congr 1
   have hs:cs.size≤l.length:=by
    have:=h l.length (g_ _)
    simp at this
    exact this
   apply Array.ext_getElem?
   intro i
   by_cases hi:i≤l.length
   ·have:=h i hi
    simp at this
    simpa using this
   ·rw [Array.getElem?_eq_none (by omega),List.getElem?_toArray,List.getElem?_eq_none (by omega)]
  | _=>cases l with | nil=>exact absurd rfl hne | cons=>simp at h0
theorem itoa_calls {P:Program} {f:FuncId} {name:String} {g:Nat} {k:IntKind} {zs:List Int} {tx:Int→List UInt8}
  (hs:∀(n:Int),-9223372036854775808≤n→n≤9223372036854775807→∀(w:World),Lib.TabIs P w name k zs →
   Calls P f #[.int .i64 n] w fun e w'=>e=.returned (.string ⟨(tx n).toArray⟩)∧∃k os,w'=Sort.grow (w.drewN k) os)
  (hg:P.globalNamed name=some g) (hz:zs≠[]) (n:Int) (h0:-9223372036854775808≤n) (h1:n≤9223372036854775807) :
  ACalls P f [.d (.int .i64 n)] [.tab g (zs.map fun z=>Value.int k z)] (fun c H'=>c=.d (.str (tx n))∧H'=[.tab g (zs.map fun z=>Value.int k z)]):=by
 intro E vs hE hsz ha
 obtain ⟨v,rfl⟩:∃v,vs=#[v]:=by
  match vs,hsz with
  | ⟨[v]⟩,_=>exact ⟨v,rfl⟩
 have hv:=ha 0 _ v rfl rfl
 cases hv with
 | d _ _ hd =>
  cases hd
  have ht:=hE.obj 0 _ rfl
  refine (hs n h0 h1 E.w (tab_is hg hz (fun j hj=>(ht j hj).2))).mono ?_
  rintro e w' ⟨rfl,k',os,rfl⟩
  obtain ⟨hl,hH⟩:=rep_grow hE k' os
  exact ⟨_,_,_,_,rfl,rfl,hH,hl,.d _ _ (.str _),rfl,rfl,rfl⟩
open Go.RowKit
theorem RowB.block {w:World} {e:TypeId} {v:Value} {bs:List UInt8} (h:RowB w e v bs) {b:Nat} (hb:ownB v=some b):b<w.heap.size:=by
 rcases h with ⟨a,rfl,_⟩ | ⟨g,cap,arr,rfl,h2,h3,h4,_⟩
 ·cases a<;>simp [ownB] at hb
 ·have:=h_.2 h3
  simp [ownB] at hb
  obtain ⟨_,rfl⟩:=hb
  exact (Array.getElem?_eq_some_iff.1 h2).1
theorem RowB.same {w w':World} {e:TypeId} {v:Value} {bs:List UInt8} (h:RowB w e v bs) (hw:∀b,ownB v=some b→w'.heap[b]? = w.heap[b]?):RowB w' e v bs:=by
 rcases h with h | ⟨g,cap,arr,rfl,h2,h3,h4,h5⟩
 ·exact .inl h
 ·have:=h_.2 h3
  exact .inr ⟨g,cap,arr,rfl,by rw [hw g (by simp [ownB];omega)];exact h2,h3,h4,h5⟩
theorem bstr_calls {P:Program} {f:FuncId} {T e:TypeId}
  (hs:∀(b g cap:Nat) (p:Value) (cur:Array Value) (l:List UInt8) (w:World),w.heap[b]? = some (.cells #[p,.slice (some ⟨g,0,none⟩) l.length cap] T (0,0))→w.heap[g]? = some (.cells cur e (0,0)) →
   l≠[]→l.length≤cap→cap≤maxLen→cur.size=cap→(∀(j:Nat) (x:UInt8),l[j]? = some x→cur[j]? = some (.int .u8 x.toNat)) →
   Calls P f #[.pointer (some ⟨b,0,none⟩)] w fun e w'=>e=.returned (.string ⟨l.toArray⟩)∧w'=w.drew.freeze ⟨g,0,none⟩ l.length)
  {H:List O} {r:Nat} {l:List UInt8} (hr:H[r]? = some (.bld T e l)) (h0:l≠[]) {K:C→List O→Prop} (hk:K (.d (.str l)) (H.set r .dead)) :
  ACalls P f [.ptr r 0] H K:=by
 intro E vs hE hsz ha
 obtain ⟨v,rfl⟩:∃v,vs=#[v]:=by
  match vs,hsz with
  | ⟨[v]⟩,_=>exact ⟨v,rfl⟩
 have hv:=ha 0 _ v rfl rfl
 cases hv with
 | ptr _ _ hrN =>
 obtain ⟨p,h1,h2,h3,h4,h5⟩:=hE.obj r _ hr
 rcases h3 with ⟨_,_,e0⟩ | ⟨b0,cap,arr,k1,k2,k3,k4,k5,k6,k7⟩
 ·exact absurd e0 h0
 ·have hlen:=h_.2 h0
  have hown:ownB (E.τ r).2=some b0:=by rw [k1];simp [ownB];omega
  have hpv:=hE.pv r _ b0 hr (.inr hown)
  rw [k1] at h2
  refine (hs (E.β r) b0 cap p arr l E.w h2 k2 h0 k4 k5 k6 k7).mono ?_
  rintro ex w' ⟨rfl,rfl⟩
  have hold:∀b,b≠b0→(E.w.drew.freeze ⟨b0,0,none⟩ l.length).heap[b]? = E.w.heap[b]?:=fun b hb=>by
   unfold World.freeze
   split
   ·rfl
   ·simp only [Array.getElem?_modify]
    rw [if_neg (fun e=>hb e.symm)]
    rfl
  have hsize:(E.w.drew.freeze ⟨b0,0,none⟩ l.length).heap.size=E.w.heap.size:=by
   unfold World.freeze
   split
   ·rfl
   ·rw [Array.size_modify];rfl
  have hos:(E.w.drew.freeze ⟨b0,0,none⟩ l.length).os=E.w.os∧(E.w.drew.freeze ⟨b0,0,none⟩ l.length).tape=E.w.tape∧(E.w.drew.freeze ⟨b0,0,none⟩ l.length).output=E.w.output:=by
   unfold World.freeze
   split<;>exact ⟨rfl,rfl,rfl⟩
  have hns:∀i,¬E.S b0 i:=h5 b0 (.inr hown)
  have hl:Le E { E with w:=E.w.drew.freeze ⟨b0,0,none⟩ l.length }:=by
   refine ⟨hos.1,hos.2.1,hos.2.2,Nat.le_of_eq hsize.symm,g_ _,fun _ _=>rfl,fun _ _=>⟨g_ _,fun _=>rfl⟩,fun _ _ hs=>hs,fun b i hs=>?_,fun b hb hp=>hold b (fun e=>hp (by subst e;exact hpv)),fun _ _ hs=>.inl hs,fun _ hp=>.inl hp,fun b i a n hs hh=>(hold b (fun e=>hns i (by subst e;exact hs))).trans hh⟩
   show (E.w.drew.freeze _ _).cell? _=_
   simp only [World.cell?,hold b (fun e=>hns i (by subst e;exact hs))]
  refine ⟨_,_,{ E with w:=E.w.drew.freeze ⟨b0,0,none⟩ l.length },_,rfl,rfl,?_,hl,.d _ _ (.str _),by simp,hk⟩
  refine hE.turn (r0:=r) (o0:=.dead) hl (by simp [hE.N]) (fun r' hr'=>?_) (fun o' ho'=>?_) (fun _ _ _=>rfl) (fun r' o' b hr' ho' hb=>⟨?_,fun i hs=>hs⟩) (fun _ hb=>hb) (fun b i hs=>i_ (hE.Slt b i hs) (Nat.le_of_eq hsize.symm)) trivial (fun b hb=>by simp [O.block] at hb)
  ·rw [List.getElem?_set_ne (fun e=>hr' e.symm)]
  ·rw [List.getElem?_set_self (b_.1 hr).1] at ho'
   exact (Option.some.inj ho').symm
  ·exact hold b (fun e=>hr' (hE.apart r' r o' _ _ ho' hr hb (.inr (by rw [hown,e]))))
section
variable {P:Program} {f:FuncId} {n n0:Nat} {R:C→List O→Prop}
theorem wpOps_cons {ops:Array Oper} {o:Oper} {i:Nat} {l:List Nat} {s:St} {E0 E:Env} {a:Act} {K:St→Prop} (hi:ops[i]? = some o) (hg:o.guard=none) {K1:C→List O→Prop} (he:EffOk P s o K1)
  (hst:RepSt E n s a) (hd:∀d,o.dst=some d→d<n) (hle:Le E0 E)
  (hk:∀c H',K1 c H'→∀(E':Env) (a':Act),RepSt E' n (put { s with H:=H' } o.dst c) a'→Le E0 E'→wpOps P ops (Behind n E0 K) l a' E'.w):wpOps P ops (Behind n E0 K) (i :: l) a E.w:=by
 simp only [wpOps,hi]
 have hw:Region.wanted o (yielded ops a.tmps)=true:=by simp [Region.wanted,hg]
 rw [if_pos hw]
 refine .inl ?_
 have hw:=he E n a hst
 unfold Oper.wp at hw ⊢
 generalize (execOp a.eval o).run P E.w=r at hw ⊢
 have key:∀a' w',(∃v E' c H',a'=a.put o.dst v∧E'.w=w'∧Rd E' c v∧RepH E' H'∧Le E E'∧K1 c H')→wpOps P ops (Behind n E0 K) l a' w':=by
  rintro a' w' ⟨v,E',c,H',rfl,rfl,h1,h2,h3,h4⟩
  exact hk c H' h4 E' _ (hst.put h3 h2 hd h1) (hle.trans h3)
 cases r with
 | ok x w' =>
  cases x<;>simp only [Oper.upon] at hw ⊢<;>first
   | exact key _ _ hw
   | exact Calls.mono hw (fun e w'' he=>by cases e<;>first | exact key _ _ he | exact he.elim | (obtain ⟨_,_,h⟩:=he;exact h.elim))
   | exact Rows.mono hw (fun _ _ he=>key _ _ he)
   | exact hw
 | halt x w'=>cases x<;>simp only [Oper.upon] at hw
end
section
variable {P:Program} {f:FuncId} {n n0:Nat} {R:C→List O→Prop}
end
section
variable {P:Program} {n:Nat} {md:Region.Mode} {ops:Array Oper}
def vcTlL (P:Program) (n:Nat) (ops:Array Oper) (K:St→Prop):List Nat→St→Prop
 | [],⟨σ,H⟩=>K ⟨σ,H⟩
 | i :: r,⟨σ,H⟩=>match ops[i]? with
  | none=>False
  | some o=>okDst n o=true∧o.guard=none∧vcOpL P ⟨σ,H⟩ o (kR (vcTlL P n ops K r) ⟨σ,H⟩ o.dst)
end
attribute [go_sem] vcTlL.eq_1 vcTlL.eq_2
section
variable {P:Program} {f:FuncId} {n n0:Nat} {R:C→List O→Prop}
end
set_option maxHeartbeats 2000000
section
variable {P:Program}
def vcOpP (P:Program) (s:St) (o:Oper) (K:C→List O→Prop):Prop:=
 match o.op with
 | .buildSlice t n ps =>
  (match ps.toList with
  | [(i,x)]=>i=0∧n=1∧okOperand x=true∧(match tSlice P t,ev s x with
   | some (e,z,_),.own N qn=>z=1∧(match s.H[N]? with
    | some (.tree q _ _ kid _ none)=>qn=q∧K (.own s.H.length 0) (s.H++[.tree 0 1 e [[.sl kid]] (fun _=>False) (some (0,0,N,qn))])
    | _=>False)
   | _,_=>False)
  | _=>False)
 | .call c =>
  (match c.callee with
  | .builtin .append=>(match c.args.toList,c.argTypes.toList with
   | [x,y],[t,u]=>okOperand x=true∧okOperand y=true∧tIsSlice P u=true∧(match tSlice P t,ev s x,ev s y with
    | some (e,z,by_),.own r q,.own M qm=>z=1∧r≠M∧(match s.H[r]?,s.H[M]? with
     | some (.tree q' z' e' xs _ none),some (.tree qm' zm _ [[.sl kid]] _ (some (0,0,N,qn)))=>q=q'∧qm=qm'∧z'=1∧zm=1∧e'=e∧r≠N∧(match s.H[N]? with
      | some (.tree qn' _ _ _ _ none)=>qn=qn'∧xs.length+1≤maxLen∧(xs.length+1) * by_≤140737488355328 ∧
        ∀B,K (.own r (q+1)) ((s.H.set M .dead).set r (.tree (q+1) 1 e (xs++[[.sl kid]]) B (some (xs.length,0,N,qn))))
      | _=>False)
     | _,_=>False)
    | _,_,_=>False)
   | _,_=>False)
  | _=>vcEff P s o K)
 | _=>vcEff P s o K
def vcRP (P:Program) (n:Nat) (K:St→Prop):List Oper→St→Prop
 | [],⟨σ,H⟩=>K ⟨σ,H⟩
 | o :: rest,⟨σ,H⟩=>okDst n o=true∧o.guard=none∧vcOpP P ⟨σ,H⟩ o (kR (vcRP P n K rest) ⟨σ,H⟩ o.dst)
attribute [go_sem] vcOpP.eq_def vcRP.eq_1 vcRP.eq_2
end
def takeK:List D→List C→List O→(List C→List O→Prop)→Prop
 | [],cs,H,K=>K cs H
 | .sl kid :: r,cs,H,K=>(kid=[]→takeK r (cs++[.d (.sl [])]) H K)∧(kid≠[]→∀zk e' B,takeK r (cs++[.own H.length 0]) (H++[.tree 0 zk e' kid B none]) K)
 | .str s :: r,cs,H,K=>takeK r (cs++[.d (.str s)]) H K
 | .int k n :: r,cs,H,K=>takeK r (cs++[.d (.int k n)]) H K
 | .bool b :: r,cs,H,K=>takeK r (cs++[.d (.bool b)]) H K
 | _ :: _,_,_,_=>False
def vcTake (P:Program) (s:St) (t:TypeId) (r q z i off:Nat) (K:C→List O→Prop):Prop:=
 match s.H[r]?,tSize P t with
 | some (.tree q' z' e xs _ none),some n=>q=q'∧z=z'∧i<xs.length∧off+n≤z∧0<n ∧
   idx xs i (fun x=>∀B',takeK ((x.drop off).take n) [] (s.H.set r (.tree q z e (xs.set i (x.take off++List.replicate n .any++x.drop (off+n))) B' none)) (fun cs H=>K (.agg cs) H))
 | _,_=>False
section
variable {P:Program}
theorem Tr.loose {E:Env} {H:List O} {kid:List (List D)} {v:Value} {B:Nat→Prop} (h:Tr E.w (.sl kid) v B) (hne:kid≠[]) (hf:Free E H B):∃zk e' B2,Loose E H zk e' kid v B2∧∀b',(ownB v=some b'∨B2 b')→B b':=by
 cases h with
 | nil a cap=>exact absurd rfl hne
 | sl b2 cap2 z2 e2 _ arr2 val2 Bs2 hne2 h02 hcap2 hmax2 hz2 hb2 hsz2 hv2 hr2 hself2 hdis2 =>
  have hBB:∀b',(ownB (.slice (some ⟨b2,0,none⟩) kid.length cap2)=some b'∨∃i j x c,kid[i]? = some x∧x[j]? = some c∧Bs2 i j b')→b'=b2∨∃i j x c,kid[i]? = some x∧x[j]? = some c∧Bs2 i j b':=by
   rintro b' (hb' | hb')
   ·left
    simp only [ownB] at hb'
    split at hb'
    ·cases hb'
    ·cases hb';rfl
   ·exact .inr hb'
  refine ⟨z2,e2,fun b'=>∃i j x c,kid[i]? = some x∧x[j]? = some c∧Bs2 i j b',⟨.inr ⟨b2,cap2,arr2,rfl,hb2,hne,hcap2,hmax2,hsz2,?_,?_⟩,hz2,h02,hf.mono hBB⟩,hBB⟩
  ·refine ⟨val2,fun i j b'=>Bs2 i j b'∧∃x c,kid[i]? = some x∧x[j]? = some c,fun i j x c hi hj=>⟨(hv2 i j x c hi hj).1,(hv2 i j x c hi hj).2,fun _=>?_⟩,fun i j b' ⟨hb',x,c,hi,hj⟩=>⟨i,j,x,c,hi,hj,hb'⟩,fun i j i' j' b' ⟨hb1,_⟩ ⟨hb2,_⟩=>hdis2 i j i' j' b' hb1 hb2⟩
   have:=hr2 i j x c hi hj
   have e1:(fun b'=>Bs2 i j b'∧∃x c,kid[i]? = some x∧x[j]? = some c)=Bs2 i j:=by
    funext b';exact propext ⟨fun h=>h.1,fun h=>⟨h,x,c,hi,hj⟩⟩
   dsimp only
   rw [e1];exact this
  ·rintro ⟨i,j,x,c,hi,hj,hb'⟩;exact hself2 i j hb'
def vcOpM (P:Program) (s:St) (o:Oper) (K:C→List O→Prop):Prop:=
 match o.op with
 | .load t x =>
  (match ev s x with
  | .tptr r q z i off=>tAgg P t=some true∧okOperand x=true∧vcTake P s t r q z i off K
  | _=>vcOpT P s o K)
 | _=>vcOpT P s o K
def vcRM (P:Program) (n:Nat) (K:St→Prop):List Oper→St→Prop
 | [],⟨σ,H⟩=>K ⟨σ,H⟩
 | o :: rest,⟨σ,H⟩=>okDst n o=true∧o.guard=none∧vcOpM P ⟨σ,H⟩ o (kR (vcRM P n K rest) ⟨σ,H⟩ o.dst)
attribute [go_sem] takeK.eq_1 takeK.eq_2 takeK.eq_3 takeK.eq_4 takeK.eq_5 vcTake.eq_def vcOpM.eq_def vcRM.eq_1 vcRM.eq_2
end
def C.rn1 (f:Nat→Nat):C→C
 | .ptr r o=>.ptr (f r) o
 | .own r q=>.own (f r) q
 | .rsl r n=>.rsl (f r) n
 | .eptr r z i o=>.eptr (f r) z i o
 | .tptr r q z i o=>.tptr (f r) q z i o
 | .map r=>.map (f r)
 | c=>c
def C.rn2 (f:Nat→Nat):C→C
 | .fn g cs=>.fn g (cs.map (C.rn1 f))
 | .agg cs=>.agg (cs.map (C.rn1 f))
 | .xfn g cs=>.xfn g (cs.map (C.rn1 f))
 | c=>c.rn1 f
def C.rn (f:Nat→Nat):C→C
 | .tup cs=>.tup (cs.map (C.rn2 f))
 | c=>c.rn2 f
section
variable {E E':Env} {f:Nat→Nat} {m:Nat}
theorem Rd.rn1 (hw:E'.w=E.w) (hS:E'.S=E.S) (hβ:∀r,r<m→E'.β (f r)=E.β r) (hτ:∀r,r<m→E'.τ (f r)=E.τ r) (hN:∀r,r<m→f r<E'.N) {c:C} {v:Value} (hc:c.refsLt1 m=true) (h:Rd E c v):Rd E' (c.rn1 f) v:=by
 cases h with
 | d x _ hd=>exact .d _ _ (by rw [hw,hS];exact hd)
 | nil0 a=>exact .nil0 a
 | nilp=>exact .nilp
 | val v=>exact .val v
 | ptr r off _=>simp only [C.refsLt1,decide_eq_true_eq] at hc;rw [←hβ r hc];exact Rd.ptr (E:=E') (f r) off (hN r hc)
 | own r q _ _ g1 g2 g3=>simp only [C.refsLt1,decide_eq_true_eq] at hc;exact Rd.own (E:=E') (f r) q v (hN r hc) g1 (by rw [hτ r hc];exact g2) (by rw [hτ r hc];exact g3)
 | rsl r n _=>simp only [C.refsLt1,decide_eq_true_eq] at hc;rw [←hβ r hc];exact Rd.rsl (E:=E') (f r) n (hN r hc)
 | eptr r z i off _=>simp only [C.refsLt1,decide_eq_true_eq] at hc;rw [←hβ r hc];exact Rd.eptr (E:=E') (f r) z i off (hN r hc)
 | tptr r q z i off b _ g2 g3=>simp only [C.refsLt1,decide_eq_true_eq] at hc;exact Rd.tptr (E:=E') (f r) q z i off b (hN r hc) (by rw [hτ r hc];exact g2) (by rw [hτ r hc];exact g3)
 | map r _=>simp only [C.refsLt1,decide_eq_true_eq] at hc;rw [←hβ r hc];exact Rd.map (E:=E') (f r) (hN r hc)
 | _=>simp [C.refsLt1] at hc
theorem Rd.rn2 (hw:E'.w=E.w) (hS:E'.S=E.S) (hβ:∀r,r<m→E'.β (f r)=E.β r) (hτ:∀r,r<m→E'.τ (f r)=E.τ r) (hN:∀r,r<m→f r<E'.N) {c:C} {v:Value} (hc:c.refsLt m=true) (h:Rd E c v):Rd E' (c.rn2 f) v:=by
 by_cases h0:c.refsLt1 m=true
 ·have h1:=Rd.rn1 hw hS hβ hτ hN h0 h
  cases c<;>first | exact h1 | (simp [C.refsLt1] at h0)
 ·cases h with
  | fn g cs vs hl hr =>
   simp only [C.refsLt,d_] at hc
   refine .fn _ _ _ (by simpa using hl) (fun i c v hi hv=>?_)
   simp only [c_,f_] at hi
   obtain ⟨c0,hc0,rfl⟩:=hi
   exact Rd.rn1 hw hS hβ hτ hN (hc c0 (a_ hc0)) (hr i c0 v hc0 hv)
  | agg cs vs hl h1 hr =>
   simp only [C.refsLt,d_] at hc
   refine .agg _ _ (by simpa using hl) h1 (fun i c v hi hv=>?_)
   simp only [c_,f_] at hi
   obtain ⟨c0,hc0,rfl⟩:=hi
   exact Rd.rn1 hw hS hβ hτ hN (hc c0 (a_ hc0)) (hr i c0 v hc0 hv)
  | xfn g cs vs hl hr =>
   simp only [C.refsLt,d_] at hc
   refine .xfn _ _ _ (by simpa using hl) (fun i c v hi hv=>?_)
   simp only [c_,f_] at hi
   obtain ⟨c0,hc0,rfl⟩:=hi
   exact Rd.rn1 hw hS hβ hτ hN (hc c0 (a_ hc0)) (hr i c0 v hc0 hv)
  | _=>simp_all [C.refsLt,C.refsLt1]
theorem Rd.rn (hw:E'.w=E.w) (hS:E'.S=E.S) (hβ:∀r,r<m→E'.β (f r)=E.β r) (hτ:∀r,r<m→E'.τ (f r)=E.τ r) (hN:∀r,r<m→f r<E'.N) {c:C} {v:Value} (hc:c.refsLtT m=true) (h:Rd E c v):Rd E' (c.rn f) v:=by
 cases c with
 | tup cs =>
  cases h with
  | tup _ vs hl hr =>
   simp only [C.refsLtT,d_] at hc
   refine .tup _ _ (by simpa using hl) (fun i c v hi hv=>?_)
   simp only [c_,f_] at hi
   obtain ⟨c0,hc0,rfl⟩:=hi
   exact Rd.rn2 hw hS hβ hτ hN (hc c0 (a_ hc0)) (hr i c0 v hc0 hv)
 | _=>exact Rd.rn2 hw hS hβ hτ hN (by simpa [C.refsLtT] using hc) h
theorem Rd.un1 (hw:E.w=E'.w) (hS:E.S=E'.S) (hβ:∀r,r<m→E'.β (f r)=E.β r) (hτ:∀r,r<m→E'.τ (f r)=E.τ r) (hN:m≤E.N) {c:C} {v:Value} (hc:c.refsLt1 m=true) (h:Rd E' (c.rn1 f) v):Rd E c v:=by
 cases c with
 | d x=>cases h with | d _ _ hd=>exact .d _ _ (by rw [hw,hS];exact hd)
 | nil0=>cases h with | nil0 a=>exact .nil0 a
 | nilp=>cases h with | nilp=>exact .nilp
 | val v=>cases h with | val _=>exact .val v
 | ptr r off=>simp only [C.refsLt1,decide_eq_true_eq] at hc;cases h with | ptr _ _ _=>rw [hβ r hc];exact Rd.ptr (E:=E) r off (by omega)
 | own r q=>simp only [C.refsLt1,decide_eq_true_eq] at hc;cases h with | own _ _ _ _ g1 g2 g3=>exact Rd.own (E:=E) r q v (by omega) g1 (by rw [←hτ r hc];exact g2) (by rw [←hτ r hc];exact g3)
 | rsl r n=>simp only [C.refsLt1,decide_eq_true_eq] at hc;cases h with | rsl _ _ _=>rw [hβ r hc];exact Rd.rsl (E:=E) r n (by omega)
 | eptr r z i off=>simp only [C.refsLt1,decide_eq_true_eq] at hc;cases h with | eptr _ _ _ _ _=>rw [hβ r hc];exact Rd.eptr (E:=E) r z i off (by omega)
 | tptr r q z i off=>simp only [C.refsLt1,decide_eq_true_eq] at hc;cases h with | tptr _ _ _ _ _ b _ g2 g3=>exact Rd.tptr (E:=E) r q z i off b (by omega) (by rw [←hτ r hc];exact g2) (by rw [←hτ r hc];exact g3)
 | map r=>simp only [C.refsLt1,decide_eq_true_eq] at hc;cases h with | map _ _=>rw [hβ r hc];exact Rd.map (E:=E) r (by omega)
 | _=>simp [C.refsLt1] at hc
theorem Rd.un2 (hw:E.w=E'.w) (hS:E.S=E'.S) (hβ:∀r,r<m→E'.β (f r)=E.β r) (hτ:∀r,r<m→E'.τ (f r)=E.τ r) (hN:m≤E.N) {c:C} {v:Value} (hc:c.refsLt m=true) (h:Rd E' (c.rn2 f) v):Rd E c v:=by
 cases c with
 | fn g cs =>
  simp only [C.refsLt,d_] at hc
  cases h with
  | fn _ _ vs hl hr =>
   refine .fn _ _ _ (by simpa using hl) (fun i c v hi hv=>?_)
   exact Rd.un1 hw hS hβ hτ hN (hc c (a_ hi)) (hr i (c.rn1 f) v (by rw [c_,hi];rfl) hv)
 | agg cs =>
  simp only [C.refsLt,d_] at hc
  cases h with
  | agg _ vs hl h1 hr =>
   refine .agg _ _ (by simpa using hl) h1 (fun i c v hi hv=>?_)
   exact Rd.un1 hw hS hβ hτ hN (hc c (a_ hi)) (hr i (c.rn1 f) v (by rw [c_,hi];rfl) hv)
 | xfn g cs =>
  simp only [C.refsLt,d_] at hc
  cases h with
  | xfn _ _ vs hl hr =>
   refine .xfn _ _ _ (by simpa using hl) (fun i c v hi hv=>?_)
   exact Rd.un1 hw hS hβ hτ hN (hc c (a_ hi)) (hr i (c.rn1 f) v (by rw [c_,hi];rfl) hv)
 | _=>exact Rd.un1 hw hS hβ hτ hN (by simpa [C.refsLt] using hc) h
theorem Rd.un (hw:E.w=E'.w) (hS:E.S=E'.S) (hβ:∀r,r<m→E'.β (f r)=E.β r) (hτ:∀r,r<m→E'.τ (f r)=E.τ r) (hN:m≤E.N) {c:C} {v:Value} (hc:c.refsLtT m=true) (h:Rd E' (c.rn f) v):Rd E c v:=by
 cases c with
 | tup cs =>
  simp only [C.refsLtT,d_] at hc
  cases h with
  | tup _ vs hl hr =>
   refine .tup _ _ (by simpa using hl) (fun i c v hi hv=>?_)
   exact Rd.un2 hw hS hβ hτ hN (hc c (a_ hi)) (hr i (c.rn2 f) v (by rw [c_,hi];rfl) hv)
 | _=>exact Rd.un2 hw hS hβ hτ hN (by simpa [C.refsLtT] using hc) h
end
theorem ACalls.emb {P:Program} {g:FuncId} {args:List C} {H0:List O} {R:C→List O→Prop} (h:ACalls P g args H0 R) {H:List O} (rs:List Nat) (ha:args.all (C.refsLtT H0.length)=true) (hst:H0.all O.still=true)
  (hrs:rs.length=H0.length) (hnd:rs.Nodup) (hat:rs.map (H[·]?)=H0.map some) {K:C→List O→Prop}
  (hk:∀c H',R c H'→H'.length=H0.length→c.refsLtT H0.length=true∧H'.all O.still=true∧K (c.rn fun i=>rs.getD i 0) (setAll H rs H')):ACalls P g (args.map (C.rn fun i=>rs.getD i 0)) H K:=by
 intro E vs hH hs hargs
 have hpl:∀i,i<H0.length→∃x o,rs[i]? = some x∧rs.getD i 0=x∧H[x]? = some o∧H0[i]? = some o:=fun i hi=>by
  have hi':i<rs.length:=by omega
  have h1:=congrArg (fun l=>l[i]?) hat
  simp only [c_,e_ hi',e_ hi,Option.map_some] at h1
  exact ⟨rs[i],H0[i],e_ hi',by simp [hi'],Option.some.inj h1,e_ hi⟩
 have hltR:∀r,r∈rs→r<H.length:=fun r hr=>by
  obtain ⟨i,hi⟩:=List.mem_iff_getElem?.1 hr
  obtain ⟨x,o,h1,_,h3,_⟩:=hpl i (by rw [←hrs];exact (b_.1 hi).1)
  rw [hi] at h1;cases h1
  exact (b_.1 h3).1
 have hpos:∀x i,rs[i]? = some x→pos rs x=some i:=fun x i hx=>by
  cases hp:pos rs x with
  | none=>exact absurd (a_ hx) (pos_none hp)
  | some j =>
   have hj:=pos_some hp
   obtain ⟨a1,a2⟩:=b_.1 hx
   obtain ⟨b1,b2⟩:=b_.1 hj
   have hpw:=List.pairwise_iff_getElem.1 hnd
   rcases Nat.lt_trichotomy i j with hlt | rfl | hlt
   ·exact absurd (a2.trans b2.symm) (hpw i j a1 b1 hlt)
   ·rfl
   ·exact absurd (b2.trans a2.symm) (hpw j i b1 a1 hlt)
 have hinj:∀i j,i<H0.length→j<H0.length→rs.getD i 0=rs.getD j 0→i=j:=fun i j hi hj he=>by
  obtain ⟨x,_,h1,h2,_⟩:=hpl i hi
  obtain ⟨y,_,g1,g2,_⟩:=hpl j hj
  have:x=y:=by rw [←h2,←g2,he]
  subst this
  have a1:=hpos x i h1
  have a2:=hpos x j g1
  rw [a1] at a2;exact Option.some.inj a2
 let f:Nat→Nat:=fun i=>rs.getD i 0
 let E0:Env:={ E with N:=H0.length,β:=fun i=>E.β (f i),τ:=fun i=>E.τ (f i),pv:=fun b=>∃(i:Nat) (o:O),H0[i]? = some o∧o.block E (f i) b }
 have hlt0:∀{i:Nat} {o:O},H0[i]? = some o→i<H0.length:=fun ho=>(b_.1 ho).1
 have hget:∀{i:Nat} {o:O},H0[i]? = some o→H[f i]? = some o:=fun {i o} ho=>by
  obtain ⟨x,o',_,h2,h3,h4⟩:=hpl i (hlt0 ho)
  rw [ho] at h4;cases h4
  show H[rs.getD i 0]? = _
  rw [h2];exact h3
 simp only [d_] at hst ha
 have hb0:∀(i:Nat) (o:O),o.block E0 i=o.block E (f i):=fun i o=>O.block_ren rfl rfl
 have hpv0:∀b,E0.pv b→E.pv b:=fun b ⟨i,o,ho,hb⟩=>hH.pv (f i) o b (hget ho) hb
 have hE0:RepH E0 H0:=by
  refine ⟨rfl,fun i o ho=>?_,fun i o b ho hb=>⟨i,o,ho,by rw [←hb0];exact hb⟩,fun i o b ho hb=>hH.lt (f i) o b (hget ho) (by rw [←hb0];exact hb),fun i j o o' b ho ho' hb hb'=>?_,hH.Slt⟩
  ·exact RepO.ren (E:=E) (E':=E0) (r:=f i) (r':=i) rfl rfl rfl rfl (hst o (a_ ho)) (hH.obj (f i) o (hget ho))
  ·rw [hb0] at hb hb'
   exact hinj i j (hlt0 ho) (hlt0 ho') (hH.apart (f i) (f j) o o' b (hget ho) (hget ho') hb hb')
 refine (h E0 vs hE0 (by simpa using hs) (fun i c v hc hv=>?_)).mono ?_
 ·have h1:=hargs i (c.rn f) v (by rw [c_,hc];rfl) hv
  exact Rd.un (E:=E0) (E':=E) (m:=H0.length) rfl rfl (fun _ _=>rfl) (fun _ _=>rfl) (g_ _) (ha c (a_ hc)) h1
 ·rintro ex w' ⟨v,c,E',H',rfl,rfl,h3,h4,h5,h6,h7⟩
  obtain ⟨k1,k2,k3⟩:=hk c H' h7 h6
  have hN':E'.N=H0.length:=by rw [h3.N,h6]
  let E2:Env:={ E with w:=E'.w,S:=E'.S,τ:=fun x=>match pos rs x with | some i=>E'.τ i | none=>E.τ x,pv:=fun b=>E.pv b∨E'.pv b }
  have hτin:∀x i,pos rs x=some i→E2.τ x=E'.τ i:=fun x i hp=>by show (match pos rs x with | some i=>E'.τ i | none=>E.τ x)=_;rw [hp]
  have hτout:∀x,pos rs x=none→E2.τ x=E.τ x:=fun x hp=>by show (match pos rs x with | some i=>E'.τ i | none=>E.τ x)=_;rw [hp]
  have hin0:∀x i,pos rs x=some i→i<H0.length∧f i=x:=fun x i hp=>by
   have h1:=pos_some hp
   have hi:i<H0.length:=by rw [←hrs];exact (b_.1 h1).1
   obtain ⟨y,_,g1,g2,_⟩:=hpl i hi
   rw [h1] at g1;cases g1
   exact ⟨hi,g2⟩
  have hβin:∀x i,pos rs x=some i→E2.β x=E'.β i:=fun x i hp=>by
   obtain ⟨g1,g2⟩:=hin0 x i hp
   have:=h4.β i g1
   rw [this]
   show E.β x=E.β (f i)
   rw [g2]
  have hl:Le E E2:=by
   refine ⟨h4.os,h4.tape,h4.output,h4.size,g_ _,fun _ _=>rfl,fun x hx=>?_,h4.S,h4.cell,fun b hb hp=>h4.blk b hb (fun hp'=>hp (hpv0 b hp')),fun b i hs=>?_,fun b hp=>?_,h4.map⟩
   ·cases hp:pos rs x with
    | none=>rw [hτout x hp];exact ⟨g_ _,fun _=>rfl⟩
    | some i =>
     obtain ⟨g1,g2⟩:=hin0 x i hp
     rw [hτin x i hp]
     have:=h4.τ i g1
     have e0:E0.τ i=E.τ x:=by show E.τ (f i)=_;rw [g2]
     rw [e0] at this;exact this
   ·rcases h4.newS b i hs with h' | h' | h'
    ·exact .inl h'
    ·exact .inr (.inl h')
    ·exact .inr (.inr (hpv0 b h'))
   ·rcases hp with hp | hp
    ·exact .inl hp
    ·rcases h4.newP b hp with h' | h'
     ·exact .inl (hpv0 b h')
     ·exact .inr h'
  simp only [d_] at k2
  have hin:∀{x:Nat} {o:O} {i:Nat},pos rs x=some i→(setAll H rs H')[x]? = some o→H'[i]? = some o:=fun {x o i} hp ho=>by
   rw [setAll_at rs H' H i x hnd (by rw [hrs,h6]) hltR (pos_some hp)] at ho;exact ho
  have hout:∀{x:Nat} {o:O},pos rs x=none→(setAll H rs H')[x]? = some o→H[x]? = some o:=fun {x o} hp ho=>by
   rw [setAll_other rs H' H x (pos_none hp)] at ho;exact ho
  have hbin:∀{x:Nat} (o:O) {i:Nat},pos rs x=some i→o.block E2 x=o.block E' i:=fun {x} o {i} hp=>O.block_ren (hβin x i hp) (hτin x i hp)
  have hbout:∀{x:Nat} (o:O),pos rs x=none→o.block E2 x=o.block E x:=fun {x} o hp=>O.block_same rfl (hτout x hp)
  have far:∀{x:Nat} {o:O} {b:Nat},pos rs x=none→H[x]? = some o→o.block E x b→¬E0.pv b:=by
   rintro x o b hp ho hb ⟨i,o1,ho1,hb1⟩
   have he:=hH.apart x (f i) o o1 b ho (hget ho1) hb hb1
   obtain ⟨y,_,g1,g2,_⟩:=hpl i (hlt0 ho1)
   have:pos rs x=some i:=hpos x i (by rw [g1,←g2,he])
   rw [hp] at this;cases this
  have far':∀{x:Nat} {o:O} {b:Nat},pos rs x=none→H[x]? = some o→o.block E x b→¬E'.pv b:=by
   intro x o b hp ho hb hp'
   rcases h4.newP b hp' with h' | h'
   ·exact far hp ho hb h'
   ·have:=hH.lt x o b ho hb;exact absurd h' (by show ¬E.w.heap.size≤b;omega)
  have hH2:RepH E2 (setAll H rs H'):=by
   refine ⟨by rw [setAll_len];exact hH.N,fun x o ho=>?_,fun x o b ho hb=>?_,fun x o b ho hb=>?_,fun x x' o o' b ho ho' hb hb'=>?_,h3.Slt⟩
   ·cases hp:pos rs x with
    | some i =>
     have g1:=hin hp ho
     exact RepO.ren (E:=E') (E':=E2) (r:=i) (r':=x) rfl rfl (hβin x i hp).symm (hτin x i hp).symm (k2 o (a_ g1)) (h3.obj i o g1)
    | none =>
     have ho':=hout hp ho
     refine (hH.obj x o ho').keep hl (by rw [hH.N];exact (b_.1 ho').1) (hτout x hp) (fun b hb=>⟨h4.blk b (hH.lt x o b ho' hb) (far hp ho' hb),fun i hs=>?_⟩)
     rcases h4.newS b i hs with h' | h' | h'
     ·exact h'
     ·have:=hH.lt x o b ho' hb;exact absurd h' (by show ¬E.w.heap.size≤b;omega)
     ·exact absurd h' (far hp ho' hb)
   ·cases hp:pos rs x with
    | some i=>rw [hbin o hp] at hb;exact .inr (h3.pv i o b (hin hp ho) hb)
    | none=>rw [hbout o hp] at hb;exact .inl (hH.pv x o b (hout hp ho) hb)
   ·cases hp:pos rs x with
    | some i=>rw [hbin o hp] at hb;exact h3.lt i o b (hin hp ho) hb
    | none=>rw [hbout o hp] at hb;exact i_ (hH.lt x o b (hout hp ho) hb) h4.size
   ·cases hp:pos rs x with
    | some i =>
     rw [hbin o hp] at hb
     cases hp':pos rs x' with
     | some i' =>
      rw [hbin o' hp'] at hb'
      have e:=h3.apart i i' o o' b (hin hp ho) (hin hp' ho') hb hb'
      subst e
      have a1:=pos_some hp
      have a2:=pos_some hp'
      rw [a1] at a2;exact Option.some.inj a2
     | none =>
      rw [hbout o' hp'] at hb'
      exact absurd (h3.pv i o b (hin hp ho) hb) (far' hp' (hout hp' ho') hb')
    | none =>
     rw [hbout o hp] at hb
     cases hp':pos rs x' with
     | some i' =>
      rw [hbin o' hp'] at hb'
      exact absurd (h3.pv i' o' b (hin hp' ho') hb') (far' hp (hout hp ho) hb)
     | none =>
      rw [hbout o' hp'] at hb'
      exact hH.apart x x' o o' b (hout hp ho) (hout hp' ho') hb hb'
  have hfl:∀i,i<H0.length→f i<E.N:=fun i hi=>by
   obtain ⟨x,o,_,g2,g3,_⟩:=hpl i hi
   show rs.getD i 0<_
   rw [g2,hH.N];exact (b_.1 g3).1
  have hposf:∀i,i<H0.length→pos rs (f i)=some i:=fun i hi=>by
   obtain ⟨x,_,g1,g2,_⟩:=hpl i hi
   show pos rs (rs.getD i 0)=_
   rw [g2];exact hpos x i g1
  exact ⟨v,c.rn f,E2,setAll H rs H',rfl,rfl,hH2,hl,Rd.rn (E:=E') (E':=E2) (m:=H0.length) rfl rfl (fun r hr=>hβin _ r (hposf r hr)) (fun r hr=>hτin _ r (hposf r hr)) hfl k1 h5,by rw [setAll_len],k3⟩
attribute [go_sem] C.rn.eq_def C.rn2.eq_def C.rn1.eq_def
section
variable {P:Program} {n:Nat} {md:Region.Mode} {ops:Array Oper} {LA:Array Bool} {F:List (Nat×O)}
def vcAM (P:Program) (n:Nat) (ops:Array Oper) (F:List (Nat×O)) (X:List Nat) (K:St→Prop):List Nat→St→Prop
 | [],⟨σ,H⟩=>K ⟨σ,H⟩
 | i :: r,⟨σ,H⟩=>match ops[i]? with
  | none=>False
  | some o=>okDst n o=true∧o.guard=none ∧
   (match allocOp o.op with
   | some _=>vcAM P n ops F X K r (put ⟨σ,H⟩ o.dst .top)
   | none=>(match quietX X i o.op with
    | true=>vcQE P F ⟨σ,H⟩ o.op (kD (vcAM P n ops F X K r) ⟨σ,H⟩ o.dst)
    | false=>vcOpM P ⟨σ,H⟩ o (fun c H'=>holdsB F H'∧vcAM P n ops F X K r (put ⟨σ,H'⟩ o.dst c))))
end
attribute [go_sem] vcAM.eq_1 vcAM.eq_2
section
variable {P:Program} {f:FuncId} {n n0:Nat} {R:C→List O→Prop}
theorem AW.recastE {k:List Item} {s:St} (h:n0≤s.H.length→∀E a,RepSt E n s a→∃s' E',E'.w=E.w∧Le E E'∧RepSt E' n s' a∧AW P f n n0 R k s'):AW P f n n0 R k s:=by
 intro h0 E a b cs hst hb hk
 obtain ⟨s',E',hw,hl,hst',h'⟩:=h h0 E a hst
 have hN:n0≤E.N:=by rw [hst.heap.N];exact h0
 have hN':n0≤s'.H.length:=by rw [←hst'.heap.N];exact Nat.le_trans hN hl.N
 obtain ⟨fr,w',v,r,E'',H',g1,g2,g3,g4,g5,g6,g7,g8⟩:=h' hN' E' a b cs hst' hb hk
 rw [hw] at g1
 exact ⟨fr,w',v,r,E'',H',g1,g2,g3,g4,g5,g6,(hl.trunc hN).trans g7,g8⟩
end
section
variable {P:Program} {f:FuncId} {n n0:Nat} {R:C→List O→Prop}
end
end Go.Abs
