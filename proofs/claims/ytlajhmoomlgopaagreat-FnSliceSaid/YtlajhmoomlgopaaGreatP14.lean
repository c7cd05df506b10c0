import Derived.Test.YtlajhmoomlgopaaGreatP10
import Derived.Test.YtlajhmoomlgopaaGreatP3
import Derived.Test.YtlajhmoomlgopaaGreatP1
import Derived.Test.YtlajhmoomlgopaaGreatP11
import Derived.KernelRfl
open List renaming all_eq_true→a_,map_cons→c_,mem_flatMap→d_,length_cons→e_,mem_map→f_,length_nil→g_,map_nil→i_,length_map→j_,getElem?_eq_some_iff→k_
open Bool renaming and_eq_true→b_,true_and→l_
open Nat renaming mul_le_mul_right→h_,le_trans→m_
set_option linter.unusedVariables false
set_option linter.unusedSimpArgs false
namespace Go.Abs
open Go
def headsT:List (List UInt8):=(List.range 11).map fun k:Nat=>headT (k:Int)
def hdF (w:List UInt8):List (List UInt8)→Nat→Int×List UInt8→Int×List UInt8
 | [],_,s=>s
 | h :: r,k,s=>hdF w r (k+1) (if h=w then ((k:Int),[]) else s)
def headG (w:List UInt8):Gl:=⟨(hdF w headsT 0 (9,w)).1,(hdF w headsT 0 (9,w)).2,[],[]⟩
def Gl.nest (g:Gl):Bool:=decide (g.kind=7) || decide (g.kind=8) || decide (g.kind=10)
def Gl.addG (g x:Gl):Gl:=⟨g.kind,g.name,g.terms,g.goals++[x]⟩
def Gl.addT (g:Gl) (t:Tm):Gl:=⟨g.kind,g.name,g.terms++[t],g.goals⟩
mutual
def rgT (T:List (List UInt8)):Nat→Nat→Option (Gl×Nat)
 | 0,_=>none
 | n+1,i=>match T[i]? with
  | none=>none
  | some t=>if t=headT 0 then some (⟨0,[],[],[]⟩,i+1) else if t=headT 1 then some (⟨1,[],[],[]⟩,i+1)
   else match T[i+1]? with
    | none=>none
    | some w=>if t=[40] then rgL T n (i+2) (headG w) else none
def rgL (T:List (List UInt8)):Nat→Nat→Gl→Option (Gl×Nat)
 | 0,_,_=>none
 | n+1,i,g=>match T[i]? with
  | none=>none
  | some t=>if t=[41] then (if 1<g.kind then some (g,i+1) else none)
   else if g.nest=true then (match rgT T n i with | some (x,j)=>rgL T n j (g.addG x) | none=>none)
   else match rdT false T (2 * (T.length - i)+1) i with | some (v,j)=>rgL T n j (g.addT v.tm) | none=>none
end
theorem rgT_kind {T:List (List UInt8)} {n i:Nat} {t:List UInt8} {g:Gl} {j:Nat} (h:rgT T (n+1) i=some (g,j)) (ht:T[i]? = some t) :
  (t=headT 0∧g=⟨0,[],[],[]⟩∧j=i+1)∨(t≠headT 0∧t=headT 1∧g=⟨1,[],[],[]⟩∧j=i+1)∨(t≠headT 0∧t≠headT 1∧t=[40]∧∃w,T[i+1]? = some w∧rgL T n (i+2) (headG w)=some (g,j)):=by
 rw [rgT,ht] at h
 dsimp only at h
 by_cases h0:t=headT 0
 ·rw [if_pos h0] at h;cases h;exact .inl ⟨h0,rfl,rfl⟩
 ·rw [if_neg h0] at h
  by_cases h1:t=headT 1
  ·rw [if_pos h1] at h;cases h;exact .inr (.inl ⟨h0,h1,rfl,rfl⟩)
  ·rw [if_neg h1] at h
   cases hw:T[i+1]? with
   | none=>rw [hw] at h;cases h
   | some w =>
    rw [hw] at h
    dsimp only at h
    by_cases h4:t=[40]
    ·rw [if_pos h4] at h;exact .inr (.inr ⟨h0,h1,h4,w,rfl,h⟩)
    ·rw [if_neg h4] at h;cases h
theorem rgL_kind {T:List (List UInt8)} {n i:Nat} {g0 g:Gl} {j:Nat} (h:rgL T (n+1) i g0=some (g,j)):∃t,T[i]? = some t ∧
  ((t=[41]∧1<g0.kind∧g=g0∧j=i+1)∨(t≠[41]∧g0.nest=true∧∃x k,rgT T n i=some (x,k)∧rgL T n k (g0.addG x)=some (g,j))∨(t≠[41]∧g0.nest=false∧∃v k,rdT false T (2 * (T.length - i)+1) i=some (v,k)∧rgL T n k (g0.addT v.tm)=some (g,j))):=by
 rw [rgL] at h
 cases ht:T[i]? with
 | none=>rw [ht] at h;cases h
 | some t =>
  rw [ht] at h
  refine ⟨t,rfl,?_⟩
  dsimp only at h
  by_cases h4:t=[41]
  ·rw [if_pos h4] at h
   by_cases h1:1<g0.kind
   ·rw [if_pos h1] at h;cases h;exact .inl ⟨h4,h1,rfl,rfl⟩
   ·rw [if_neg h1] at h;cases h
  ·rw [if_neg h4] at h
   by_cases hn:g0.nest=true
   ·rw [if_pos hn] at h
    cases hx:rgT T n i with
    | none=>rw [hx] at h;cases h
    | some x=>rw [hx] at h;exact .inr (.inl ⟨h4,hn,x.1,x.2,rfl,h⟩)
   ·rw [if_neg hn] at h
    cases hx:rdT false T (2 * (T.length - i)+1) i with
    | none=>rw [hx] at h;cases h
    | some x=>rw [hx] at h;exact .inr (.inr ⟨h4,by simpa using hn,x.1,x.2,rfl,h⟩)
theorem rg_len (T:List (List UInt8)):∀n:Nat,(∀i g j,rgT T n i=some (g,j)→i<j∧j≤T.length)∧∀i g0 g j,rgL T n i g0=some (g,j)→i<j∧j≤T.length
 | 0=>⟨fun i g j h=>(by rw [rgT] at h;cases h),fun i g0 g j h=>(by rw [rgL] at h;cases h)⟩
 | n+1=>by
  obtain ⟨i1,i2⟩:=rg_len T n
  refine ⟨fun i g j h=>?_,fun i g0 g j h=>?_⟩
  ·cases ht:T[i]? with
   | none=>rw [rgT,ht] at h;cases h
   | some t =>
    have hl:=(k_.1 ht).1
    rcases rgT_kind h ht with ⟨_,_,rfl⟩ | ⟨_,_,_,rfl⟩ | ⟨_,_,_,w,_,h⟩
    ·omega
    ·omega
    ·have:=i2 _ _ _ _ h;omega
  ·obtain ⟨t,ht,h⟩:=rgL_kind h
   have hl:=(k_.1 ht).1
   rcases h with ⟨_,_,_,rfl⟩ | ⟨_,_,x,k,h1,h2⟩ | ⟨_,_,v,k,h1,h2⟩
   ·omega
   ·have:=i1 _ _ _ h1
    have:=i2 _ _ _ _ h2
    omega
   ·have:=(rd_len false T _).1 _ _ _ h1
    have:=i2 _ _ _ _ h2
    omega
def inR:Option Int→Bool
 | some n=>decide (0≤n) && decide (n≤100000)
 | none=>false
def nbB (s:List UInt8):Bool:=isName s || inR (pInt s)
def nbT:List (List UInt8)→List (List UInt8)→List (List UInt8)→Option (List (List UInt8)×Nat)
 | [],ns,out=>some (out,ns.length)
 | t :: r,ns,out=>if t.head?≠some 63 then nbT r ns (out++[t])
  else if nbB t.tail=true then
   nbT r (if t∈ns then ns else ns++[t]) (out++[63 :: dec (ns.findIdx (fun x=>x == t):Nat)])
  else none
def prmT (T:List (List UInt8)):Nat→Nat→Nat
 | 0,_=>0
 | n+1,a=>if T[4+a]? = some (63 :: dec (a:Nat)) then 1+prmT T n (a+1) else 0
def dfT (all:List (List UInt8)):Option Rl:=match nbT all [] [] with
 | none=>none
 | some (T,c)=>if T.length<6 then none else if T[1]? = some [100,101,102,105,110,101]∧T[2]? = some [40] then
   (let a:=prmT T T.length 0
    if T[4+a]? = some [41] then (match rgT T (2 * T.length+1) (5+a) with
     | some (g,j)=>if j+1=T.length then some ⟨T.getD 3 [],(a:Int),(c:Int) - (a:Int),g⟩ else none
     | none=>none)
    else none)
  else none
def ppT:List (List UInt8)→List (List UInt8)→Int→List Rl→Option (List Rl×Int)
 | [],_,d,rels=>some (rels,d)
 | t :: r,cur,d,rels =>
  (let d':=if t=[40] then d+1 else if t=[41] then d - 1 else d
   if 0<d' then ppT r (cur++[t]) d' rels
   else match dfT (cur++[t]) with
    | some x=>ppT r [] d' (rels++[x])
    | none=>none)
def pgV (s:List UInt8):Option Pg:=match tokV s with
 | some T=>(match ppT T [] 0 [] with
  | some (rels,d)=>if d=0∧pgOk ⟨rels⟩=true then some ⟨rels⟩ else none
  | none=>none)
 | none=>none
def Gl.drA (S:List (List UInt8×Int)) (n mode:Int) (g:Gl):Prop:=g.shape=true∧g.varsLt n=true∧g.kind≠7∧g.kind≠8∧g.cnt≤2∧wtL g.enc≤1000∧(∀x,x∈g.subs→x.kind=9→(x.name,(x.terms.length:Int))∈S)∧(mode≠2→∀x,x∈g.subs→x.kind≠10)
def Gl.drC (S:List (List UInt8×Int)) (n mode:Int) (g:Gl):Prop:=g.kind=7∧g.name=[]∧g.terms=[]∧g.goals.length≤4∧∀x,x∈g.goals→x.drA S n mode
def Gl.drB (S:List (List UInt8×Int)) (n mode:Int) (g:Gl):Prop:=g.drC S n mode∨(g.kind=8∧g.name=[]∧g.terms=[]∧g.goals.length≤3∧∀x,x∈g.goals→x.drC S n mode)
theorem Gl.drA_cls {S:List (List UInt8×Int)} {n mode:Int} {g:Gl} (h:g.drA S n mode):g.clsS.length≤1:=by
 obtain ⟨_,_,h7,h8,_⟩:=h
 rw [Gl.clsS_eq]
 split
 ·simp
 ·split
  ·simp
  ·try rw [if_neg h8,if_neg h7]
   simp
theorem Gl.andS_one:∀(l:List Gl) (a:List (List Gl)),(∀x,x∈l→x.clsS.length≤1)→a.length≤1→(Gl.andS l a).length≤1
 | [],a,_,h=>by simpa [Gl.andS] using h
 | g :: r,a,hm,h=>by
  have h1:=hm g (by simp)
  have h2:(prodC a g.clsS).length≤1:=by rw [prodC_len];exact m_ (Nat.mul_le_mul h h1) (Nat.le_refl _)
  simp only [Gl.andS]
  rw [if_neg (by omega),if_neg (by omega)]
  exact Gl.andS_one r _ (fun x hx=>hm x (by simp [hx])) h2
theorem Gl.drC_cls {S:List (List UInt8×Int)} {n mode:Int} {g:Gl} (h:g.drC S n mode):g.clsS.length≤1:=by
 obtain ⟨h7,_,_,_,hm⟩:=h
 rw [Gl.clsS_eq,if_neg (by omega),if_neg (by omega),if_neg (by omega),if_pos h7]
 exact Gl.andS_one _ _ (fun x hx=>Gl.drA_cls (hm x hx)) (by simp)
theorem Gl.orS_one:∀(l:List Gl) (a:List (List Gl)),(∀x,x∈l→x.clsS.length≤1)→(Gl.orS l a).length≤a.length+l.length
 | [],a,_=>by simp [Gl.orS]
 | g :: r,a,hm=>by
  have h1:=hm g (by simp)
  simp only [Gl.orS]
  rw [if_neg (by omega)]
  have:=Gl.orS_one r (a++g.clsS) (fun x hx=>hm x (by simp [hx]))
  simp only [List.length_append,e_] at this ⊢
  omega
theorem Gl.drB_cls {S:List (List UInt8×Int)} {n mode:Int} {g:Gl} (h:g.drB S n mode):g.clsS.length≤3:=by
 rcases h with h | ⟨h8,_,_,hl,hm⟩
 ·have:=Gl.drC_cls h;omega
 ·rw [Gl.clsS_eq,if_neg (by omega),if_neg (by omega),if_pos h8]
  have:=Gl.orS_one g.goals [] (fun x hx=>Gl.drC_cls (hm x hx))
  simp only [g_] at this;omega
structure Gl.drW (S:List (List UInt8×Int)) (n mode:Int) (c w:Nat) (g:Gl):Prop where
 shape:g.shape=true
 vars:g.varsLt n=true
 cnt:g.cnt≤c
 wt:wtL g.enc≤w
 calls:∀x,x∈g.subs→x.kind=9→(x.name,(x.terms.length:Int))∈S
 nots:mode≠2→∀x,x∈g.subs→x.kind≠10
theorem Gl.drA_W {S:List (List UInt8×Int)} {n mode:Int} {g:Gl} (h:g.drA S n mode):g.drW S n mode 2 1000:=⟨h.1,h.2.1,h.2.2.2.2.1,h.2.2.2.2.2.1,h.2.2.2.2.2.2.1,h.2.2.2.2.2.2.2⟩
theorem Gl.drW_up {S:List (List UInt8×Int)} {n mode:Int} {c w m:Nat} {g:Gl} (hk:g.kind=7∨g.kind=8) (hn:g.name=[]) (ht:g.terms=[]) (hl:g.goals.length≤m) (hm8:m≤8) (hm:∀x,x∈g.goals→x.drW S n mode c w):g.drW S n mode (1+m * c) (m * (1+w)):=by
 have hcs:∀l:List Gl,(∀x,x∈l→x.drW S n mode c w)→Gl.cnts l≤l.length * c∧wtR (l.map Gl.enc)≤l.length * (1+w):=by
  intro l
  induction l with
  | nil=>intro _;simp [Gl.cnts,wtR]
  | cons x r ih =>
   intro hx
   obtain ⟨i1,i2⟩:=ih (fun y hy=>hx y (by simp [hy]))
   have h1:=(hx x (by simp)).cnt
   have h2:=(hx x (by simp)).wt
   simp only [Gl.cnts,c_,wtR,e_,Nat.succ_mul]
   omega
 obtain ⟨k1,k2⟩:=hcs g.goals hm
 have j1:g.goals.length * c≤m * c:=h_ _ hl
 have j2:g.goals.length * (1+w)≤m * (1+w):=h_ _ hl
 refine ⟨?_,?_,?_,?_,fun x hx h9=>?_,fun h2 x hx=>?_⟩
 ·rw [Gl.shape_eq,Gl.form_and hk hn (by rw [ht];rfl) (by omega),ht]
  simp only [List.all_nil,l_,a_]
  exact fun x hx=>(hm x hx).shape
 ·unfold Gl.varsLt
  rw [Gl.vars_eq,ht,Gl.varss_eq]
  simp only [Tm.varss,List.nil_append,a_,d_]
  rintro v ⟨x,hx,hv⟩
  have:=(hm x hx).vars
  unfold Gl.varsLt at this
  exact a_.1 this v hv
 ·rw [Gl.cnt_eq];omega
 ·rw [Gl.enc_eq,hn,ht]
  simp only [wtL,D.wt,i_,wtR,g_]
  omega
 ·rw [Gl.subs_eq,Gl.subss_eq] at hx
  rcases List.mem_cons.1 hx with rfl | hx
  ·omega
  ·obtain ⟨y,hy,hxy⟩:=d_.1 hx
   exact (hm y hy).calls x hxy h9
 ·rw [Gl.subs_eq,Gl.subss_eq] at hx
  rcases List.mem_cons.1 hx with rfl | hx
  ·omega
  ·obtain ⟨y,hy,hxy⟩:=d_.1 hx
   exact (hm y hy).nots h2 x hxy
theorem Gl.drC_W {S:List (List UInt8×Int)} {n mode:Int} {g:Gl} (h:g.drC S n mode):g.drW S n mode 9 4004:=Gl.drW_up (.inl h.1) h.2.1 h.2.2.1 h.2.2.2.1 (by omega) (fun x hx=>Gl.drA_W (h.2.2.2.2 x hx))
theorem Gl.drW_le {S:List (List UInt8×Int)} {n mode:Int} {c w c' w':Nat} {g:Gl} (h:g.drW S n mode c w) (h1:c≤c') (h2:w≤w'):g.drW S n mode c' w':=⟨h.shape,h.vars,m_ h.cnt h1,m_ h.wt h2,h.calls,h.nots⟩
theorem Gl.drB_W {S:List (List UInt8×Int)} {n mode:Int} {g:Gl} (h:g.drB S n mode):g.drW S n mode 28 12015:=by
 rcases h with h | ⟨h8,hn,ht,hl,hm⟩
 ·exact Gl.drW_le (Gl.drC_W h) (by decide) (by decide)
 ·exact Gl.drW_up (.inr h8) hn ht hl (by decide) (fun x hx=>Gl.drC_W (hm x hx))
def drNames:List (List UInt8):=[[112],[113],[114]]
def Pg.sg (p:Pg):List (List UInt8×Int):=p.rels.map fun r=>(r.name,r.arity)
def Pg.drP (mode:Int) (p:Pg):Prop:=(∃k,1≤k∧k≤3∧p.rels.map Rl.name=drNames.take k)∧∀r,r∈p.rels→1≤r.arity∧r.arity≤2∧0≤r.locals∧r.locals≤1∧r.body.drB p.sg (r.arity+r.locals) mode
structure Pg.fine (mode:Int) (p:Pg):Prop where
 ok:pgOk p=true
 wt:wtL p.enc≤60000
 cls:∀r,r∈p.rels→r.body.clsS.length≤3
 one:1≤p.rels.length
 nots:mode≠2→p.all false=true
theorem findR_at:∀(l:List Rl) (j:Nat) (r:Rl) (i:Int),l[j]? = some r→(l.map Rl.name).Nodup→findR l r.name i=i+j
 | [],j,r,i,h,_=>by simp at h
 | x :: q,0,r,i,h,_=>by
  simp at h;subst h
  simp [findR]
 | x :: q,j+1,r,i,h,hn=>by
  simp only [List.getElem?_cons_succ] at h
  rw [c_,List.nodup_cons] at hn
  have hne:¬x.name=r.name:=fun e=>hn.1 (by rw [e];exact f_.2 ⟨r,List.mem_of_getElem? h,rfl⟩)
  simp only [findR,if_neg hne]
  rw [findR_at q j r (i+1) h hn.2]
  push_cast;omega
theorem okL_of {p:Pg} (h:∀(j:Nat) (r:Rl),p.rels[j]? = some r→p.relOk j r=true):∀(l pre:List Rl),p.rels=pre++l→p.okL l=true
 | [],_,_=>rfl
 | x :: q,pre,e=>by
  have hl:p.rels.length - (q.length+1)=pre.length:=by rw [e];simp
  have hx:p.rels[pre.length]? = some x:=by rw [e];simp
  simp only [Pg.okL,b_]
  exact ⟨by rw [hl];exact h _ _ hx,okL_of h q (pre++[x]) (by rw [e];simp)⟩
theorem drNames_take {k:Nat} (h3:k≤3):(drNames.take k).Nodup∧(∀s,s∈drNames.take k→isRel s=true∧s.length=1)∧(drNames.take k).length=k:=by
 rcases (show k=0∨k=1∨k=2∨k=3 by omega) with rfl | rfl | rfl | rfl<;>exact ⟨by decide,by decide,by decide⟩
theorem Pg.drP_fine {mode:Int} {p:Pg} (h:p.drP mode):p.fine mode:=by
 obtain ⟨⟨k,k1,k3,hn⟩,hr⟩:=h
 obtain ⟨n1,n2,n3⟩:=drNames_take k3
 have hlen:p.rels.length=k:=by have:=congrArg List.length hn;rw [j_,n3] at this;exact this
 have hnd:(p.rels.map Rl.name).Nodup:=by rw [hn];exact n1
 have hfind:∀(j:Nat) (r:Rl),p.rels[j]? = some r→p.find r.name=j:=fun j r hj=>by
  unfold Pg.find;rw [findR_at _ j r 0 hj hnd];omega
 have hW:∀r,r∈p.rels→r.body.drW p.sg (r.arity+r.locals) mode 28 12015:=fun r hm=>Gl.drB_W (hr r hm).2.2.2.2
 have hname:∀r,r∈p.rels→isRel r.name=true∧r.name.length=1:=fun r hm=>n2 _ (by rw [←hn];exact f_.2 ⟨r,hm,rfl⟩)
 have hok:∀(j:Nat) (r:Rl),p.rels[j]? = some r→p.relOk j r=true:=fun j r hj=>by
  have hm:=List.mem_of_getElem? hj
  obtain ⟨a1,a2,a3,a4,_⟩:=hr r hm
  have w:=hW r hm
  have hc:p.callsFit r.body=true:=by
   unfold Pg.callsFit
   rw [a_]
   intro x hx
   by_cases h9:x.kind=9
   ·have hs:=w.calls x hx h9
    unfold Pg.sg at hs
    obtain ⟨y,hy,e⟩:=f_.1 hs
    obtain ⟨jy,hjy⟩:=List.getElem?_of_mem hy
    have e1:y.name=x.name:=congrArg Prod.fst e
    have e2:y.arity=(x.terms.length:Int):=congrArg Prod.snd e
    have hfy:=hfind jy y hjy
    rw [e1] at hfy
    unfold Pg.fitC
    rw [hfy,show ((jy:Int)).toNat=jy by omega,hjy]
    simp [h9,e2]
   ·exact Pg.fitC_other h9
  unfold Pg.relOk
  rw [hfind j r hj,(hname r hm).1,w.shape,w.vars,hc,decide_eq_true (show 0≤r.arity∧r.arity≤4 by omega),decide_eq_true (show 0≤r.locals∧r.locals≤8 by omega),decide_eq_true (show r.body.cnt≤60 by have:=w.cnt;omega)]
  simp
 have hpg:pgOk p=true:=by
  unfold pgOk
  rw [decide_eq_true (by omega),okL_of hok p.rels [] rfl];rfl
 refine ⟨hpg,?_,fun r hm=>Gl.drB_cls (hr r hm).2.2.2.2,by omega,fun h2=>?_⟩
 ·have hw:∀l:List Rl,(∀x,x∈l→x∈p.rels)→wtR (l.map Rl.enc)≤l.length * 12017:=by
   intro l
   induction l with
   | nil=>intro _;simp [wtR]
   | cons x r ih =>
    intro hx
    have i1:=ih (fun y hy=>hx y (by simp [hy]))
    have h1:=(hW x (hx x (by simp))).wt
    have h2:=(hname x (hx x (by simp))).2
    have h3:wtL x.enc=x.name.length+wtL x.body.enc:=by simp only [Rl.enc_eq,Gl.enc_eq,wtL,D.wt];omega
    simp only [c_,wtR,e_,Nat.succ_mul]
    omega
  have:=hw p.rels (fun x hx=>hx)
  rw [hlen] at this
  simp only [Pg.enc_eq,wtL,D.wt]
  have:=h_ 12017 k3
  omega
 ·unfold Pg.all
  rw [hpg,l_,a_]
  intro r hm
  unfold Gl.only
  rw [a_]
  intro x hx
  have:=(hW r hm).nots h2 x hx
  simp [Gl.onlyK,this]
def libT0:List UInt8:=[40,100,101,102,105,110,101,32,40,97,112,112,101,110,100,32,63,97,32,63,98,32,63,99,41,32,40,111,114,32,40,97,110,100,32,40,61,32,63,97,32,40,41,41,32,40,61,32,63,98,32,63,99,41,41,32,40,97,110,100,32,40,61,32,63,97,32,40,63,120,32,46,32,63,121,41,41,32,40,61,32,63,99,32,40,63,120,32,46,32,63,122,41,41,32,40,97,112,112,101,110,100,32,63,121,32,63,98,32,63,122,41,41,41,41,10,40,100,101,102,105,110,101,32,40,109,101,109,98,101,114,32,63,120,32,63,108,41,32,40,111,114,32,40,61,32,63,108,32,40,63,120,32,46,32,63,114,41,41,32,40,97,110,100,32,40,61,32,63,108,32,40,63,121,32,46,32,63,114,41,41,32,40,109,101,109,98,101,114,32,63,120,32,63,114,41,41,41,41,10]
def libT1:List UInt8:=[40,100,101,102,105,110,101,32,40,101,100,103,101,32,63,97,32,63,98,41,32,40,111,114,32,40,97,110,100,32,40,61,32,63,97,32,97,41,32,40,61,32,63,98,32,98,41,41,32,40,97,110,100,32,40,61,32,63,97,32,98,41,32,40,61,32,63,98,32,99,41,41,32,40,97,110,100,32,40,61,32,63,97,32,99,41,32,40,61,32,63,98,32,97,41,41,41,41,10,40,100,101,102,105,110,101,32,40,112,97,116,104,32,63,97,32,63,98,41,32,40,111,114,32,40,101,100,103,101,32,63,97,32,63,98,41,32,40,97,110,100,32,40,112,97,116,104,32,63,97,32,63,99,41,32,40,101,100,103,101,32,63,99,32,63,98,41,41,41,41,10]
def libT2:List UInt8:=[40,100,101,102,105,110,101,32,40,111,117,116,115,105,100,101,32,63,120,32,63,108,41,32,40,111,114,32,40,61,32,63,108,32,40,41,41,32,40,97,110,100,32,40,61,32,63,108,32,40,63,121,32,46,32,63,114,41,41,32,40,47,61,32,63,120,32,63,121,41,32,40,111,117,116,115,105,100,101,32,63,120,32,63,114,41,41,41,41,10,40,100,101,102,105,110,101,32,40,100,105,115,116,105,110,99,116,32,63,108,41,32,40,111,114,32,40,61,32,63,108,32,40,41,41,32,40,97,110,100,32,40,61,32,63,108,32,40,63,120,32,46,32,63,114,41,41,32,40,111,117,116,115,105,100,101,32,63,120,32,63,114,41,32,40,100,105,115,116,105,110,99,116,32,63,114,41,41,41,41,10]
def libT3:List UInt8:=[40,100,101,102,105,110,101,32,40,109,111,118,101,32,63,97,32,63,98,41,32,40,111,114,32,40,97,110,100,32,40,61,32,63,97,32,97,41,32,40,61,32,63,98,32,98,41,41,32,40,97,110,100,32,40,61,32,63,97,32,98,41,32,40,61,32,63,98,32,97,41,41,32,40,97,110,100,32,40,61,32,63,97,32,98,41,32,40,61,32,63,98,32,99,41,41,41,41,10,40,100,101,102,105,110,101,32,40,119,105,110,32,63,97,41,32,40,97,110,100,32,40,109,111,118,101,32,63,97,32,63,98,41,32,40,110,111,116,32,40,119,105,110,32,63,98,41,41,41,41,10]
def libT:Nat→List UInt8
 | 0=>libT0
 | 1=>libT1
 | 2=>libT2
 | _=>libT3
def libOk (s:List UInt8):Bool:=match tokV s with
 | some T=>decide (T.length≤200) && T.all (fun t=>decide (t.length≤400)) && (match ppT T [] 0 [] with
  | some (rels,d)=>decide (d=0) && pgOk ⟨rels⟩ && decide (wtR (rels.map Rl.enc)≤60000) && rels.all (fun r=>decide (r.body.clsS.length≤3)) && decide (1≤rels.length)
  | none=>false)
 | none=>false
theorem libOk0:libOk libT0=true:=by kernel_rfl
theorem libOk1:libOk libT1=true:=by kernel_rfl
theorem libOk2:libOk libT2=true:=by kernel_rfl
theorem libOk3:libOk libT3=true:=by kernel_rfl
theorem libOk_all (k:Nat):libOk (libT k)=true:=match k with
 | 0=>libOk0
 | 1=>libOk1
 | 2=>libOk2
 | _+3=>libOk3
theorem libLen0:decide (libT0.length≤400)=true:=by kernel_rfl
theorem libLen1:decide (libT1.length≤400)=true:=by kernel_rfl
theorem libLen2:decide (libT2.length≤400)=true:=by kernel_rfl
theorem libLen3:decide (libT3.length≤400)=true:=by kernel_rfl
theorem libT_len (k:Nat):(libT k).length≤400:=match k with
 | 0=>of_decide_eq_true libLen0
 | 1=>of_decide_eq_true libLen1
 | 2=>of_decide_eq_true libLen2
 | _+3=>of_decide_eq_true libLen3
theorem lib_prog (k:Nat):∃T rels,tokV (libT k)=some T∧T.length≤200∧(∀t,t∈T→t.length≤400)∧ppT T [] 0 []=some (rels,0)∧pgOk ⟨rels⟩=true∧(Pg.mk rels).fine 2:=by
 have h:=libOk_all k
 unfold libOk at h
 cases hT:tokV (libT k) with
 | none=>rw [hT] at h;cases h
 | some T =>
  rw [hT] at h
  dsimp only at h
  rw [b_,b_] at h
  obtain ⟨⟨h1,h2⟩,h3⟩:=h
  cases hp:ppT T [] 0 [] with
  | none=>rw [hp] at h3;cases h3
  | some x =>
   obtain ⟨rels,d⟩:=x
   rw [hp] at h3
   dsimp only at h3
   simp only [b_,decide_eq_true_eq,a_] at h1 h2 h3
   obtain ⟨⟨⟨⟨d0,ok⟩,wt⟩,cls⟩,one⟩:=h3
   subst d0
   exact ⟨T,rels,rfl,h1,h2,hp,ok,⟨ok,by simpa only [Pg.enc_eq,wtL,D.wt,Nat.add_zero] using wt,cls,one,fun h=>absurd rfl h⟩⟩
theorem V.below_vars {n:Int}:∀v:V,v.vbelow n=true→∀x,x∈v.vars→x<n
 | .nil,_,x,hx=>by simp [V.vars] at hx
 | .sym _,_,x,hx=>by simp [V.vars] at hx
 | .num _,_,x,hx=>by simp [V.vars] at hx
 | .var i,h,x,hx=>by
  simp only [V.vbelow,b_,decide_eq_true_eq] at h
  simp [V.vars] at hx
  omega
 | .pair a b,h,x,hx=>by
  simp only [V.vbelow,b_] at h
  simp only [V.vars,List.mem_append] at hx
  rcases hx with hx | hx
  ·exact V.below_vars a h.1 x hx
  ·exact V.below_vars b h.2 x hx
theorem V.fine_low:∀v:V,v.fine=true→v.low=true
 | .nil,_=>rfl
 | .num _,_=>rfl
 | .var _,_=>rfl
 | .sym s,h=>by
  simp only [V.fine] at h
  unfold isName at h
  simp only [b_,decide_eq_true_eq] at h
  simp only [V.low,decide_eq_true_eq];omega
 | .pair a b,h=>by
  simp only [V.fine,b_] at h
  simp only [V.low,V.fine_low a h.1,V.fine_low b h.2,Bool.and_self]
theorem drawn_tm {n:Int} {v:V} (h:drawn 7 n v):tmOk v.tm=true∧wtL v.enc≤112∧∀x,x∈v.tm.vars→x<n:=by
 obtain ⟨h1,h2,h3⟩:=h
 refine ⟨?_,?_,fun x hx=>?_⟩
 ·rw [tmOk_V];unfold V.ok;rw [h1,decide_eq_true (by omega)];rfl
 ·have:=V.wt_low v (V.fine_low v h1);omega
 ·rw [V.vars_tm] at hx;exact V.below_vars v h3 x hx
theorem drawn_wts {n:Int}:∀vs:List V,(∀v,v∈vs→drawn 7 n v)→wtR (vs.map V.enc)≤113 * vs.length
 | [],_=>by simp [wtR]
 | v :: r,h=>by
  have h1:=drawn_wts r (fun x hx=>h x (by simp [hx]))
  have h2:=(drawn_tm (h v (by simp))).2.1
  simp only [c_,wtR,e_];omega
theorem Gl.drA_of {S:List (List UInt8×Int)} {n mode:Int} {k:Int} {nm:List UInt8} {vs:List V} (hf:(Gl.mk k nm (vs.map V.tm) []).form=true) (hv:∀v,v∈vs→drawn 7 n v) (hl:vs.length≤4) (hn:nm.length≤12) (h7:k≠7) (h8:k≠8) (h10:k≠10) (h9:k=9→(nm,(vs.length:Int))∈S):Gl.drA S n mode ⟨k,nm,vs.map V.tm,[]⟩:=by
 have hs:∀x,x∈(Gl.mk k nm (vs.map V.tm) []).subs→x=⟨k,nm,vs.map V.tm,[]⟩:=fun x hx=>by
  rw [Gl.subs_eq] at hx
  simpa [Gl.goals,Gl.subss] using hx
 have hw:=drawn_wts vs hv
 refine ⟨?_,?_,h7,h8,by rw [Gl.cnt_eq];simp [Gl.goals,Gl.cnts],?_,fun x hx hk=>?_,fun _ x hx=>?_⟩
 ·rw [Gl.shape_eq,hf]
  simp only [Gl.terms,Gl.goals,List.all_nil,Bool.and_true,l_,a_]
  rintro t ht
  obtain ⟨v,hm,rfl⟩:=f_.1 ht
  exact (drawn_tm (hv v hm)).1
 ·unfold Gl.varsLt
  rw [Gl.vars_eq,Tm.varss_eq]
  simp only [Gl.terms,Gl.goals,Gl.varss,List.append_nil,a_,d_,decide_eq_true_eq]
  rintro x ⟨t,ht,hx⟩
  obtain ⟨v,hm,rfl⟩:=f_.1 ht
  exact (drawn_tm (hv v hm)).2.2 x hx
 ·rw [Gl.enc_eq]
  simp only [Gl.name,Gl.terms,Gl.goals,i_,wtL,D.wt,wtR,enc_tms]
  omega
 ·have:=hs x hx
  subst this
  simp only [Gl.name,Gl.terms,j_]
  exact h9 hk
 ·have:=hs x hx
  subst this
  exact h10
theorem Gl.drA_not {S:List (List UInt8×Int)} {n:Int} {g:Gl} (hg:g.drA S n 2) (hk:g.kind=9) (h1:g.cnt=1) (hw:wtL g.enc≤900):Gl.drA S n 2 ⟨10,[],[],[g]⟩:=by
 obtain ⟨a1,a2,a3,a4,a5,a6,a7,a8⟩:=hg
 have hs:∀x,x∈(Gl.mk 10 [] [] [g]).subs→x=⟨10,[],[],[g]⟩∨x∈g.subs:=fun x hx=>by
  rw [Gl.subs_eq] at hx
  simpa [Gl.goals,Gl.subss] using hx
 refine ⟨?_,?_,by simp [Gl.kind],by simp [Gl.kind],by rw [Gl.cnt_eq];simp [Gl.goals,Gl.cnts,h1],?_,fun x hx h9=>?_,fun h=>absurd rfl h⟩
 ·rw [Gl.shape_eq,Gl.form_10 (x:=g) rfl rfl rfl rfl rfl]
  simp [Gl.terms,Gl.goals,hk,a1]
 ·unfold Gl.varsLt at a2 ⊢
  rw [Gl.vars_eq]
  simpa [Gl.terms,Gl.goals,Gl.varss,Tm.varss] using a2
 ·rw [Gl.enc_eq]
  simp only [Gl.name,Gl.terms,Gl.goals,c_,i_,wtL,D.wt,wtR,g_]
  omega
 ·rcases hs x hx with rfl | hx
  ·simp [Gl.kind] at h9
  ·exact a7 x hx h9
theorem Gl.drA_call {S:List (List UInt8×Int)} {n mode:Int} {nm:List UInt8} {vs:List V} (hn:isRel nm=true) (hv:∀v,v∈vs→drawn 7 n v) (hl:vs.length≤4) (h9:(nm,(vs.length:Int))∈S):Gl.drA S n mode ⟨9,nm,vs.map V.tm,[]⟩∧(Gl.mk 9 nm (vs.map V.tm) []).cnt=1∧wtL (Gl.mk 9 nm (vs.map V.tm) []).enc≤900:=by
 have hn12:nm.length≤12:=by
  unfold isRel isName at hn
  simp only [b_,decide_eq_true_eq] at hn
  omega
 have hw:=drawn_wts vs hv
 refine ⟨Gl.drA_of ?_ hv hl hn12 (by decide) (by decide) (by decide) (fun _=>h9),by rw [Gl.cnt_eq];simp [Gl.goals,Gl.cnts],?_⟩
 ·unfold Gl.form
  simp only [Gl.kind,Gl.name,Gl.goals,Gl.terms,if_true,hn,g_,j_]
  simp;omega
 ·rw [Gl.enc_eq]
  simp only [Gl.name,Gl.terms,Gl.goals,i_,wtL,D.wt,wtR,enc_tms]
  omega
end Go.Abs
