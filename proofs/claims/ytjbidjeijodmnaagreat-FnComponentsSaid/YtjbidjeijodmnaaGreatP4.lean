import Derived.Test.YtjbidjeijodmnaaGreatP2
set_option linter.unusedVariables false
set_option linter.unusedSimpArgs false
namespace Go.Abs
def Pg.callNames (g:Gl):List (List UInt8):=(g.subs.filter fun x=>decide (x.kind=9)).map Gl.name
def Pg.rowI (p:Pg) (g:Gl):List Int:=ascOf ((Pg.callNames g).map p.find)
theorem Gl.calls_mem:∀(g:Gl),g.shape=true→∀n,n∈Pg.callNames g↔n∈g.callsS false++g.callsS true:=by
 intro g
 induction g using Gl.ind' with
 | h t ih =>
  intro hs n
  have hs':=hs
  rw [Gl.shape_eq] at hs'
  simp only [Bool.and_eq_true,List.all_eq_true] at hs'
  have hgs:=hs'.2
  have hfm:=Gl.form_inv hs'.1.1
  have hsub:∀m,m∈(((Gl.subss t.goals).filter fun x=>decide (x.kind=9)).map Gl.name)↔∃x,x∈t.goals∧m∈Pg.callNames x:=by
   intro m
   rw [Gl.subss_eq]
   simp only [List.mem_map,List.mem_filter,List.mem_flatMap,Pg.callNames]
   constructor
   ·rintro ⟨a,⟨⟨x,hx,ha⟩,hk⟩,rfl⟩;exact ⟨x,hx,a,⟨ha,hk⟩,rfl⟩
   ·rintro ⟨x,hx,a,⟨ha,hk⟩,rfl⟩;exact ⟨a,⟨⟨x,hx,ha⟩,hk⟩,rfl⟩
  have hss:∀(b:Bool) m,m∈Gl.callsSs b t.goals↔∃x,x∈t.goals∧m∈x.callsS b:=by
   intro b
   generalize t.goals=l
   intro m
   induction l with
   | nil=>simp [Gl.callsSs]
   | cons y r ihr=>simp [Gl.callsSs,ihr]
  rw [Gl.callsS_eq,Gl.callsS_eq]
  unfold Pg.callNames
  rw [Gl.subs_eq]
  by_cases h10:t.kind=10
  ·obtain ⟨x,hx⟩:∃x,t.goals=[x]∧x.kind=9:=by
    rcases hfm with h | h | h | h
    ·omega
    ·omega
    ·omega
    ·obtain ⟨_,_,_,h4,h5⟩:=h
     match he:t.goals,h4 with
     | [x],_=>exact ⟨x,rfl,by rw [he] at h5;simpa [firstCall] using h5⟩
     | [],h4=>simp at h4
     | x :: y :: r,h4=>simp at h4;omega
   obtain ⟨hx,hxk⟩:=hx
   have hx0:x.goals=[]:=by
    have:=hgs x (by rw [hx];simp)
    rw [Gl.shape_eq] at this
    simp only [Bool.and_eq_true] at this
    have hfx:=Gl.form_inv this.1.1
    rcases hfx with h | h | h | h
    ·exact List.length_eq_zero_iff.1 (by omega)
    ·omega
    ·omega
    ·omega
   have h9:¬t.kind=9:=by omega
   simp only [h10,if_true,hx,List.take_succ_cons,List.take_zero,List.map_cons,List.map_nil,Gl.subss_eq,List.flatMap_cons,List.flatMap_nil,List.append_nil]
   rw [Gl.subs_eq,hx0]
   simp [Gl.subss,h10,hxk]
  ·have hmem:∀m,(m∈((t :: Gl.subss t.goals).filter fun x=>decide (x.kind=9)).map Gl.name)↔(t.kind=9∧m=t.name)∨∃x,x∈t.goals∧m∈Pg.callNames x:=by
    intro m
    rw [List.filter_cons]
    by_cases h9:t.kind=9
    ·simp only [h9,decide_true,if_true,List.map_cons,List.mem_cons,hsub,true_and]
    ·simp only [h9,decide_false,Bool.false_eq_true,if_false,hsub,false_and,false_or]
   rw [hmem]
   simp only [if_neg h10,List.mem_append,hss]
   have e:(∃x,x∈t.goals∧n∈Pg.callNames x)↔(∃x,x∈t.goals∧n∈x.callsS false)∨∃x,x∈t.goals∧n∈x.callsS true:=by
    constructor
    ·rintro ⟨x,hx,hn⟩
     rcases List.mem_append.1 ((ih x hx (hgs x hx) n).1 hn) with h | h
     ·exact .inl ⟨x,hx,h⟩
     ·exact .inr ⟨x,hx,h⟩
    ·rintro (⟨x,hx,h⟩ | ⟨x,hx,h⟩)
     ·exact ⟨x,hx,(ih x hx (hgs x hx) n).2 (List.mem_append.2 (.inl h))⟩
     ·exact ⟨x,hx,(ih x hx (hgs x hx) n).2 (List.mem_append.2 (.inr h))⟩
   rw [e]
   by_cases h9:t.kind=9
   ·simp [h9]
    constructor
    ·rintro (h | h | h)
     ·exact .inl (.inl h)
     ·exact .inl (.inr h)
     ·exact .inr h
    ·rintro ((h | h) | h)
     ·exact .inl h
     ·exact .inr (.inl h)
     ·exact .inr (.inr h)
   ·simp [h9]
end Go.Abs
set_option linter.unusedVariables false
set_option linter.unusedSimpArgs false
namespace Go.Abs
end Go.Abs
set_option linter.unusedVariables false
set_option linter.unusedSimpArgs false
namespace Go.Abs
def Rl.edges (r:Rl):List (List UInt8×Int):=((r.body.callsI false false).map fun n=>(n,(0:Int)))++((r.body.callsI true false).map fun n=>(n,(1:Int)))
def Pg.sat (p:Pg) (s:List Int) (i:Nat) (e:List UInt8×Int):Prop:=s.getD (p.find e.1).toNat 0+e.2≤s.getD i 0
def Pg.Sol (p:Pg) (s:List Int):Prop:=s.length=p.rels.length∧(∀i,i<s.length→0≤s.getD i 0)∧∀i r,p.rels[i]? = some r→∀e,e∈r.edges→p.sat s i e
def Pg.Low (p:Pg) (n:List Int):Prop:=∀s,p.Sol s→∀i:Nat,n.getD i 0≤s.getD i 0
def Pg.Least (p:Pg) (s:List Int):Prop:=p.Sol s∧p.Low s
theorem Pg.least_one {p:Pg} {s t:List Int} (hs:p.Least s) (ht:p.Least t):s=t:=by
 have hl:s.length=t.length:=by rw [hs.1.1,ht.1.1]
 apply List.ext_getElem hl
 intro i h1 h2
 have a:=hs.2 t ht.1 i
 have b:=ht.2 s hs.1 i
 simp only [List.getD_eq_getElem?_getD,List.getElem?_eq_getElem h1,List.getElem?_eq_getElem h2,Option.getD_some] at a b
 omega
def Pg.StV (p:Pg) (B:Bool) (V:List Int):Prop:=(∀s,p.Least s→B=true∧V=s)∧((¬∃s,p.Sol s)→B=false∧V=[])∧V.length≤p.rels.length
theorem count_self (x:Int):∀l:List Int,x∈l→l.countP (fun y=>decide (y<x))+1≤l.length
 | [],h=>by simp at h
 | y :: r,h=>by
  have hle:=List.countP_le_length (p:=fun y=>decide (y<x)) (l:=r)
  rcases List.mem_cons.1 h with rfl | h
  ·rw [List.countP_cons];simp;omega
  ·have:=count_self x r h
   rw [List.countP_cons,List.length_cons]
   split<;>omega
theorem count_mono {a b:Int} (h:a≤b):∀l:List Int,l.countP (fun y=>decide (y<a))≤l.countP (fun y=>decide (y<b))
 | []=>by simp
 | y :: r=>by
  have:=count_mono h r
  rw [List.countP_cons,List.countP_cons]
  by_cases h1:y<a
  ·have h2:y<b:=by omega
   simp [h1,h2];omega
  ·simp [h1];omega
theorem count_strict {a b:Int} (h:a<b):∀l:List Int,a∈l→l.countP (fun y=>decide (y<a))+1≤l.countP (fun y=>decide (y<b))
 | [],hm=>by simp at hm
 | y :: r,hm=>by
  rw [List.countP_cons,List.countP_cons]
  rcases List.mem_cons.1 hm with rfl | hm
  ·have:=count_mono (Int.le_of_lt h) r
   simp [h];omega
  ·have:=count_strict h r hm
   by_cases h1:y<a
   ·have h2:y<b:=by omega
    simp [h1,h2];omega
   ·simp [h1];omega
theorem getD_mem0 {l:List Int} {i:Nat} (h:i<l.length):l.getD i 0∈l:=by
 rw [List.getD_eq_getElem?_getD,List.getElem?_eq_getElem h];exact List.getElem_mem h
theorem Pg.sol_low {p:Pg} {s:List Int} (h:p.Sol s) (hc:∀(i:Nat) (r:Rl),p.rels[i]? = some r→∀e:List UInt8×Int,e∈r.edges→(p.find e.1).toNat<p.rels.length∧(e.2=0∨e.2=1)) :
  ∃t,p.Sol t∧∀i:Nat,i<p.rels.length→t.getD i 0+1≤p.rels.length:=by
 obtain ⟨h1,h2,h3⟩:=h
 have hg:∀i,i<s.length→(s.map fun x=>(s.countP (fun y=>decide (y<x)):Int)).getD i 0=(s.countP (fun y=>decide (y<s.getD i 0)):Int):=fun i hi=>by
  simp only [List.getD_eq_getElem?_getD,List.getElem?_map,List.getElem?_eq_getElem hi,Option.map_some,Option.getD_some]
 refine ⟨s.map fun x=>(s.countP (fun y=>decide (y<x)):Int),⟨by rw [List.length_map];exact h1,fun i hi=>?_,fun i r hr e he=>?_⟩,fun i hi=>?_⟩
 ·rw [List.length_map] at hi;rw [hg i hi];omega
 ·obtain ⟨hj,hw⟩:=hc i r hr e he
  have hsat:=h3 i r hr e he
  unfold Pg.sat at hsat ⊢
  have hi:i<s.length:=by rw [h1];exact (List.getElem?_eq_some_iff.1 hr).1
  rw [←h1] at hj
  rw [hg _ hj,hg i hi]
  rcases hw with hw | hw
  ·rw [hw] at hsat ⊢
   have:=count_mono (l:=s) (a:=s.getD (p.find e.1).toNat 0) (b:=s.getD i 0) (by omega)
   omega
  ·rw [hw] at hsat ⊢
   have:=count_strict (l:=s) (a:=s.getD (p.find e.1).toNat 0) (b:=s.getD i 0) (by omega) (getD_mem0 hj)
   omega
 ·rw [←h1] at hi ⊢
  rw [hg i hi]
  have:=count_self _ s (getD_mem0 hi)
  omega
theorem Pg.no_sol {p:Pg} (hc:∀(i:Nat) (r:Rl),p.rels[i]? = some r→∀e:List UInt8×Int,e∈r.edges→(p.find e.1).toNat<p.rels.length∧(e.2=0∨e.2=1)) {n:List Int} (hl:p.Low n) {i:Nat} (hi:i<p.rels.length) (hb:(p.rels.length:Int)≤n.getD i 0):¬∃s,p.Sol s:=by
 rintro ⟨s,hs⟩
 obtain ⟨t,h1,h2⟩:=Pg.sol_low hs hc
 have:=hl t h1 i
 have:=h2 i hi
 omega
theorem getD_set {l:List Int} {i:Nat} {x:Int} (j:Nat) (hi:i<l.length):(l.set i x).getD j 0=if j=i then x else l.getD j 0:=by
 simp only [List.getD_eq_getElem?_getD]
 by_cases h:j=i
 ·subst h;rw [List.getElem?_set_self hi,if_pos rfl];rfl
 ·rw [List.getElem?_set_ne (fun e=>h e.symm),if_neg h]
theorem Pg.Low.raise {p:Pg} {n:List Int} (h:p.Low n) {i:Nat} {r:Rl} (hr:p.rels[i]? = some r) {e:List UInt8×Int} (he:e∈r.edges) (hi:i<n.length):p.Low (n.set i (n.getD (p.find e.1).toNat 0+e.2)):=by
 intro s hs j
 rw [getD_set j hi]
 split
 ·rename_i hj
  subst hj
  have h1:=hs.2.2 j r hr e he
  have h2:=h s hs (p.find e.1).toNat
  unfold Pg.sat at h1
  omega
 ·exact h s hs j
theorem sum_set:∀(l:List Int) (i:Nat) (x:Int),i<l.length→(l.set i x).sum=l.sum - l.getD i 0+x
 | [],i,x,h=>by simp at h
 | y :: r,0,x,h=>by simp;omega
 | y :: r,i+1,x,h=>by
  have:=sum_set r i x (by simpa using h)
  simp only [List.set_cons_succ,List.sum_cons,this]
  simp only [List.getD_eq_getElem?_getD,List.getElem?_cons_succ];omega
theorem sum_leI {b:Int}:∀l:List Int,(∀i,i<l.length→l.getD i 0≤b)→l.sum≤l.length * b
 | [],h=>by simp
 | y :: r,h=>by
  have h1:=sum_leI r (fun i hi=>by have:=h (i+1) (by simp;omega);simpa [List.getD_eq_getElem?_getD] using this)
  have h2:=h 0 (by simp)
  simp only [List.getD_eq_getElem?_getD,List.getElem?_cons_zero,Option.getD_some] at h2
  simp only [List.sum_cons,List.length_cons]
  rw [Int.natCast_succ,Int.add_mul];omega
def Pg.relax (p:Pg) (n:List Int) (i:Nat) (e:List UInt8×Int):List Int:=if n.getD i 0<n.getD (p.find e.1).toNat 0+e.2 then n.set i (n.getD (p.find e.1).toNat 0+e.2) else n
structure Pg.Mid (p:Pg) (T:Int) (n0:List Int) (i:Nat) (C:Nat) (all rem:List (List UInt8×Int)) (n:List Int) (ch:Bool):Prop where
 len:n.length=p.rels.length
 low:p.Low n
 oth:∀j,j<n.length→0≤n.getD j 0∧(j≠i→n.getD j 0≤T)
 own:n.getD i 0+rem.length≤T+C+1
 same:ch=false→n=n0∧∀e,e∈all→e∈rem∨p.sat n0 i e
 grew:ch=true→n0.sum<n.sum
theorem Pg.Mid.step {p:Pg} {T:Int} {n0:List Int} {i C:Nat} {r:Rl} {rem:List (List UInt8×Int)} {n:List Int} {ch:Bool} {e:List UInt8×Int} (hT:0≤T) (h:p.Mid T n0 i C r.edges (e :: rem) n ch) (hr:p.rels[i]? = some r) (he:e∈r.edges) (hj:(p.find e.1).toNat<p.rels.length) (hw:e.2=0∨e.2=1) (hC:rem.length+1≤C)
  (hge:ch=true→n0.sum<n.sum):p.Mid T n0 i C r.edges rem (p.relax n i e) (ch || decide (n.getD i 0<n.getD (p.find e.1).toNat 0+e.2)):=by
 have hi:i<n.length:=by rw [h.len];exact (List.getElem?_eq_some_iff.1 hr).1
 rw [←h.len] at hj
 have ho:=h.own
 simp only [List.length_cons] at ho
 have hoj:=h.oth _ hj
 have hoi:=h.oth _ hi
 unfold Pg.relax
 by_cases hb:n.getD i 0<n.getD (p.find e.1).toNat 0+e.2
 ·rw [if_pos hb,decide_eq_true hb,Bool.or_true]
  have hx:n.getD (p.find e.1).toNat 0+e.2+rem.length≤T+C+1:=by
   by_cases hij:(p.find e.1).toNat=i
   ·rw [hij] at hb ⊢;omega
   ·have:=hoj.2 hij;omega
  generalize hX:n.getD (p.find e.1).toNat 0+e.2=X at *
  refine ⟨by rw [List.length_set];exact h.len,by rw [←hX];exact h.low.raise hr he hi,fun j hjl=>?_,?_,fun hc=>by simp at hc,fun _=>?_⟩
  ·rw [List.length_set] at hjl
   rw [getD_set j hi]
   have:=h.oth j hjl
   split
   ·rename_i hji;exact ⟨by omega,fun hne=>absurd hji hne⟩
   ·exact this
  ·rw [getD_set i hi,if_pos rfl];exact hx
  ·have:=sum_set n i X hi
   cases ch with
   | false=>have:=(h.same rfl).1;subst this;omega
   | true=>have:=hge rfl;omega
 ·rw [if_neg hb,decide_eq_false hb,Bool.or_false]
  refine ⟨h.len,h.low,h.oth,by omega,fun hc=>?_,h.grew⟩
  obtain ⟨k1,k2⟩:=h.same hc
  refine ⟨k1,fun e' he'=>?_⟩
  rcases k2 e' he' with hm | hm
  ·rcases List.mem_cons.1 hm with rfl | hm
   ·right
    unfold Pg.sat
    rw [←k1];omega
   ·exact .inl hm
  ·exact .inr hm
theorem Pg.edges_ok {p:Pg} (h:pgOk p=true):∀(i:Nat) (r:Rl),p.rels[i]? = some r→∀e:List UInt8×Int,e∈r.edges→((0:Int)≤p.find e.1∧(p.find e.1).toNat<p.rels.length)∧(e.2=0∨e.2=1):=by
 intro i r hr e he
 unfold pgOk at h
 simp only [Bool.and_eq_true] at h
 obtain ⟨k,hk⟩:=okL_mem h.2 r (List.mem_of_getElem? hr)
 unfold Pg.relOk at hk
 simp only [Bool.and_eq_true] at hk
 have hs:r.body.shape=true:=hk.1.1.2
 have hc:p.callsFit r.body=true:=hk.2
 have hn:e.1∈Pg.callNames r.body∧(e.2=0∨e.2=1):=by
  unfold Rl.edges at he
  rw [Gl.calls_same r.body false hs,Gl.calls_same r.body true hs] at he
  rw [Gl.calls_mem r.body hs]
  rcases List.mem_append.1 he with h | h
  ·obtain ⟨n,hn,rfl⟩:=List.mem_map.1 h;exact ⟨List.mem_append.2 (.inl hn),.inl rfl⟩
  ·obtain ⟨n,hn,rfl⟩:=List.mem_map.1 h;exact ⟨List.mem_append.2 (.inr hn),.inr rfl⟩
 refine ⟨?_,hn.2⟩
 unfold Pg.callNames at hn
 obtain ⟨x,hx,hxn⟩:=List.mem_map.1 hn.1
 obtain ⟨hx1,hx2⟩:=List.mem_filter.1 hx
 unfold Pg.callsFit at hc
 simp only [List.all_eq_true] at hc
 have hf:=hc x hx1
 have h9:x.kind=9:=by simpa using hx2
 unfold Pg.fitC at hf
 rw [hxn] at hf
 simp only [h9,decide_true,Bool.not_true,Bool.false_or] at hf
 split at hf
 ·rename_i r' hr'
  simp only [Bool.and_eq_true,decide_eq_true_eq] at hf
  exact ⟨hf.1,(List.getElem?_eq_some_iff.1 hr').1⟩
 ·cases hf
theorem Pg.edges_len {p:Pg} (h:pgOk p=true) {r:Rl} (hr:r∈p.rels):r.edges.length≤120∧p.rels.length≤8:=by
 unfold pgOk at h
 simp only [Bool.and_eq_true,decide_eq_true_eq] at h
 obtain ⟨k,hk⟩:=okL_mem h.2 r hr
 unfold Pg.relOk at hk
 simp only [Bool.and_eq_true,decide_eq_true_eq] at hk
 have hc:r.body.cnt≤60:=hk.1.1.1.2
 have h1:=Gl.callsI_len r.body false false
 have h2:=Gl.callsI_len r.body true false
 unfold Rl.edges
 rw [List.length_append,List.length_map,List.length_map]
 exact ⟨by omega,h.1⟩
end Go.Abs
