import Derived.Test.YthilkmjkgpdngaaGreatA5
set_option linter.unusedVariables false
set_option linter.unusedSimpArgs false
namespace Go.Abs
open Go
section
variable {α:Type}
structure Wk (lt:α→α→Bool):Prop where
 asym:∀a b,lt a b=true→lt b a=false
 tr:∀a b c,lt b a=false→lt c b=false→lt c a=false
def swp (i j:Nat) (f:Nat→α):Nat→α:=fun x=>if x=i then f j else if x=j then f i else f x
def leq (lt:α→α→Bool) (a b:α):Prop:=lt b a=false
def srt (lt:α→α→Bool) (f:Nat→α) (a b:Nat):Prop:=∀i j,a≤i→i<j→j<b→leq lt (f i) (f j)
structure Mv (n a b:Nat) (f g:Nat→α):Prop where
 out:∀i,i<a∨b≤i→g i=f i
 mem:∀i,a≤i→i<b→∃j,a≤j∧j<b∧g i=f j
 perm:((List.range n).map g).Perm ((List.range n).map f)
theorem Mv.refl (n a b:Nat) (f:Nat→α):Mv n a b f f:=⟨fun _ _=>rfl,fun i h1 h2=>⟨i,h1,h2,rfl⟩,.refl _⟩
theorem Mv.trans {n a b:Nat} {f g h:Nat→α} (h1:Mv n a b f g) (h2:Mv n a b g h):Mv n a b f h:=
 ⟨fun i hi=>(h2.out i hi).trans (h1.out i hi),fun i hi hj=>by
  obtain ⟨j,k1,k2,k3⟩:=h2.mem i hi hj
  obtain ⟨j',k4,k5,k6⟩:=h1.mem j k1 k2
  exact ⟨j',k4,k5,k3.trans k6⟩,h2.perm.trans h1.perm⟩
theorem Mv.mono {n a b a' b':Nat} {f g:Nat→α} (h:Mv n a b f g) (ha:a'≤a) (hb:b≤b'):Mv n a' b' f g:=
 ⟨fun i hi=>h.out i (by omega),fun i hi hj=>by
  by_cases hc:a≤i∧i<b
  ·obtain ⟨j,k1,k2,k3⟩:=h.mem i hc.1 hc.2
   exact ⟨j,by omega,by omega,k3⟩
  ·exact ⟨i,hi,hj,h.out i (by omega)⟩,h.perm⟩
theorem map_swp (n i j:Nat) (f:Nat→α) (hi:i<n) (hj:j<n):(List.range n).map (swp i j f)=(((List.range n).map f).set i (f j)).set j (f i):=by
 apply List.ext_getElem?
 intro x
 simp only [List.getElem?_map,List.getElem?_set,List.length_map,List.length_range,List.length_set,List.getElem?_range]
 by_cases hx:x<n
 ·rw [List.getElem?_range hx]
  unfold swp
  by_cases e1:x=j
  ·subst e1
   by_cases e2:x=i
   ·subst e2;simp [hx]
   ·simp [hx,e2]
  ·by_cases e2:x=i
   ·subst e2
    have:¬j=x:=fun e=>e1 e.symm
    simp [hx,this]
   ·have h1:¬j=x:=fun e=>e1 e.symm
    have h2:¬i=x:=fun e=>e2 e.symm
    simp [hx,e1,e2,h1,h2]
 ·rw [List.getElem?_eq_none (by simpa using hx)]
  have h1:¬j=x:=by omega
  have h2:¬i=x:=by omega
  simp [h1,h2]
theorem Mv.swp {n a b i j:Nat} (f:Nat→α) (hb:b≤n) (h1:a≤i) (h2:i<b) (h3:a≤j) (h4:j<b):Mv n a b f (swp i j f):=by
 refine ⟨fun x hx=>?_,fun x hx hx'=>?_,?_⟩
 ·unfold Abs.swp
  rw [if_neg (by omega),if_neg (by omega)]
 ·unfold Abs.swp
  split
  ·exact ⟨j,h3,h4,rfl⟩
  ·split
   ·exact ⟨i,h1,h2,rfl⟩
   ·exact ⟨x,hx,hx',rfl⟩
 ·rw [map_swp n i j f (by omega) (by omega)]
  have h:=List.set_set_perm (as:=(List.range n).map f) (i:=i) (j:=j) (by simp;omega) (by simp;omega)
  simpa using h
variable {lt:α→α→Bool}
theorem leq_refl (hw:Wk lt) (a:α):leq lt a a:=by
 cases h:lt a a with
 | false=>exact h
 | true=>have:=hw.asym a a h;rw [h] at this;cases this
theorem srt_sub {f:Nat→α} {a b c d:Nat} (h:srt lt f a b) (h1:a≤c) (h2:d≤b):srt lt f c d:=fun i j k1 k2 k3=>h i j (by omega) k2 (by omega)
def rest (lt:α→α→Bool) (f:Nat→α) (k n t:Nat):Prop:=∀i,t≤i→i * k<n→srt lt f (i * k) (min (i * k+k) n)
theorem two_mul_blk (t k:Nat):2 * t * k=t * (2 * k):=by rw [Nat.mul_comm 2 t,Nat.mul_assoc]
theorem two_mul_blk1 (t k:Nat):(2 * t+1) * k=t * (2 * k)+k:=by rw [Nat.add_mul,two_mul_blk,Nat.one_mul]
theorem rest_two {f:Nat→α} {k n t:Nat} (h:rest lt f k n (2 * t)) (hn:t * (2 * k)+k<n):srt lt f (t * (2 * k)) (t * (2 * k)+k)∧srt lt f (t * (2 * k)+k) (min (t * (2 * k)+2 * k) n):=by
 have h1:=h (2 * t) (Nat.le_refl _) (by rw [two_mul_blk];omega)
 have h2:=h (2 * t+1) (by omega) (by rw [two_mul_blk1];omega)
 rw [two_mul_blk] at h1
 rw [two_mul_blk1] at h2
 exact ⟨srt_sub h1 (Nat.le_refl _) (by omega),srt_sub h2 (Nat.le_refl _) (by omega)⟩
theorem leq_lt {a b d:α} (hw:Wk lt) (h1:lt b a=false) (h2:lt b d=true):lt a d=true:=by
 cases h:lt a d with
 | true=>rfl
 | false=>have:=hw.tr _ _ _ h h1;rw [h2] at this;cases this
theorem lt_leq {a b d:α} (hw:Wk lt) (h1:lt a b=true) (h2:lt d b=false):lt a d=true:=by
 cases h:lt a d with
 | true=>rfl
 | false=>have:=hw.tr _ _ _ h2 h;rw [h1] at this;cases this
theorem leq_of {f:Nat→α} {a b i j:Nat} (hw:Wk lt) (h:srt lt f a b) (h1:a≤i) (h2:i≤j) (h3:j<b):lt (f j) (f i)=false:=by
 rcases Nat.lt_or_ge i j with e | e
 ·exact h i j h1 e h3
 ·obtain rfl:i=j:=by omega
  exact leq_refl hw _
structure Cut (lt:α→α→Bool) (f:Nat→α) (p s0 r0 s r:Nat):Prop where
 lo:s0≤s
 le:s≤r
 hi:r≤r0
 bel:∀x,s0≤x→x<s→lt (f (p - x)) (f x)=false
 abv:∀x,r≤x→x<r0→lt (f (p - x)) (f x)=true
theorem Cut.dn {f:Nat→α} {p s0 r0 s r a c b y:Nat} (hw:Wk lt) (h1:srt lt f a c) (h2:srt lt f c b) (hr:∀x,s0≤x→x<r0→a≤x∧x<c∧c≤p - x∧p - x<b) (h:Cut lt f p s0 r0 s r) (hsy:s≤y) (hyr:y<r)
  (hy:lt (f (p - y)) (f y)=true):Cut lt f p s0 r0 s y:=by
 have hlo:=h.lo
 have hhi:=h.hi
 refine ⟨h.lo,hsy,by omega,h.bel,fun x hx hxr=>?_⟩
 have k1:=hr x (by omega) hxr
 have k2:=hr y (by omega) (by omega)
 have e1:=leq_of hw h1 k2.1 hx k1.2.1
 have e2:=leq_of hw h2 k1.2.2.1 (show p - x≤p - y by omega) k2.2.2.2
 exact lt_leq hw (leq_lt hw e2 hy) e1
end
end Go.Abs
