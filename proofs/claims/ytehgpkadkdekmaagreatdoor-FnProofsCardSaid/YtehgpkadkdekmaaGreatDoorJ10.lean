import Derived.Test.YtehgpkadkdekmaaGreatDoorJ9
open Nat renaming le_refl->a_,mul_le_mul_right->b_
set_option linter.unusedVariables false
set_option linter.unusedSimpArgs false
namespace Go.Abs
open Go
section
variable {α:Type}
structure Wk (lt:α->α->Bool):Prop where
 asym:∀a b,lt a b=true->lt b a=false
 tr:∀a b c,lt b a=false->lt c b=false->lt c a=false
def swp (i j:Nat) (f:Nat->α):Nat->α:=fun x=>if x=i then f j else if x=j then f i else f x
def leq (lt:α->α->Bool) (a b:α):Prop:=lt b a=false
def srt (lt:α->α->Bool) (f:Nat->α) (a b:Nat):Prop:=∀i j,a<=i->i<j->j<b->leq lt (f i) (f j)
structure Mv (n a b:Nat) (f g:Nat->α):Prop where
 out:∀i,i<a\/b<=i->g i=f i
 mem:∀i,a<=i->i<b->∃j,a<=j/\j<b/\g i=f j
 perm:((List.range n).map g).Perm ((List.range n).map f)
theorem Mv.refl (n a b:Nat) (f:Nat->α):Mv n a b f f:=⟨fun _ _=>rfl,fun i h1 h2=>⟨i,h1,h2,rfl⟩,.refl _⟩
theorem Mv.trans {n a b:Nat} {f g h:Nat->α} (h1:Mv n a b f g) (h2:Mv n a b g h):Mv n a b f h:=
 ⟨fun i hi=>(h2.out i hi).trans (h1.out i hi),fun i hi hj=>by
  obtain⟨j,k1,k2,k3⟩:=h2.mem i hi hj;obtain⟨j',k4,k5,k6⟩:=h1.mem j k1 k2;exact⟨j',k4,k5,k3.trans k6⟩,h2.perm.trans h1.perm⟩
theorem Mv.mono {n a b a' b':Nat} {f g:Nat->α} (h:Mv n a b f g) (ha:a'<=a) (hb:b<=b'):Mv n a' b' f g:=
 ⟨fun i hi=>h.out i (by omega),fun i hi hj=>by
  by_cases hc:a<=i/\i<b
  ·obtain⟨j,k1,k2,k3⟩:=h.mem i hc.1 hc.2
   exact⟨j,by omega,by omega,k3⟩
  ·exact⟨i,hi,hj,h.out i (by omega)⟩,h.perm⟩
theorem bs8 (n i j:Nat) (f:Nat->α) (hi:i<n) (hj:j<n):(List.range n).map (swp i j f)=(((List.range n).map f).set i (f j)).set j (f i):=by
 apply List.ext_getElem?;intro x;simp only[List.getElem?_map,List.getElem?_set,List.length_map,List.length_range,List.length_set,List.getElem?_range];by_cases hx:x<n
 ·rw[List.getElem?_range hx]
  unfold swp;by_cases e1:x=j
  ·subst e1
   by_cases e2:x=i
   ·subst e2;simp[hx]
   ·simp[hx,e2]
  ·by_cases e2:x=i
   ·subst e2
    have:¬j=x:=fun e=>e1 e.symm;simp[hx,this]
   ·have h1:¬j=x:=fun e=>e1 e.symm
    have h2:¬i=x:=fun e=>e2 e.symm;simp[hx,e1,e2,h1,h2]
 ·rw[List.getElem?_eq_none (by simpa using hx)]
  have h1:¬j=x:=by omega
  have h2:¬i=x:=by omega
  simp[h1,h2]
theorem Mv.swp {n a b i j:Nat} (f:Nat->α) (hb:b<=n) (h1:a<=i) (h2:i<b) (h3:a<=j) (h4:j<b):Mv n a b f (swp i j f):=by
 refine⟨fun x hx=>?_,fun x hx hx'=>?_,?_⟩
 ·unfold Abs.swp
  rw[if_neg (by omega),if_neg (by omega)]
 ·unfold Abs.swp
  split
  ·exact⟨j,h3,h4,rfl⟩
  ·split
   ·exact⟨i,h1,h2,rfl⟩
   ·exact⟨x,hx,hx',rfl⟩
 ·rw[bs8 n i j f (by omega) (by omega)]
  have h:=List.set_set_perm (as:=(List.range n).map f) (i:=i) (j:=j) (by simp;omega) (by simp;omega);simpa using h
theorem Mv.srt_out {lt:α->α->Bool} {n a b c d:Nat} {f g:Nat->α} (h:Mv n a b f g) (hs:srt lt f c d) (hd:d<=a\/b<=c):srt lt g c d:=fun i j h1 h2 h3=>by
 rw[h.out i (by omega),h.out j (by omega)];exact hs i j h1 h2 h3
def srx (a b k:Nat) (f:Nat->α):Nat->α:=fun x=>if a<=x/\x<a+k then f (x - a+b) else if b<=x/\x<b+k then f (x - b+a) else f x
theorem bW6 (a b:Nat) (f:Nat->α):srx a b 0 f=f:=by
 funext x;unfold srx
 rw[if_neg (by omega),if_neg (by omega)]
theorem bW5 (a b k:Nat) (f:Nat->α) (h:a+k<b):swp (a+k) (b+k) (srx a b k f)=srx a b (k+1) f:=by
 funext x;unfold swp srx
 repeat' split
 all_goals first | rfl | exfalso;omega | congr 1;omega
theorem aY5 (n a b:Nat) (f:Nat->α):∀k,a+k<=b->b+k<=n->Mv n a (b+k) f (srx a b k f)
 | 0,_,_=>by rw[bW6];exact .refl _ _ _ _
 | k+1,h,hn=>by
  have ih:=aY5 n a b f k (by omega) (by omega);rw[<-bW5 a b k f (by omega)];exact(ih.mono (a_ _) (by omega)).trans (.swp _ (by omega) (by omega) (by omega) (by omega) (by omega))
def rot (a m b:Nat) (f:Nat->α):Nat->α:=fun x=>if a<=x/\x<a+(b - m) then f (x+(m - a)) else if a+(b - m)<=x/\x<b then f (x - (b - m)) else f x
theorem bX0 (m i j:Nat) (f:Nat->α) (h:j<i) (hm:i<=m) (hj:0<j):rot (m - (i - j)) m (m+j) (srx (m - i) m j f)=rot (m - i) m (m+j) f:=by
 funext x;unfold rot srx
 repeat' split
 all_goals first | rfl | exfalso;omega | congr 1;omega
theorem bW9 (m i j:Nat) (f:Nat->α) (h:i<j) (hm:i<=m) (hi:0<i):rot (m - i) m (m+(j - i)) (srx (m - i) (m+j - i) i f)=rot (m - i) m (m+j) f:=by
 funext x;unfold rot srx
 repeat' split
 all_goals first | rfl | exfalso;omega | congr 1;omega
theorem bX1 (m i:Nat) (f:Nat->α) (hm:i<=m):srx (m - i) m i f=rot (m - i) m (m+i) f:=by
 funext x;unfold rot srx
 repeat' split
 all_goals first | rfl | exfalso;omega | congr 1;omega
def ca6 (lt:α->α->Bool) (f:Nat->α) (a j i:Nat):Prop:=
 (∀x y,a<=x->x<y->y<=i->x≠j->y≠j->leq lt (f x) (f y))/\∀y,j<y->y<=i->leq lt (f j) (f y)
variable {lt:α->α->Bool}
theorem ca5 {f:Nat->α} {a i:Nat} (h:srt lt f a i):ca6 lt f a i i:=
 ⟨fun x y h1 h2 h3 h4 h5=>h x y h1 h2 (by omega),fun y h1 h2=>by omega⟩
theorem ba9 {f:Nat->α} {a j i:Nat} (hw:Wk lt) (h:ca6 lt f a j i) (haj:a<=j) (hji:j<=i) (hs:j=a\/lt (f j) (f (j - 1))=false):srt lt f a (i+1):=by
 intro x y h1 h2 h3;by_cases ey:y=j
 ·subst ey
  rcases hs with hs | hs
  ·omega
  ·by_cases ex:x=y - 1
   ·subst ex;exact hs
   ·exact hw.tr _ _ _ (h.1 x (y - 1) h1 (by omega) (by omega) (by omega) (by omega)) hs
 ·by_cases ex:x=j
  ·subst ex;exact h.2 y h2 (by omega)
  ·exact h.1 x y h1 h2 (by omega) ex ey
theorem ca4 {f:Nat->α} {a j i:Nat} (hw:Wk lt) (h:ca6 lt f a j i) (haj:a<j) (hji:j<=i) (hs:lt (f j) (f (j - 1))=true):ca6 lt (swp j (j - 1) f) a (j - 1) i:=by
 have hle:leq lt (f j) (f (j - 1)):=hw.asym _ _ hs;refine⟨fun x y h1 h2 h3 h4 h5=>?_,fun y h1 h2=>?_⟩
 ·unfold swp
  by_cases ex:x=j
  ·rw[if_pos ex,if_neg (by omega),if_neg (by omega)]
   exact h.1 (j - 1) y (by omega) (by omega) h3 (by omega) (by omega)
  ·rw[if_neg ex,if_neg h4]
   by_cases ey:y=j
   ·rw[if_pos ey]
    exact h.1 x (j - 1) h1 (by omega) (by omega) ex (by omega)
   ·rw[if_neg ey,if_neg h5]
    exact h.1 x y h1 h2 h3 ex ey
 ·unfold swp
  rw[if_neg (by omega),if_pos rfl];by_cases ey:y=j
  ·rw[if_pos ey];exact hle
  ·rw[if_neg ey,if_neg (by omega)]
   exact h.2 y (by omega) h2
def mvU (a k:Nat) (f:Nat->α):Nat->α:=fun x=>if x<a\/k<x then f x else if x=k then f a else f (x+1)
theorem bO3 (a:Nat) (f:Nat->α):mvU a a f=f:=by
 funext x;unfold mvU
 repeat' split
 all_goals first | rfl | exfalso;omega | congr 1;omega
theorem bY2 (a k:Nat) (f:Nat->α) (h:a<=k):swp k (k+1) (mvU a k f)=mvU a (k+1) f:=by
 funext x;unfold swp mvU
 repeat' split
 all_goals first | rfl | exfalso;omega | congr 1;omega
def mvD (m k:Nat) (f:Nat->α):Nat->α:=fun x=>if x<k\/m<x then f x else if x=k then f m else f (x - 1)
theorem bY5 (m:Nat) (f:Nat->α):mvD m m f=f:=by
 funext x;unfold mvD
 repeat' split
 all_goals first | rfl | exfalso;omega | congr 1;omega
theorem bY4 (m k:Nat) (f:Nat->α) (h:k<=m) (hk:0<k):swp k (k - 1) (mvD m k f)=mvD m (k - 1) f:=by
 funext x;unfold swp mvD
 repeat' split
 all_goals first | rfl | exfalso;omega | congr 1;omega
theorem bO2 {f:Nat->α} {a i b:Nat} (hw:Wk lt) (hs:srt lt f (a+1) b) (h0:a<i) (hi:i<=b) (h1:∀h,a+1<=h->h<i->lt (f h) (f a)=true) (h2:∀h,i<=h->h<b->lt (f h) (f a)=false):srt lt (mvU a (i - 1) f) a b:=by
 intro x y k1 k2 k3;unfold mvU;by_cases c1:i - 1<x
 ·rw[if_pos (by omega),if_pos (by omega)]
  exact hs x y (by omega) k2 k3
 ·rw[if_neg (by omega)]
  by_cases c2:x=i - 1
  ·rw[if_pos c2,if_pos (by omega)]
   exact h2 y (by omega) k3
  ·rw[if_neg c2]
   by_cases c3:i - 1<y
   ·rw[if_pos (by omega)]
    exact hs (x+1) y (by omega) (by omega) k3
   ·rw[if_neg (by omega)]
    by_cases c4:y=i - 1
    ·rw[if_pos c4]
     exact hw.asym _ _ (h1 (x+1) (by omega) (by omega))
    ·rw[if_neg c4]
     exact hs (x+1) (y+1) (by omega) (by omega) (by omega)
theorem bO4 {f:Nat->α} {a i m:Nat} (hw:Wk lt) (hs:srt lt f a m) (hi:i<=m) (ha:a<=i) (h1:∀h,a<=h->h<i->lt (f m) (f h)=false) (h2:∀h,i<=h->h<m->lt (f m) (f h)=true):srt lt (mvD m i f) a (m+1):=by
 intro x y k1 k2 k3;unfold mvD;by_cases c1:x<i
 ·rw[if_pos (by omega)]
  by_cases c2:y<i
  ·rw[if_pos (by omega)]
   exact hs x y k1 k2 (by omega)
  ·rw[if_neg (by omega)]
   by_cases c3:y=i
   ·rw[if_pos c3];exact h1 x k1 c1
   ·rw[if_neg c3];exact hs x (y - 1) k1 (by omega) (by omega)
 ·rw[if_neg (by omega),if_neg (show ¬(y<i\/m<y) by omega),if_neg (show ¬y=i by omega)]
  by_cases c3:x=i
  ·rw[if_pos c3]
   exact hw.asym _ _ (h2 (y - 1) (by omega) (by omega))
  ·rw[if_neg c3]
   exact hs (x - 1) (y - 1) (by omega) (by omega) (by omega)
theorem aj8 (hw:Wk lt) (a:α):leq lt a a:=by
 cases h:lt a a with
 | false=>exact h
 | true=>have:=hw.asym a a h;rw[h] at this;cases this
theorem aJ8 {f:Nat->α} {a m b s e mid:Nat} (hw:Wk lt) (h1:srt lt f a m) (h2:srt lt f m b) (has:a<=s) (hsm:s<=m) (hme:m<=e) (heb:e<=b) (hmid:mid=s+(e - m))
  (hA:s=a\/e=b\/leq lt (f (s - 1)) (f e)) (hB:s=m\/e=m\/lt (f (e - 1)) (f s)=true) :
  ∀x y,a<=x->x<mid->mid<=y->y<b->leq lt (rot s m e f x) (rot s m e f y):=by
 have cA:∀x y,a<=x->x<s->e<=y->y<b->leq lt (f x) (f y):=fun x y k1 k2 k3 k4=>by
  rcases hA with hA | hA | hA
  ·omega
  ·omega
  ·have e1:leq lt (f x) (f (s - 1)):=by
    by_cases ex:x=s - 1
    ·rw[ex];exact aj8 hw _
    ·exact h1 x (s - 1) k1 (by omega) (by omega)
   have e2:leq lt (f e) (f y):=by
    by_cases ey:e=y
    ·rw[ey];exact aj8 hw _
    ·exact h2 e y hme (by omega) k4
   exact hw.tr _ _ _ (hw.tr _ _ _ e1 hA) e2
 have cB:∀x y,m<=x->x<e->s<=y->y<m->leq lt (f x) (f y):=fun x y k1 k2 k3 k4=>by
  rcases hB with hB | hB | hB
  ·omega
  ·omega
  ·have e1:leq lt (f x) (f (e - 1)):=by
    by_cases ex:x=e - 1
    ·rw[ex];exact aj8 hw _
    ·exact h2 x (e - 1) k1 (by omega) (by omega)
   have e2:leq lt (f s) (f y):=by
    by_cases ey:s=y
    ·rw[ey];exact aj8 hw _
    ·exact h1 s y has (by omega) k4
   exact hw.tr _ _ _ (hw.tr _ _ _ e1 (hw.asym _ _ hB)) e2
 intro x y k1 k2 k3 k4;unfold rot;by_cases c1:x<s
 ·rw[if_neg (by omega),if_neg (by omega),if_neg (by omega)]
  by_cases c2:y<e
  ·rw[if_pos (by omega)]
   exact h1 x _ k1 (by omega) (by omega)
  ·rw[if_neg (by omega)]
   exact cA x y k1 c1 (by omega) k4
 ·rw[if_pos (by omega),if_neg (by omega)]
  by_cases c2:y<e
  ·rw[if_pos (by omega)]
   exact cB _ _ (by omega) (by omega) (by omega) (by omega)
  ·rw[if_neg (by omega)]
   exact h2 _ y (by omega) (by omega) k4
theorem bI9 {f:Nat->α} {a m b s e mid:Nat} (h1:srt lt f a m) (h2:srt lt f m b) (has:a<=s) (hsm:s<=m) (hme:m<=e) (heb:e<=b) (hmid:mid=s+(e - m)) :
  srt lt (rot s m e f) a s/\srt lt (rot s m e f) s mid/\srt lt (rot s m e f) mid e/\srt lt (rot s m e f) e b:=by
 refine⟨fun x y k1 k2 k3=>?_,fun x y k1 k2 k3=>?_,fun x y k1 k2 k3=>?_,fun x y k1 k2 k3=>?_⟩<;>unfold rot
 ·rw[if_neg (by omega),if_neg (by omega),if_neg (by omega),if_neg (by omega)]
  exact h1 x y k1 k2 (by omega)
 ·rw[if_pos (by omega),if_pos (by omega)]
  exact h2 _ _ (by omega) (by omega) (by omega)
 ·rw[if_neg (by omega),if_pos (by omega),if_neg (by omega),if_pos (by omega)]
  exact h1 _ _ (by omega) (by omega) (by omega)
 ·rw[if_neg (by omega),if_neg (by omega),if_neg (by omega),if_neg (by omega)]
  exact h2 _ _ (by omega) (by omega) (by omega)
theorem o8 {f g:Nat->α} {n a c b:Nat} (hx:∀x y,a<=x->x<c->c<=y->y<b->leq lt (f x) (f y)) {g1:Nat->α} (m1:Mv n a c f g1) (s1:srt lt g1 a c) (m2:Mv n c b g1 g) (s2:srt lt g c b):srt lt g a b:=by
 intro x y k1 k2 k3;by_cases h1:y<c
 ·rw[m2.out x (by omega),m2.out y (by omega)]
  exact s1 x y k1 k2 h1
 ·by_cases h2:c<=x
  ·exact s2 x y h2 k2 k3
  ·rw[m2.out x (by omega)]
   obtain⟨y',p1,p2,p3⟩:=m2.mem y (by omega) k3;obtain⟨x',q1,q2,q3⟩:=m1.mem x k1 (by omega);rw[p3,q3,m1.out y' (by omega)];exact hx x' y' q1 q2 p1 p2
def by3 (lt:α->α->Bool) (f:Nat->α) (k n c:Nat):Prop:=∀i,i * k<c->srt lt f (i * k) (min (i * k+k) n)
theorem p9 {f:Nat->α} {a b c d:Nat} (h:srt lt f a b) (h1:a<=c) (h2:d<=b):srt lt f c d:=fun i j k1 k2 k3=>h i j (by omega) k2 (by omega)
theorem aR6 (f:Nat->α) (a b:Nat) (h:b<=a+1):srt lt f a b:=fun i j k1 k2 k3=>by omega
theorem bK6 {k i t:Nat} (h:i<t):i * k+k<=t * k:=by
 have:=b_ k (Nat.succ_le_of_lt h);rw[Nat.succ_mul] at this;exact this
theorem bK5 (f:Nat->α) (k n:Nat):by3 lt f k n 0:=fun i hi=>by omega
theorem bK4 {f g:Nat->α} {k n t e:Nat} (hk:0<k) (h:by3 lt f k n (t * k)) (m:Mv n (t * k) e f g) (s:srt lt g (t * k) (min (t * k+k) n)):by3 lt g k n ((t+1) * k):=by
 intro i hi;have hit:i<t+1:=Nat.lt_of_mul_lt_mul_right hi;by_cases e:i=t
 ·subst e;exact s
 ·have hlt:i<t:=by omega
  have hle:=bK6 (k:=k) hlt;exact m.srt_out (h i (by omega)) (by omega)
def rest (lt:α->α->Bool) (f:Nat->α) (k n t:Nat):Prop:=∀i,t<=i->i * k<n->srt lt f (i * k) (min (i * k+k) n)
theorem rest_of {f:Nat->α} {k n:Nat} (h:by3 lt f k n n):rest lt f k n 0:=fun i _ hi=>h i hi
theorem bX2 {f g:Nat->α} {k n t e:Nat} (h:rest lt f k n t) {t' a:Nat} (ht:t<=t') (m:Mv n a e f g) (he:e<=t' * k):rest lt g k n t':=fun i hi hn=>by
 have:t' * k<=i * k:=b_ k hi;exact m.srt_out (h i (by omega) hn) (by omega)
theorem N7 (t k:Nat):2 * t * k=t * (2 * k):=by rw[Nat.mul_comm 2 t,Nat.mul_assoc]
theorem an7 (t k:Nat):(2 * t+1) * k=t * (2 * k)+k:=by rw[Nat.add_mul,N7,Nat.one_mul]
theorem aJ7 (t k:Nat):(2 * t+2) * k=t * (2 * k)+2 * k:=by rw[Nat.add_mul,N7]
theorem aZ7 {f:Nat->α} {k n t:Nat} (h:rest lt f k n (2 * t)) (hn:t * (2 * k)+k<n):srt lt f (t * (2 * k)) (t * (2 * k)+k)/\srt lt f (t * (2 * k)+k) (min (t * (2 * k)+2 * k) n):=by
 have h1:=h (2 * t) (a_ _) (by rw[N7];omega);have h2:=h (2 * t+1) (by omega) (by rw[an7];omega);rw[N7] at h1;rw[an7] at h2;exact⟨p9 h1 (a_ _) (by omega),p9 h2 (a_ _) (by omega)⟩
theorem bq6 {f:Nat->α} {k n t:Nat} (h:rest lt f k n (2 * t)) (hn:n<=t * (2 * k)+k):srt lt f (t * (2 * k)) n:=by
 by_cases c:t * (2 * k)<n
 ·have h1:=h (2 * t) (a_ _) (by rw[N7];exact c)
  rw[N7] at h1;exact p9 h1 (a_ _) (by omega)
 ·exact aR6 _ _ _ (by omega)
theorem aH8 {f g:Nat->α} {k n t:Nat} (hk:0<k) (h:by3 lt f k n (t * k)) (m:Mv n (t * k) n f g) (s:srt lt g (t * k) n) (hn:n<t * k+k):by3 lt g k n n:=by
 intro i hi;by_cases e:i<t
 ·have hle:=bK6 (k:=k) e
  exact m.srt_out (h i (by omega)) (by omega)
 ·have:t * k<=i * k:=b_ k (by omega)
  exact p9 s this (by omega)
theorem by2 {f:Nat->α} {k n:Nat} (h:by3 lt f k n n) (hk:n<=k):srt lt f 0 n:=by
 by_cases h0:n=0
 ·exact aR6 _ _ _ (by omega)
 ·have:=h 0 (by omega)
  rw[Nat.zero_mul,Nat.zero_add,Nat.min_eq_right hk] at this;exact this
theorem bK0 {a b d:α} (hw:Wk lt) (h1:lt b a=false) (h2:lt b d=true):lt a d=true:=by
 cases h:lt a d with
 | true=>rfl
 | false=>have:=hw.tr _ _ _ h h1;rw[h2] at this;cases this
theorem bJ9 {a b d:α} (hw:Wk lt) (h1:lt a b=true) (h2:lt d b=false):lt a d=true:=by
 cases h:lt a d with
 | true=>rfl
 | false=>have:=hw.tr _ _ _ h2 h;rw[h1] at this;cases this
theorem ao3 {f:Nat->α} {a b i j:Nat} (hw:Wk lt) (h:srt lt f a b) (h1:a<=i) (h2:i<=j) (h3:j<b):lt (f j) (f i)=false:=by
 rcases Nat.lt_or_ge i j with e | e
 ·exact h i j h1 e h3
 ·obtain rfl:i=j:=by omega
  exact aj8 hw _
theorem aF2 (a b:Nat) (f:Nat->α):rot a a b f=f:=by
 funext x;unfold rot
 repeat' split
 all_goals first | rfl | exfalso;omega | congr 1;omega
theorem bq3 (a b:Nat) (f:Nat->α):rot a b b f=f:=by
 funext x;unfold rot
 repeat' split
 all_goals first | rfl | exfalso;omega | congr 1;omega
theorem bY3 (n a b:Nat) (f:Nat->α):∀k,a<=k->k<b->b<=n->Mv n a b f (mvU a k f):=by
 intro k hk;induction k with
 | zero=>intro h1 h2;obtain rfl:a=0:=(by omega);rw[bO3];exact .refl _ _ _ _
 | succ k ih =>
  intro h1 h2;by_cases e:a=k+1
  ·subst e;rw[bO3];exact .refl _ _ _ _
  ·rw[<-bY2 a k f (by omega)]
   exact(ih (by omega) (by omega) h2).trans (.swp _ h2 (by omega) (by omega) (by omega) (by omega))
theorem bJ7 (n a m:Nat) (f:Nat->α) (hm:m<n):∀d,a<=m - d->d<=m->Mv n a (m+1) f (mvD m (m - d) f)
 | 0,_,_=>by rw[Nat.sub_zero,bY5];exact .refl _ _ _ _
 | d+1,h,hd=>by
  have ih:=bJ7 n a m f hm d (by omega) (by omega);have:=bY4 m (m - d) f (by omega) (by omega);rw[show m - (d+1)=m - d - 1 by omega,<-this];exact ih.trans (.swp _ (by omega) (by omega) (by omega) (by omega) (by omega))
structure Cut (lt:α->α->Bool) (f:Nat->α) (p s0 r0 s r:Nat):Prop where
 lo:s0<=s
 le:s<=r
 hi:r<=r0
 bel:∀x,s0<=x->x<s->lt (f (p - x)) (f x)=false
 abv:∀x,r<=x->x<r0->lt (f (p - x)) (f x)=true
theorem Cut.up {f:Nat->α} {p s0 r0 s r a c b y:Nat} (hw:Wk lt) (h1:srt lt f a c) (h2:srt lt f c b) (hr:∀x,s0<=x->x<r0->a<=x/\x<c/\c<=p - x/\p - x<b) (h:Cut lt f p s0 r0 s r) (hsy:s<=y) (hyr:y<r)
  (hy:lt (f (p - y)) (f y)=false):Cut lt f p s0 r0 (y+1) r:=by
 have hlo:=h.lo;have hhi:=h.hi;refine⟨by omega,hyr,h.hi,fun x hx hxs=>?_,h.abv⟩;have k1:=hr x hx (by omega);have k2:=hr y (by omega) (by omega);have e1:=ao3 hw h1 k1.1 (show x<=y by omega) k2.2.1;have e2:=ao3 hw h2 k2.2.2.1 (show p - y<=p - x by omega) k1.2.2.2;exact hw.tr _ _ _ (hw.tr _ _ _ e1 hy) e2
theorem Cut.dn {f:Nat->α} {p s0 r0 s r a c b y:Nat} (hw:Wk lt) (h1:srt lt f a c) (h2:srt lt f c b) (hr:∀x,s0<=x->x<r0->a<=x/\x<c/\c<=p - x/\p - x<b) (h:Cut lt f p s0 r0 s r) (hsy:s<=y) (hyr:y<r)
  (hy:lt (f (p - y)) (f y)=true):Cut lt f p s0 r0 s y:=by
 have hlo:=h.lo;have hhi:=h.hi;refine⟨h.lo,hsy,by omega,h.bel,fun x hx hxr=>?_⟩;have k1:=hr x (by omega) hxr;have k2:=hr y (by omega) (by omega);have e1:=ao3 hw h1 k2.1 hx k1.2.1;have e2:=ao3 hw h2 k1.2.2.1 (show p - x<=p - y by omega) k2.2.2.2;exact bJ9 hw (bK0 hw e2 hy) e1
end
end Go.Abs
