import Derived.Test.YtehkgphockcjdaaGreatP2
import Derived.Test.YtehkgphockcjdaaGreatP8
import Derived.Lib.AtoiAllCases
import Derived.Test.YtehkgphockcjdaaGreatP1
open Nat renaming le_refl→a_
open List renaming drop_eq_getElem_cons→b_
set_option linter.unusedVariables false
set_option linter.unusedSimpArgs false
namespace Go.Abs
def isBr (c:UInt8):Bool:=c == 32 || c == 10 || c == 40 || c == 41 || c == 59
def noBr (c:UInt8):Bool:=!isBr c
def noNl (c:UInt8):Bool:=c != 10
theorem dropWhile_le {α:Type} (p:α→Bool):∀l:List α,(l.dropWhile p).length≤l.length
 | []=>a_ _
 | a :: r=>by
  simp only [List.dropWhile_cons]
  split
  ·have:=dropWhile_le p r;simp;omega
  ·exact a_ _
def toks:List UInt8→List (List UInt8)
 | []=>[]
 | c :: r =>
  if c=32∨c=10 then toks r
  else if c=59 then toks (r.dropWhile noNl)
  else if c=40∨c=41 then [c] :: toks r
  else (c :: r.takeWhile noBr) :: toks (r.dropWhile noBr)
termination_by l=>l.length
decreasing_by
 ·simp
 ·have:=dropWhile_le noNl r;simp;omega
 ·simp
 ·have:=dropWhile_le noBr r;simp;omega
theorem toks_nil:toks []=[]:=by rw [toks]
theorem toks_cons (c:UInt8) (r:List UInt8):toks (c :: r)=if c=32∨c=10 then toks r
  else if c=59 then toks (r.dropWhile noNl)
  else if c=40∨c=41 then [c] :: toks r
  else (c :: r.takeWhile noBr) :: toks (r.dropWhile noBr):=by rw [toks]
theorem tw_at {α:Type} {p:α→Bool} {s:List α}:∀(d i k:Nat),k=i+d→k≤s.length→(∀j,i≤j→j<k→∀c,s[j]? = some c→p c=true) →
  (s.drop i).takeWhile p=(s.take k).drop i++(s.drop k).takeWhile p∧(s.drop i).dropWhile p=(s.drop k).dropWhile p
 | 0,i,k,hk,hl,h=>by
  obtain rfl:k=i:=by omega
  have h0:(s.take k).drop k=[]:=List.drop_eq_nil_of_le (by rw [List.length_take];omega)
  rw [h0]
  exact ⟨rfl,rfl⟩
 | d+1,i,k,hk,hl,h=>by
  have hi:i<s.length:=by omega
  have hc:s[i]? = some s[i]:=List.getElem?_eq_getElem hi
  have hp:=h i (a_ _) (by omega) _ hc
  obtain ⟨h1,h2⟩:=tw_at d (i+1) k (by omega) hl (fun j a b c hc=>h j (by omega) b c hc)
  have hd:s.drop i=s[i] :: s.drop (i+1):=b_ hi
  have ht:(s.take k).drop i=s[i] :: (s.take k).drop (i+1):=by
   have hi':i<(s.take k).length:=by rw [List.length_take];omega
   rw [b_ hi']
   congr 1
   exact List.getElem_take
  rw [hd,List.takeWhile_cons,List.dropWhile_cons,hp,ht]
  simp only [if_true]
  exact ⟨by rw [h1];rfl,h2⟩
theorem drop_at {s:List UInt8} {i:Nat} {c:UInt8} (h:s[i]? = some c):s.drop i=c :: s.drop (i+1):=by
 obtain ⟨h1,h2⟩:=List.getElem?_eq_some_iff.1 h
 rw [←h2];exact b_ h1
theorem toks_sp {s:List UInt8} {i:Nat} {c:UInt8} (h:s[i]? = some c) (hc:c=32∨c=10):toks (s.drop i)=toks (s.drop (i+1)):=by
 rw [drop_at h,toks_cons,if_pos hc]
theorem u8_is {c:UInt8} {n:Nat} (hn:n<256):c=UInt8.ofNat n↔(c.toNat:Int)=n:=by
 constructor
 ·rintro rfl
  simp only [UInt8.toNat_ofNat']
  omega
 ·intro h
  apply UInt8.toNat_inj.1
  simp only [UInt8.toNat_ofNat']
  omega
def brI (b:Int):Bool:=decide (b=32) || decide (b=10) || decide (b=40) || decide (b=41) || decide (b=59)
theorem brI_eq (c:UInt8):brI c.toNat=isBr c:=by
 unfold brI isBr
 have h:∀n:Nat,n<256→decide ((c.toNat:Int)=n)=(c == UInt8.ofNat n):=fun n hn=>by
  rw [Bool.eq_iff_iff,decide_eq_true_eq,beq_iff_eq];exact (u8_is hn).symm
 rw [show ((32:Int))=((32:Nat):Int) from rfl,show ((10:Int))=((10:Nat):Int) from rfl,show ((40:Int))=((40:Nat):Int) from rfl,show ((41:Int))=((41:Nat):Int) from rfl,show ((59:Int))=((59:Nat):Int) from rfl,h 32 (by omega),h 10 (by omega),h 40 (by omega),h 41 (by omega),h 59 (by omega)]
 rfl
open Go
theorem parseU_app:∀(l r:List UInt8) (acc a:Nat),Lib.parseUint10 acc l=.ok a→Lib.parseUint10 acc (l++r)=Lib.parseUint10 a r
 | [],r,acc,a,h=>by
  simp only [Lib.parseUint10,Lib.NumEnd.ok.injEq] at h
  subst h;rfl
 | c :: l,r,acc,a,h=>by
  simp only [List.cons_append,Lib.parseUint10] at h ⊢
  split
  ·rename_i hc
   rw [if_pos hc] at h
   split
   ·rename_i h1;rw [if_pos h1] at h;cases h
   ·rename_i h1
    rw [if_neg h1] at h
    split
    ·rename_i h2;rw [if_pos h2] at h;cases h
    ·rename_i h2
     rw [if_neg h2] at h
     exact parseU_app l r _ a h
  ·rename_i hc;rw [if_neg hc] at h;cases h
theorem digit_byte {d:Nat} (hd:d<10):(UInt8.ofNat (48+d)).toNat=48+d:=by
 simp only [UInt8.toNat_ofNat']
 omega
theorem parseU_dec:∀(n u:Nat),u≤n→u<18446744073709551616→Lib.parseUint10 0 (Lib.decDigits u)=.ok u
 | n,u,hn,hu=>by
  rw [Lib.decDigits]
  split
  ·rename_i h
   have e:=digit_byte (d:=u) (by omega)
   simp only [Lib.parseUint10,e]
   rw [if_pos (by omega),if_neg (by omega),if_neg (by omega)]
   simp
  ·rename_i h
   match n,hn with
   | 0,hn=>omega
   | n+1,hn =>
    rw [parseU_app _ _ _ _ (parseU_dec n (u / 10) (by omega) (by omega))]
    have e:=digit_byte (d:=u % 10) (by omega)
    simp only [Lib.parseUint10,e]
    rw [if_pos (by omega),if_neg (by omega),if_neg (by omega)]
    congr 1
    omega
theorem decDigits_first:∀(n u:Nat),u≤n→∃c r,Lib.decDigits u=c :: r∧48≤c.toNat∧c.toNat≤57
 | n,u,hn=>by
  rw [Lib.decDigits]
  split
  ·rename_i h
   have e:=digit_byte (d:=u) (by omega)
   exact ⟨_,[],rfl,by omega,by omega⟩
  ·rename_i h
   match n,hn with
   | 0,hn=>omega
   | n+1,hn =>
    obtain ⟨c,r,h1,h2,h3⟩:=decDigits_first n (u / 10) (by omega)
    exact ⟨c,r++[UInt8.ofNat (48+u % 10)],by rw [h1];rfl,h2,h3⟩
theorem atoi_dec {n:Int} (h0:-9223372036854775808≤n) (h1:n≤9223372036854775807):Lib.atoiAll (dec n)=.ok n:=by
 by_cases h:n<0
 ·rw [dec_neg h,Lib.atoiAll_minus]
  obtain ⟨c,r,e1,e2,e3⟩:=decDigits_first n.natAbs n.natAbs (a_ _)
  have hp:Lib.parseMag (Lib.decDigits n.natAbs)=.ok n.natAbs:=by
   unfold Lib.parseMag
   rw [if_neg (by rw [e1];simp),parseU_dec _ _ (a_ _) (by omega)]
  rw [hp]
  simp only [Lib.signed]
  rw [if_neg (by omega)]
  congr 1
  omega
 ·rw [dec_pos (by omega)]
  obtain ⟨c,r,e1,e2,e3⟩:=decDigits_first n.toNat n.toNat (a_ _)
  have hp:Lib.parseMag (Lib.decDigits n.toNat)=.ok n.toNat:=by
   unfold Lib.parseMag
   rw [if_neg (by rw [e1];simp),parseU_dec _ _ (a_ _) (by omega)]
  rw [e1] at hp ⊢
  rw [Lib.atoiAll_plain c r (by omega) (by omega),hp]
  simp only [Lib.signless]
  rw [if_neg (by omega)]
  congr 1
  omega
def pInt (s:List UInt8):Option Int:=match Lib.atoiAll s with
 | .ok v=>if dec v=s then some v else none
 | _=>none
theorem pInt_some {s:List UInt8} {n:Int} (h:pInt s=some n):dec n=s∧-9223372036854775808≤n∧n≤9223372036854775807:=by
 unfold pInt at h
 split at h
 ·rename_i v hv
  split at h
  ·rename_i he
   cases h
   have:=Lib.atoiAll_bounds hv
   exact ⟨he,this.1,this.2⟩
  ·cases h
 ·cases h
def digV (l:List UInt8):Nat:=l.foldl (fun a c=>a * 10+(c.toNat - 48)) 0
theorem digV_snoc (l:List UInt8) (c:UInt8):digV (l++[c])=digV l * 10+(c.toNat - 48):=by unfold digV;rw [List.foldl_append];rfl
theorem digV_dec:∀(n u:Nat),u≤n→digV (Lib.decDigits u)=u
 | n,u,hn=>by
  rw [Lib.decDigits]
  split
  ·rename_i h
   have e:=digit_byte (d:=u) (by omega)
   simp [digV,e]
   omega
  ·rename_i h
   match n,hn with
   | 0,hn=>omega
   | n+1,hn =>
    have e:=digit_byte (d:=u % 10) (by omega)
    rw [digV_snoc,digV_dec n (u / 10) (by omega),e]
    omega
theorem dec_all:∀(n u:Nat),u≤n→∀c,c∈Lib.decDigits u→48≤c.toNat∧c.toNat≤57
 | n,u,hn=>by
  rw [Lib.decDigits]
  split
  ·rename_i h
   have e:=digit_byte (d:=u) (by omega)
   intro c hc
   simp at hc
   subst hc
   have e:(48+UInt8.ofNat u).toNat=48+u:=by
    have:=digit_byte (d:=u) (by omega)
    simpa using this
   omega
  ·rename_i h
   match n,hn with
   | 0,hn=>omega
   | n+1,hn =>
    intro c hc
    rcases List.mem_append.1 hc with hc | hc
    ·exact dec_all n (u / 10) (by omega) c hc
    ·have e:=digit_byte (d:=u % 10) (by omega)
     rw [List.mem_singleton] at hc
     subst hc
     omega
theorem digV_mono:∀(l r:List UInt8),digV l≤digV (l++r)
 | l,[]=>by simp
 | l,c :: r=>by
  have h1:=digV_mono (l++[c]) r
  rw [digV_snoc,List.append_assoc] at h1
  have h2:l++([c]++r)=l++c :: r:=rfl
  rw [h2] at h1
  omega
def atom (big:Bool) (t:List UInt8):Option V:=
 if isName t=true then some (.sym t)
 else if t.head? = some 63 then (match pInt t.tail with | some n=>if 0≤n∧n≤100000 then some (.var n) else none | none=>none)
 else match pInt t with | some n=>if big=true∨(-1000000000≤n∧n≤1000000000) then some (.num n) else none | none=>none
def lst (l:List V) (t:V):V:=l.foldr .pair t
mutual
def rdT (big:Bool) (T:List (List UInt8)):Nat→Nat→Option (V×Nat)
 | 0,_=>none
 | n+1,i=>match T[i]? with
  | none=>none
  | some t=>if t=[41]∨t=[46] then none else if t=[40] then rdL big T n (i+1) [] else match atom big t with | some v=>some (v,i+1) | none=>none
def rdL (big:Bool) (T:List (List UInt8)):Nat→Nat→List V→Option (V×Nat)
 | 0,_,_=>none
 | n+1,i,acc=>match T[i]? with
  | none=>none
  | some t=>if t=[41] then some (lst acc .nil,i+1)
   else if t=[46] then (match rdT big T n (i+1) with | some (v,j)=>if acc≠[]∧T[j]? = some [41] then some (lst acc v,j+1) else none | none=>none)
   else match rdT big T n i with | some (v,j)=>rdL big T n j (acc++[v]) | none=>none
end
def V.low:V→Bool
 | .sym s=>decide (s.length≤12)
 | .pair a b=>a.low && b.low
 | _=>true
theorem V.wt_low:∀v:V,v.low=true→wtL v.enc≤16 * v.size
 | .nil,_=>by simp [V.enc_nil,wtL,D.wt,wtR,V.size]
 | .var _,_=>by simp [V.enc_var,wtL,D.wt,wtR,V.size]
 | .num _,_=>by simp [V.enc_num,wtL,D.wt,wtR,V.size]
 | .sym s,h=>by
  simp only [V.low,decide_eq_true_eq] at h
  simp only [V.enc_sym,wtL,D.wt,wtR,V.size];omega
 | .pair a b,h=>by
  simp only [V.low,Bool.and_eq_true] at h
  have h1:=V.wt_low a h.1
  have h2:=V.wt_low b h.2
  simp only [V.enc_pair,wtL,D.wt,wtR,V.size,List.length_nil]
  omega
theorem toks_mem:∀(n:Nat) (l:List UInt8),l.length≤n→∀t,t∈toks l→t≠[]∧t.length≤l.length
 | 0,l,h=>by
  obtain rfl:=List.eq_nil_of_length_eq_zero (by omega:l.length=0)
  rw [toks_nil];simp
 | n+1,[],h=>by rw [toks_nil];simp
 | n + 1,c :: r,h=>by
  intro t ht
  rw [toks_cons] at ht
  simp only [List.length_cons] at h ⊢
  have h4:=dropWhile_le noNl r
  have h5:=dropWhile_le noBr r
  split at ht
  ·have:=toks_mem n r (by omega) t ht;exact ⟨this.1,by omega⟩
  ·split at ht
   ·have:=toks_mem n _ (by omega) t ht;exact ⟨this.1,by omega⟩
   ·split at ht
    ·rcases List.mem_cons.1 ht with rfl | ht
     ·simp
     ·have:=toks_mem n r (by omega) t ht;exact ⟨this.1,by omega⟩
    ·rcases List.mem_cons.1 ht with rfl | ht
     ·have:=(List.takeWhile_prefix (p:=noBr) (l:=r)).length_le
      simp;omega
     ·have:=toks_mem n _ (by omega) t ht;exact ⟨this.1,by omega⟩
theorem take_snoc {α:Type} {T:List α} {i:Nat} {c:α} (h:T[i]? = some c):T.take (i+1)=T.take i++[c]:=by
 rw [List.take_add_one,h];rfl
theorem dig_step {T:List UInt8} {u:Nat} (hT:T=Lib.decDigits u) {i:Nat} {c:UInt8} (hc:T[i]? = some c):48≤c.toNat∧c.toNat≤57∧digV (T.take (i+1))=digV (T.take i) * 10+(c.toNat - 48)∧digV (T.take (i+1))≤u:=by
 have h1:=dec_all u u (a_ _) c (by rw [←hT];exact List.mem_of_getElem? hc)
 refine ⟨h1.1,h1.2,by rw [take_snoc hc,digV_snoc],?_⟩
 have h2:=digV_mono (T.take (i+1)) (T.drop (i+1))
 rw [List.take_append_drop,hT,digV_dec u u (a_ _),←hT] at h2
 exact h2
theorem quo_neg {x:Int} (h:x≤0):x.tdiv 10=-((-x) / 10):=by
 obtain ⟨m,rfl⟩:∃m:Nat,x=-(m:Int):=⟨x.natAbs,by omega⟩
 rw [Int.neg_tdiv,Int.tdiv_eq_ediv_of_nonneg (by omega)]
 simp
structure Rdg (l T:List UInt8) (i:Nat) (acc:Int):Prop where
 lo:-9223372036854775808≤acc
 hi:acc≤0
 is:∀n,pInt l=some n→acc=-(digV (T.take i):Int)
theorem Rdg.bad {l T:List UInt8} {i:Nat} {acc:Int} (h:Rdg l T i acc) (hT:∀n,pInt l=some n→T=Lib.decDigits n.natAbs) {c:UInt8} (hc:T[i]? = some c)
  (hb:¬((0:Int)≤(c.toNat:Int) - 48∧(c.toNat:Int) - 48≤9)∨acc<(-9223372036854775808+((c.toNat:Int) - 48)).tdiv 10):pInt l=none:=by
 cases hp:pInt l with
 | none=>rfl
 | some n =>
  exfalso
  obtain ⟨_,b0,b1⟩:=pInt_some hp
  obtain ⟨h1,h2,h3,h4⟩:=dig_step (hT n hp) hc
  have h5:=h.is n hp
  rcases hb with hb | hb
  ·omega
  ·rw [quo_neg (by omega)] at hb
   omega
theorem Rdg.next {l T:List UInt8} {i:Nat} {acc:Int} (h:Rdg l T i acc) (hT:∀n,pInt l=some n→T=Lib.decDigits n.natAbs) {c:UInt8} (hc:T[i]? = some c)
  (h0:(0:Int)≤(c.toNat:Int) - 48) (h9:(c.toNat:Int) - 48≤9) (hq:¬acc<(-9223372036854775808+((c.toNat:Int) - 48)).tdiv 10) :
  Rdg l T (i+1) (acc * 10 - ((c.toNat:Int) - 48)):=by
 have hlo:=h.lo;have hhi:=h.hi
 rw [quo_neg (by omega)] at hq
 refine ⟨by omega,by omega,fun n hp=>?_⟩
 obtain ⟨h1,h2,h3,h4⟩:=dig_step (hT n hp) hc
 have h5:=h.is n hp
 rw [h3,h5]
 omega
theorem Rdg.done {l T:List UInt8} {acc:Int} (h:Rdg l T T.length acc) (hT:∀n,pInt l=some n→T=Lib.decDigits n.natAbs):∀n,pInt l=some n→acc=-(n.natAbs:Int):=fun n hp=>by
 have h1:=h.is n hp
 rw [List.take_length] at h1
 have h2:=hT n hp
 rw [h1]
 have h3:digV T=n.natAbs:=by rw [h2,digV_dec _ _ (a_ _)]
 rw [h3]
end Go.Abs
