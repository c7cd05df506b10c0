import Derived.Test.YtehcdhelbkjaeaaGreatDoorP2
import Derived.Test.YtehcdhelbkjaeaaGreatDoorP8
import Derived.Lib.AtoiAllCases
import Derived.Test.YtehcdhelbkjaeaaGreatDoorP1
open List renaming getElem?_eq_some_iff→a_,drop_eq_getElem_cons→c_,dropWhile_cons→d_,getElem?_eq_getElem→e_,drop_eq_nil_of_le→f_,length_take→g_,takeWhile_cons→i_,length_cons→j_,eq_nil_of_length_eq_zero→l_,all_append→m_
open Nat renaming le_refl→b_
open Bool renaming eq_iff_iff→h_,and_eq_true→k_
set_option linter.unusedVariables false
set_option linter.unusedSimpArgs false
namespace Go.Abs
def okB (c:UInt8):Bool:=c == 10 || (decide (32≤c.toNat) && decide (c.toNat≤126))
def isBr (c:UInt8):Bool:=c == 32 || c == 10 || c == 40 || c == 41 || c == 59
def noBr (c:UInt8):Bool:=!isBr c
def noNl (c:UInt8):Bool:=c != 10
theorem dropWhile_le {α:Type} (p:α→Bool):∀l:List α,(l.dropWhile p).length≤l.length
 | []=>b_ _
 | a :: r=>by
  simp only [d_]
  split
  ·have:=dropWhile_le p r;simp;omega
  ·exact b_ _
def toks:List UInt8→List (List UInt8)
 | []=>[]
 | c :: r =>
  if c=32∨c=10 then toks r
  else if c=59 then toks (r.dropWhile noNl)
  else if c=40∨c=41 then [c] :: toks r
  else (c :: r.takeWhile noBr) :: toks (r.dropWhile noBr)
termination_by l=>l.length
decreasing_by
 ·simp
 ·have:=dropWhile_le noNl r;simp;omega
 ·simp
 ·have:=dropWhile_le noBr r;simp;omega
theorem toks_nil:toks []=[]:=by rw [toks]
theorem toks_cons (c:UInt8) (r:List UInt8):toks (c :: r)=if c=32∨c=10 then toks r
  else if c=59 then toks (r.dropWhile noNl)
  else if c=40∨c=41 then [c] :: toks r
  else (c :: r.takeWhile noBr) :: toks (r.dropWhile noBr):=by rw [toks]
theorem toks_len:∀(n:Nat) (l:List UInt8),l.length≤n→(toks l).length≤l.length
 | 0,l,h=>by
  obtain rfl:=l_ (by omega:l.length=0)
  rw [toks_nil];simp
 | n+1,[],h=>by rw [toks_nil];simp
 | n+1,c :: r,h=>by
  rw [toks_cons]
  simp only [j_] at h
  have h1:=toks_len n r (by omega)
  have h2:=toks_len n (r.dropWhile noNl) (by have:=dropWhile_le noNl r;omega)
  have h3:=toks_len n (r.dropWhile noBr) (by have:=dropWhile_le noBr r;omega)
  have h4:=dropWhile_le noNl r
  have h5:=dropWhile_le noBr r
  split
  ·simp;omega
  ·split
   ·simp;omega
   ·split
    ·simp;omega
    ·simp;omega
def tokV (s:List UInt8):Option (List (List UInt8)):=if s.length≤100000∧s.all okB=true∧(toks s).length≤20000 then some (toks s) else none
theorem tw_at {α:Type} {p:α→Bool} {s:List α}:∀(d i k:Nat),k=i+d→k≤s.length→(∀j,i≤j→j<k→∀c,s[j]? = some c→p c=true) →
  (s.drop i).takeWhile p=(s.take k).drop i++(s.drop k).takeWhile p∧(s.drop i).dropWhile p=(s.drop k).dropWhile p
 | 0,i,k,hk,hl,h=>by
  obtain rfl:k=i:=by omega
  have h0:(s.take k).drop k=[]:=f_ (by rw [g_];omega)
  rw [h0]
  exact ⟨rfl,rfl⟩
 | d+1,i,k,hk,hl,h=>by
  have hi:i<s.length:=by omega
  have hc:s[i]? = some s[i]:=e_ hi
  have hp:=h i (b_ _) (by omega) _ hc
  obtain ⟨h1,h2⟩:=tw_at d (i+1) k (by omega) hl (fun j a b c hc=>h j (by omega) b c hc)
  have hd:s.drop i=s[i] :: s.drop (i+1):=c_ hi
  have ht:(s.take k).drop i=s[i] :: (s.take k).drop (i+1):=by
   have hi':i<(s.take k).length:=by rw [g_];omega
   rw [c_ hi']
   congr 1
   exact List.getElem_take
  rw [hd,i_,d_,hp,ht]
  simp only [if_true]
  exact ⟨by rw [h1];rfl,h2⟩
theorem tw_end {α:Type} {p:α→Bool} {s:List α} {k:Nat} (h:∀c,s[k]? = some c→p c=false):(s.drop k).takeWhile p=[]∧(s.drop k).dropWhile p=s.drop k:=by
 by_cases hk:k<s.length
 ·have hd:s.drop k=s[k] :: s.drop (k+1):=c_ hk
  have:=h _ (e_ hk)
  rw [hd,i_,d_,this]
  exact ⟨rfl,rfl⟩
 ·rw [f_ (by omega)];exact ⟨rfl,rfl⟩
theorem drop_at {s:List UInt8} {i:Nat} {c:UInt8} (h:s[i]? = some c):s.drop i=c :: s.drop (i+1):=by
 obtain ⟨h1,h2⟩:=a_.1 h
 rw [←h2];exact c_ h1
theorem toks_sp {s:List UInt8} {i:Nat} {c:UInt8} (h:s[i]? = some c) (hc:c=32∨c=10):toks (s.drop i)=toks (s.drop (i+1)):=by
 rw [drop_at h,toks_cons,if_pos hc]
theorem toks_par {s:List UInt8} {i:Nat} {c:UInt8} (h:s[i]? = some c) (hc:c=40∨c=41):toks (s.drop i)=[c] :: toks (s.drop (i+1)):=by
 rw [drop_at h,toks_cons,if_neg (by rcases hc with rfl | rfl<;>decide),if_neg (by rcases hc with rfl | rfl<;>decide),if_pos hc]
theorem toks_com {s:List UInt8} {i k:Nat} (h:s[i]? = some 59) (hik:i≤k) (hk:k≤s.length) (hall:∀j,i≤j→j<k→∀c,s[j]? = some c→noNl c=true) (hend:∀c,s[k]? = some c→noNl c=false):toks (s.drop i)=toks (s.drop k):=by
 have h1:=(tw_at (k - i) i k (by omega) hk hall).2
 rw [(tw_end hend).2,drop_at h,d_,if_pos (by decide)] at h1
 rw [drop_at h,toks_cons,if_neg (by decide),if_pos rfl,h1]
theorem toks_word {s:List UInt8} {i k:Nat} {c:UInt8} (h:s[i]? = some c) (hc:isBr c=false) (hik:i<k) (hk:k≤s.length) (hall:∀j,i≤j→j<k→∀c,s[j]? = some c→noBr c=true) (hend:∀c,s[k]? = some c→noBr c=false):toks (s.drop i)=(s.take k).drop i :: toks (s.drop k):=by
 obtain ⟨h1,h2⟩:=tw_at (k - i) i k (by omega) hk hall
 obtain ⟨h3,h4⟩:=tw_end hend
 have hp:noBr c=true:=by unfold noBr;rw [hc];rfl
 rw [h3,List.append_nil,drop_at h,i_,if_pos hp] at h1
 rw [h4,drop_at h,d_,if_pos hp] at h2
 unfold isBr at hc
 simp only [Bool.or_eq_false_iff,beq_eq_false_iff_ne,ne_eq] at hc
 rw [drop_at h,toks_cons,if_neg (fun h=>h.elim hc.1.1.1.1 hc.1.1.1.2),if_neg hc.2,if_neg (fun h=>h.elim hc.1.1.2 hc.1.2),h1,h2]
theorem toks_done {s:List UInt8} {i:Nat} (h:s.length≤i):toks (s.drop i)=[]:=by
 rw [f_ h,toks_nil]
theorem u8_is {c:UInt8} {n:Nat} (hn:n<256):c=UInt8.ofNat n↔(c.toNat:Int)=n:=by
 constructor
 ·rintro rfl
  simp only [UInt8.toNat_ofNat']
  omega
 ·intro h
  apply UInt8.toNat_inj.1
  simp only [UInt8.toNat_ofNat']
  omega
def brI (b:Int):Bool:=decide (b=32) || decide (b=10) || decide (b=40) || decide (b=41) || decide (b=59)
theorem brI_eq (c:UInt8):brI c.toNat=isBr c:=by
 unfold brI isBr
 have h:∀n:Nat,n<256→decide ((c.toNat:Int)=n)=(c == UInt8.ofNat n):=fun n hn=>by
  rw [h_,decide_eq_true_eq,beq_iff_eq];exact (u8_is hn).symm
 rw [show ((32:Int))=((32:Nat):Int) from rfl,show ((10:Int))=((10:Nat):Int) from rfl,show ((40:Int))=((40:Nat):Int) from rfl,show ((41:Int))=((41:Nat):Int) from rfl,show ((59:Int))=((59:Nat):Int) from rfl,h 32 (by omega),h 10 (by omega),h 40 (by omega),h 41 (by omega),h 59 (by omega)]
 rfl
theorem byte_at {s:List UInt8} {i:Nat} (h:i<s.length):∃c:UInt8,s[i]? = some c∧((s[i]?.getD 0).toNat:Int)=c.toNat:=⟨s[i],e_ h,by rw [e_ h];rfl⟩
theorem nl_is {c:UInt8}:noNl c=!decide ((c.toNat:Int)=10):=by
 unfold noNl
 rw [show ((10:Int))=((10:Nat):Int) from rfl,h_]
 simp only [bne_iff_ne,ne_eq,Bool.not_eq_true',decide_eq_false_iff_not]
 exact not_congr (u8_is (c:=c) (n:=10) (by omega))
theorem ok_is {c:UInt8}:okB c=(decide ((c.toNat:Int)=10) || (decide ((32:Int)≤c.toNat) && decide ((c.toNat:Int)≤126))):=by
 unfold okB
 have h:(c == 10)=decide ((c.toNat:Int)=10):=by
  rw [h_,decide_eq_true_eq,beq_iff_eq];exact u8_is (c:=c) (n:=10) (by omega)
 rw [h]
 congr 1
 congr 1<;>(rw [h_,decide_eq_true_eq,decide_eq_true_eq];omega)
theorem all_okB {s:List UInt8} (h:∀j,j<s.length→∀c,s[j]? = some c→okB c=true):s.all okB=true:=by
 rw [List.all_eq_true]
 intro c hc
 obtain ⟨j,hj⟩:=List.getElem?_of_mem hc
 exact h j (a_.1 hj).1 c hj
theorem bad_okB {s:List UInt8} {j:Nat} {c:UInt8} (hj:s[j]? = some c) (h:okB c=false):s.all okB=false:=by
 rw [List.all_eq_false]
 exact ⟨c,List.mem_of_getElem? hj,by simp [h]⟩
theorem one_at {s:List UInt8} {i:Nat} {c:UInt8} (h:s[i]? = some c):(s.take (i+1)).drop i=[c]:=by
 obtain ⟨h1,h2⟩:=a_.1 h
 rw [List.take_add_one,h]
 simp only [Option.toList_some]
 rw [List.drop_append_of_le_length (by rw [g_];omega),f_ (by rw [g_];omega)]
 rfl
def tkC (o:Option (List (List UInt8))):C:=match o with
 | some T=>.tup [.d (.sl (strD T)),.d (.bool true)]
 | none=>.tup [.d (.sl []),.d (.bool false)]
open Go
theorem parseU_app:∀(l r:List UInt8) (acc a:Nat),Lib.parseUint10 acc l=.ok a→Lib.parseUint10 acc (l++r)=Lib.parseUint10 a r
 | [],r,acc,a,h=>by
  simp only [Lib.parseUint10,Lib.NumEnd.ok.injEq] at h
  subst h;rfl
 | c :: l,r,acc,a,h=>by
  simp only [List.cons_append,Lib.parseUint10] at h ⊢
  split
  ·rename_i hc
   rw [if_pos hc] at h
   split
   ·rename_i h1;rw [if_pos h1] at h;cases h
   ·rename_i h1
    rw [if_neg h1] at h
    split
    ·rename_i h2;rw [if_pos h2] at h;cases h
    ·rename_i h2
     rw [if_neg h2] at h
     exact parseU_app l r _ a h
  ·rename_i hc;rw [if_neg hc] at h;cases h
theorem digit_byte {d:Nat} (hd:d<10):(UInt8.ofNat (48+d)).toNat=48+d:=by
 simp only [UInt8.toNat_ofNat']
 omega
theorem parseU_dec:∀(n u:Nat),u≤n→u<18446744073709551616→Lib.parseUint10 0 (Lib.decDigits u)=.ok u
 | n,u,hn,hu=>by
  rw [Lib.decDigits]
  split
  ·rename_i h
   have e:=digit_byte (d:=u) (by omega)
   simp only [Lib.parseUint10,e]
   rw [if_pos (by omega),if_neg (by omega),if_neg (by omega)]
   simp
  ·rename_i h
   match n,hn with
   | 0,hn=>omega
   | n+1,hn =>
    rw [parseU_app _ _ _ _ (parseU_dec n (u / 10) (by omega) (by omega))]
    have e:=digit_byte (d:=u % 10) (by omega)
    simp only [Lib.parseUint10,e]
    rw [if_pos (by omega),if_neg (by omega),if_neg (by omega)]
    congr 1
    omega
theorem decDigits_first:∀(n u:Nat),u≤n→∃c r,Lib.decDigits u=c :: r∧48≤c.toNat∧c.toNat≤57
 | n,u,hn=>by
  rw [Lib.decDigits]
  split
  ·rename_i h
   have e:=digit_byte (d:=u) (by omega)
   exact ⟨_,[],rfl,by omega,by omega⟩
  ·rename_i h
   match n,hn with
   | 0,hn=>omega
   | n+1,hn =>
    obtain ⟨c,r,h1,h2,h3⟩:=decDigits_first n (u / 10) (by omega)
    exact ⟨c,r++[UInt8.ofNat (48+u % 10)],by rw [h1];rfl,h2,h3⟩
theorem atoi_dec {n:Int} (h0:-9223372036854775808≤n) (h1:n≤9223372036854775807):Lib.atoiAll (dec n)=.ok n:=by
 by_cases h:n<0
 ·rw [dec_neg h,Lib.atoiAll_minus]
  obtain ⟨c,r,e1,e2,e3⟩:=decDigits_first n.natAbs n.natAbs (b_ _)
  have hp:Lib.parseMag (Lib.decDigits n.natAbs)=.ok n.natAbs:=by
   unfold Lib.parseMag
   rw [if_neg (by rw [e1];simp),parseU_dec _ _ (b_ _) (by omega)]
  rw [hp]
  simp only [Lib.signed]
  rw [if_neg (by omega)]
  congr 1
  omega
 ·rw [dec_pos (by omega)]
  obtain ⟨c,r,e1,e2,e3⟩:=decDigits_first n.toNat n.toNat (b_ _)
  have hp:Lib.parseMag (Lib.decDigits n.toNat)=.ok n.toNat:=by
   unfold Lib.parseMag
   rw [if_neg (by rw [e1];simp),parseU_dec _ _ (b_ _) (by omega)]
  rw [e1] at hp ⊢
  rw [Lib.atoiAll_plain c r (by omega) (by omega),hp]
  simp only [Lib.signless]
  rw [if_neg (by omega)]
  congr 1
  omega
def pInt (s:List UInt8):Option Int:=match Lib.atoiAll s with
 | .ok v=>if dec v=s then some v else none
 | _=>none
theorem pInt_dec {n:Int} (h0:-9223372036854775808≤n) (h1:n≤9223372036854775807):pInt (dec n)=some n:=by
 unfold pInt;rw [atoi_dec h0 h1];simp
theorem pInt_some {s:List UInt8} {n:Int} (h:pInt s=some n):dec n=s∧-9223372036854775808≤n∧n≤9223372036854775807:=by
 unfold pInt at h
 split at h
 ·rename_i v hv
  split at h
  ·rename_i he
   cases h
   have:=Lib.atoiAll_bounds hv
   exact ⟨he,this.1,this.2⟩
  ·cases h
 ·cases h
def digV (l:List UInt8):Nat:=l.foldl (fun a c=>a * 10+(c.toNat - 48)) 0
theorem digV_snoc (l:List UInt8) (c:UInt8):digV (l++[c])=digV l * 10+(c.toNat - 48):=by unfold digV;rw [List.foldl_append];rfl
theorem digV_dec:∀(n u:Nat),u≤n→digV (Lib.decDigits u)=u
 | n,u,hn=>by
  rw [Lib.decDigits]
  split
  ·rename_i h
   have e:=digit_byte (d:=u) (by omega)
   simp [digV,e]
   omega
  ·rename_i h
   match n,hn with
   | 0,hn=>omega
   | n+1,hn =>
    have e:=digit_byte (d:=u % 10) (by omega)
    rw [digV_snoc,digV_dec n (u / 10) (by omega),e]
    omega
theorem dec_all:∀(n u:Nat),u≤n→∀c,c∈Lib.decDigits u→48≤c.toNat∧c.toNat≤57
 | n,u,hn=>by
  rw [Lib.decDigits]
  split
  ·rename_i h
   have e:=digit_byte (d:=u) (by omega)
   intro c hc
   simp at hc
   subst hc
   have e:(48+UInt8.ofNat u).toNat=48+u:=by
    have:=digit_byte (d:=u) (by omega)
    simpa using this
   omega
  ·rename_i h
   match n,hn with
   | 0,hn=>omega
   | n+1,hn =>
    intro c hc
    rcases List.mem_append.1 hc with hc | hc
    ·exact dec_all n (u / 10) (by omega) c hc
    ·have e:=digit_byte (d:=u % 10) (by omega)
     rw [List.mem_singleton] at hc
     subst hc
     omega
theorem digV_mono:∀(l r:List UInt8),digV l≤digV (l++r)
 | l,[]=>by simp
 | l,c :: r=>by
  have h1:=digV_mono (l++[c]) r
  rw [digV_snoc,List.append_assoc] at h1
  have h2:l++([c]++r)=l++c :: r:=rfl
  rw [h2] at h1
  omega
def atom (big:Bool) (t:List UInt8):Option V:=
 if isName t=true then some (.sym t)
 else if t.head? = some 63 then (match pInt t.tail with | some n=>if 0≤n∧n≤100000 then some (.var n) else none | none=>none)
 else match pInt t with | some n=>if big=true∨(-1000000000≤n∧n≤1000000000) then some (.num n) else none | none=>none
def lst (l:List V) (t:V):V:=l.foldr .pair t
mutual
def rdT (big:Bool) (T:List (List UInt8)):Nat→Nat→Option (V×Nat)
 | 0,_=>none
 | n+1,i=>match T[i]? with
  | none=>none
  | some t=>if t=[41]∨t=[46] then none else if t=[40] then rdL big T n (i+1) [] else match atom big t with | some v=>some (v,i+1) | none=>none
def rdL (big:Bool) (T:List (List UInt8)):Nat→Nat→List V→Option (V×Nat)
 | 0,_,_=>none
 | n+1,i,acc=>match T[i]? with
  | none=>none
  | some t=>if t=[41] then some (lst acc .nil,i+1)
   else if t=[46] then (match rdT big T n (i+1) with | some (v,j)=>if acc≠[]∧T[j]? = some [41] then some (lst acc v,j+1) else none | none=>none)
   else match rdT big T n i with | some (v,j)=>rdL big T n j (acc++[v]) | none=>none
end
theorem rdT_none {big:Bool} {T:List (List UInt8)} {n i:Nat} (h:T[i]? = none):rdT big T (n+1) i=none:=by rw [rdT,h]
theorem rdT_bad {big:Bool} {T:List (List UInt8)} {n i:Nat} {t:List UInt8} (h:T[i]? = some t) (ht:t=[41]∨t=[46]):rdT big T (n+1) i=none:=by
 rw [rdT,h];simp only [if_pos ht]
theorem rdT_open {big:Bool} {T:List (List UInt8)} {n i:Nat} (h:T[i]? = some [40]):rdT big T (n+1) i=rdL big T n (i+1) []:=by
 rw [rdT,h];simp
theorem rdT_atom {big:Bool} {T:List (List UInt8)} {n i:Nat} {t:List UInt8} (h:T[i]? = some t) (h1:¬(t=[41]∨t=[46])) (h2:t≠[40]):rdT big T (n+1) i=match atom big t with | some v=>some (v,i+1) | none=>none:=by
 rw [rdT,h];simp only [if_neg h1,if_neg h2]
theorem rdL_none {big:Bool} {T:List (List UInt8)} {n i:Nat} {acc:List V} (h:T[i]? = none):rdL big T (n+1) i acc=none:=by rw [rdL,h]
theorem rdL_end {big:Bool} {T:List (List UInt8)} {n i:Nat} {acc:List V} (h:T[i]? = some [41]):rdL big T (n+1) i acc=some (lst acc .nil,i+1):=by rw [rdL,h];simp
theorem rdL_dot {big:Bool} {T:List (List UInt8)} {n i:Nat} {acc:List V} (h:T[i]? = some [46]):rdL big T (n+1) i acc=match rdT big T n (i+1) with | some (v,j)=>if acc≠[]∧T[j]? = some [41] then some (lst acc v,j+1) else none | none=>none:=by
 rw [rdL,h];simp
theorem rdL_item {big:Bool} {T:List (List UInt8)} {n i:Nat} {acc:List V} {t:List UInt8} (h:T[i]? = some t) (h1:t≠[41]) (h2:t≠[46]):rdL big T (n+1) i acc=match rdT big T n i with | some (v,j)=>rdL big T n j (acc++[v]) | none=>none:=by
 rw [rdL,h];simp only [if_neg h1,if_neg h2]
def lsz:List V→Nat
 | []=>0
 | v :: r=>1+v.size+lsz r
theorem lsz_app:∀a b:List V,lsz (a++b)=lsz a+lsz b
 | [],b=>by simp [lsz]
 | v :: a,b=>by simp only [List.cons_append,lsz,lsz_app a b];omega
theorem lst_size:∀(l:List V) (t:V),(lst l t).size=lsz l+t.size
 | [],t=>by simp [lst,lsz]
 | v :: r,t=>by
  have:=lst_size r t
  show (V.pair v (lst r t)).size=_
  simp only [V.size,lsz,this];omega
theorem rd_len (big:Bool) (T:List (List UInt8)):∀n:Nat,(∀i v j,rdT big T n i=some (v,j)→i<j∧j≤T.length∧v.size+1≤2 * (j - i))∧(∀i acc v j,rdL big T n i acc=some (v,j)→i<j∧j≤T.length∧v.size+1≤lsz acc+2 * (j - i))
 | 0=>⟨fun i v j h=>(by rw [rdT] at h;cases h),fun i acc v j h=>(by rw [rdL] at h;cases h)⟩
 | n + 1 => by
  obtain ⟨ih1,ih2⟩:=rd_len big T n
  refine ⟨fun i v j h=>?_,fun i acc v j h=>?_⟩
  ·rw [rdT] at h
   cases hT:T[i]? with
   | none=>rw [hT] at h;cases h
   | some t =>
    have hi:=(a_.1 hT).1
    rw [hT] at h
    dsimp only at h
    split at h
    ·cases h
    ·split at h
     ·have:=ih2 _ _ _ _ h
      simp only [lsz] at this
      omega
     ·unfold atom at h
      split at h
      ·rename_i v' hv
       cases h
       have h1:v.size=1:=by
        split at hv
        ·cases hv;rfl
        ·split at hv
         ·split at hv
          ·split at hv
           ·cases hv;rfl
           ·cases hv
          ·cases hv
         ·split at hv
          ·split at hv
           ·cases hv;rfl
           ·cases hv
          ·cases hv
       omega
      ·cases h
  ·rw [rdL] at h
   cases hT:T[i]? with
   | none=>rw [hT] at h;cases h
   | some t =>
    have hi:=(a_.1 hT).1
    rw [hT] at h
    dsimp only at h
    split at h
    ·cases h
     rw [lst_size]
     simp only [V.size]
     omega
    ·split at h
     ·split at h
      ·rename_i v1 j1 h1
       split at h
       ·rename_i hc
        cases h
        have h2:=ih1 _ _ _ h1
        have h3:=(a_.1 hc.2).1
        rw [lst_size]
        omega
       ·cases h
      ·cases h
     ·split at h
      ·rename_i v1 j1 h1
       have h2:=ih1 _ _ _ h1
       have h3:=ih2 _ _ _ _ h
       rw [lsz_app] at h3
       simp only [lsz] at h3
       omega
      ·cases h
theorem lst_fine:∀(l:List V) (t:V),(lst l t).fine=(l.all V.fine && t.fine)
 | [],t=>by simp [lst]
 | v :: r,t=>by
  have:=lst_fine r t
  show (V.pair v (lst r t)).fine=_
  simp only [V.fine,this,List.all_cons,Bool.and_assoc]
theorem rdL_pre (big:Bool) (T:List (List UInt8)):∀(n i:Nat) (acc:List V) (v:V) (j:Nat),rdL big T n i acc=some (v,j)→∃r t,v=lst (acc++r) t
 | 0,i,acc,v,j,h=>by rw [rdL] at h;cases h
 | n + 1,i,acc,v,j,h=>by
  rw [rdL] at h
  split at h
  ·cases h
  ·split at h
   ·cases h;exact ⟨[],.nil,by simp⟩
   ·split at h
    ·split at h
     ·split at h
      ·cases h;exact ⟨[],_,by simp;rfl⟩
      ·cases h
     ·cases h
    ·split at h
     ·rename_i v1 j1 h1
      obtain ⟨r,t,e⟩:=rdL_pre big T n _ _ _ _ h
      exact ⟨v1 :: r,t,by rw [e];simp⟩
     ·cases h
theorem atom_fine (t:List UInt8) (v:V):atom false t=some v↔atom true t=some v∧v.fine=true:=by
 unfold atom
 by_cases h1:isName t=true
 ·simp only [if_pos h1]
  constructor
  ·intro h;cases h;exact ⟨rfl,h1⟩
  ·intro h;exact h.1
 ·simp only [if_neg h1]
  by_cases h2:t.head? = some 63
  ·simp only [if_pos h2]
   constructor
   ·intro h
    refine ⟨h,?_⟩
    split at h
    ·split at h
     ·rename_i hc;cases h;simp [V.fine,hc]
     ·cases h
    ·cases h
   ·intro h;exact h.1
  ·simp only [if_neg h2]
   cases pInt t with
   | none=>simp
   | some n =>
    simp only [true_or,if_true,Bool.false_eq_true,false_or]
    by_cases hc:-1000000000≤n∧n≤1000000000
    ·rw [if_pos hc]
     constructor
     ·intro h;cases h;exact ⟨rfl,by simp [V.fine,hc]⟩
     ·intro h;exact h.1
    ·rw [if_neg hc]
     constructor
     ·intro h;cases h
     ·rintro ⟨h,h'⟩;cases h;simp [V.fine] at h';exact absurd h' hc
theorem rd_fine (T:List (List UInt8)):∀n:Nat,(∀i v j,rdT false T n i=some (v,j)↔rdT true T n i=some (v,j)∧v.fine=true)∧(∀i acc v j,acc.all V.fine=true→(rdL false T n i acc=some (v,j)↔rdL true T n i acc=some (v,j)∧v.fine=true))
 | 0=>⟨fun i v j=>by simp [rdT],fun i acc v j _=>by simp [rdL]⟩
 | n + 1 => by
  obtain ⟨ih1,ih2⟩:=rd_fine T n
  refine ⟨fun i v j=>?_,fun i acc v j ha=>?_⟩
  ·cases hT:T[i]? with
   | none=>rw [rdT_none hT,rdT_none hT];simp
   | some t =>
    by_cases h1:t=[41]∨t=[46]
    ·rw [rdT_bad hT h1,rdT_bad hT h1];simp
    ·by_cases h2:t=[40]
     ·subst h2
      rw [rdT_open hT,rdT_open hT]
      exact ih2 _ _ _ _ rfl
     ·rw [rdT_atom hT h1 h2,rdT_atom hT h1 h2]
      have hk:=atom_fine t
      cases h3:atom false t with
      | some v' =>
       obtain ⟨k1,k2⟩:=(hk v').1 h3
       rw [k1]
       dsimp only
       constructor
       ·intro h;cases h;exact ⟨rfl,k2⟩
       ·intro h;exact h.1
      | none =>
       constructor
       ·intro h;cases h
       ·rintro ⟨h,h'⟩
        exfalso
        split at h
        ·rename_i v' h4
         cases h
         rw [(hk v).2 ⟨h4,h'⟩] at h3;cases h3
        ·cases h
  ·cases hT:T[i]? with
   | none=>rw [rdL_none hT,rdL_none hT];simp
   | some t =>
    by_cases h1:t=[41]
    ·subst h1
     rw [rdL_end hT,rdL_end hT]
     constructor
     ·intro h;cases h;exact ⟨rfl,by rw [lst_fine,ha];rfl⟩
     ·intro h;exact h.1
    ·by_cases h2:t=[46]
     ·subst h2
      rw [rdL_dot hT,rdL_dot hT]
      constructor
      ·intro h
       split at h
       ·rename_i v1 j1 h3
        obtain ⟨k1,k2⟩:=(ih1 _ _ _).1 h3
        rw [k1]
        dsimp only
        refine ⟨h,?_⟩
        split at h
        ·cases h;rw [lst_fine,ha,k2];rfl
        ·cases h
       ·cases h
      ·rintro ⟨h,h'⟩
       split at h
       ·rename_i v1 j1 h3
        split at h
        ·rename_i hc
         cases h
         rw [lst_fine,k_] at h'
         rw [(ih1 _ _ _).2 ⟨h3,h'.2⟩]
         simp only [if_pos hc]
        ·cases h
       ·cases h
     ·rw [rdL_item hT h1 h2,rdL_item hT h1 h2]
      constructor
      ·intro h
       split at h
       ·rename_i v1 j1 h3
        obtain ⟨k1,k2⟩:=(ih1 _ _ _).1 h3
        rw [k1]
        exact (ih2 _ _ _ _ (by rw [m_,ha];simp [k2])).1 h
       ·cases h
      ·rintro ⟨h,h'⟩
       split at h
       ·rename_i v1 j1 h3
        obtain ⟨r,u,e⟩:=rdL_pre true T n _ _ _ _ h
        have hv1:v1.fine=true:=by
         rw [e,lst_fine] at h'
         simp at h'
         exact h'.1.2.1
        rw [(ih1 _ _ _).2 ⟨h3,hv1⟩]
        exact (ih2 _ _ _ _ (by rw [m_,ha];simp [hv1])).2 ⟨h,h'⟩
       ·cases h
def V.low:V→Bool
 | .sym s=>decide (s.length≤12)
 | .pair a b=>a.low && b.low
 | _=>true
theorem V.wt_low:∀v:V,v.low=true→wtL v.enc≤16 * v.size
 | .nil,_=>by simp [V.enc_nil,wtL,D.wt,wtR,V.size]
 | .var _,_=>by simp [V.enc_var,wtL,D.wt,wtR,V.size]
 | .num _,_=>by simp [V.enc_num,wtL,D.wt,wtR,V.size]
 | .sym s,h=>by
  simp only [V.low,decide_eq_true_eq] at h
  simp only [V.enc_sym,wtL,D.wt,wtR,V.size];omega
 | .pair a b,h=>by
  simp only [V.low,k_] at h
  have h1:=V.wt_low a h.1
  have h2:=V.wt_low b h.2
  simp only [V.enc_pair,wtL,D.wt,wtR,V.size,List.length_nil]
  omega
theorem lst_low:∀(l:List V) (t:V),(lst l t).low=(l.all V.low && t.low)
 | [],t=>by simp [lst]
 | v :: r,t=>by
  have:=lst_low r t
  show (V.pair v (lst r t)).low=_
  simp only [V.low,this,List.all_cons,Bool.and_assoc]
theorem atom_low {big:Bool} {t:List UInt8} {v:V} (h:atom big t=some v):v.low=true:=by
 unfold atom at h
 split at h
 ·rename_i h1
  cases h
  simp [V.low,(isName_len h1).2]
 ·split at h
  ·split at h
   ·split at h
    ·cases h;rfl
    ·cases h
   ·cases h
  ·split at h
   ·split at h
    ·cases h;rfl
    ·cases h
   ·cases h
theorem rd_low (big:Bool) (T:List (List UInt8)):∀n:Nat,(∀i v j,rdT big T n i=some (v,j)→v.low=true)∧(∀i acc v j,acc.all V.low=true→rdL big T n i acc=some (v,j)→v.low=true)
 | 0=>⟨fun i v j h=>(by rw [rdT] at h;cases h),fun i acc v j _ h=>(by rw [rdL] at h;cases h)⟩
 | n + 1=>by
  obtain ⟨ih1,ih2⟩:=rd_low big T n
  refine ⟨fun i v j h=>?_,fun i acc v j ha h=>?_⟩
  ·rw [rdT] at h
   split at h
   ·cases h
   ·split at h
    ·cases h
    ·split at h
     ·exact ih2 _ _ _ _ rfl h
     ·split at h
      ·rename_i v' hv
       cases h
       exact atom_low hv
      ·cases h
  ·rw [rdL] at h
   split at h
   ·cases h
   ·split at h
    ·cases h
     rw [lst_low,ha];rfl
    ·split at h
     ·split at h
      ·rename_i v1 j1 h1
       split at h
       ·cases h
        rw [lst_low,ha,ih1 _ _ _ h1];rfl
       ·cases h
      ·cases h
     ·split at h
      ·rename_i v1 j1 h1
       exact ih2 _ _ _ _ (by rw [m_,ha];simp [ih1 _ _ _ h1]) h
      ·cases h
theorem tm_inj:∀a b:V,a.tm=b.tm→a=b
 | .nil,b,h=>by cases b<;>simp [V.tm] at h ⊢
 | .var _,b,h=>by cases b<;>simp [V.tm] at h ⊢;exact h
 | .sym _,b,h=>by cases b<;>simp [V.tm] at h ⊢;exact h
 | .num _,b,h=>by cases b<;>simp [V.tm] at h ⊢;exact h
 | .pair x y,b,h=>by
  cases b with
  | pair x' y' =>
   simp [V.tm] at h
   rw [tm_inj x x' h.1,tm_inj y y' h.2]
  | _=>simp [V.tm] at h
theorem tmOk_V (v:V):tmOk v.tm=v.ok:=by
 by_cases h:v.ok=true
 ·rw [h];exact tmOk_tm h
 ·rw [Bool.not_eq_true] at h
  rw [h]
  by_cases h2:tmOk v.tm=true
  ·obtain ⟨v',e,hv'⟩:=tmOk_of h2
   rw [tm_inj _ _ e,hv'] at h;cases h
  ·simpa using h2
def rdO (big:Bool) (T:List (List UInt8)) (i:Nat):Option (V×Nat):=match rdT big T (2 * T.length+1) i with
 | some (v,j)=>if v.ok=true then some (v,j) else none
 | none=>none
theorem rdO_big (T:List (List UInt8)) (i:Nat):rdO true T i=rdO false T i:=by
 unfold rdO
 have hk:=(rd_fine T (2 * T.length+1)).1 i
 cases h:rdT false T (2 * T.length+1) i with
 | some x =>
  obtain ⟨v,j⟩:=x
  rw [((hk v j).1 h).1]
 | none =>
  cases h2:rdT true T (2 * T.length+1) i with
  | none=>rfl
  | some x =>
   obtain ⟨v,j⟩:=x
   dsimp only
   rw [if_neg]
   intro hok
   unfold V.ok at hok
   rw [k_] at hok
   rw [(hk v j).2 ⟨h2,hok.1⟩] at h;cases h
theorem rdO_len {big:Bool} {T:List (List UInt8)} {i:Nat} {v:V} {j:Nat} (h:rdO big T i=some (v,j)):i<j∧j≤T.length∧v.ok=true:=by
 unfold rdO at h
 split at h
 ·rename_i v' j' h1
  split at h
  ·rename_i h2
   cases h
   have:=(rd_len big T _).1 _ _ _ h1
   exact ⟨this.1,this.2.1,h2⟩
  ·cases h
 ·cases h
def rdA (T:List (List UInt8)):Nat→Nat→Option (List V)
 | 0,_=>none
 | n+1,i=>if T.length≤i then some [] else match rdO false T i with
  | some (v,j)=>(match rdA T n j with | some l=>some (v :: l) | none=>none)
  | none=>none
theorem rdA_end {T:List (List UInt8)} {n i:Nat} (h:T.length≤i):rdA T (n+1) i=some []:=by rw [rdA,if_pos h]
theorem rdA_step {T:List (List UInt8)} {n i:Nat} (h:i<T.length):rdA T (n+1) i=match rdO false T i with
  | some (v,j)=>(match rdA T n j with | some l=>some (v :: l) | none=>none)
  | none=>none:=by rw [rdA,if_neg (by omega)]
theorem toks_mem:∀(n:Nat) (l:List UInt8),l.length≤n→∀t,t∈toks l→t≠[]∧t.length≤l.length
 | 0,l,h=>by
  obtain rfl:=l_ (by omega:l.length=0)
  rw [toks_nil];simp
 | n+1,[],h=>by rw [toks_nil];simp
 | n + 1,c :: r,h=>by
  intro t ht
  rw [toks_cons] at ht
  simp only [j_] at h ⊢
  have h4:=dropWhile_le noNl r
  have h5:=dropWhile_le noBr r
  split at ht
  ·have:=toks_mem n r (by omega) t ht;exact ⟨this.1,by omega⟩
  ·split at ht
   ·have:=toks_mem n _ (by omega) t ht;exact ⟨this.1,by omega⟩
   ·split at ht
    ·rcases List.mem_cons.1 ht with rfl | ht
     ·simp
     ·have:=toks_mem n r (by omega) t ht;exact ⟨this.1,by omega⟩
    ·rcases List.mem_cons.1 ht with rfl | ht
     ·have:=(List.takeWhile_prefix (p:=noBr) (l:=r)).length_le
      simp;omega
     ·have:=toks_mem n _ (by omega) t ht;exact ⟨this.1,by omega⟩
theorem tokV_mem {s:List UInt8} {T:List (List UInt8)} (h:tokV s=some T):T.length≤20000∧∀t,t∈T→t≠[]∧t.length≤100000:=by
 unfold tokV at h
 split at h
 ·rename_i hc
  cases h
  exact ⟨hc.2.2,fun t ht=>by have:=toks_mem _ _ (b_ _) t ht;exact ⟨this.1,by omega⟩⟩
 ·cases h
theorem dec_len64 {n:Int} (h0:-9223372036854775808≤n) (h1:n≤9223372036854775807):(dec n).length≤21:=Lib.itoa_length_le n (by omega) (by omega)
theorem pInt_negD {l T:List UInt8} (h:l=45 :: T) {n:Int} (hp:pInt l=some n):n<0∧T=Lib.decDigits n.natAbs:=by
 obtain ⟨e,h0,h1⟩:=pInt_some hp
 by_cases hn:n<0
 ·rw [dec_neg hn,h] at e
  exact ⟨hn,(List.cons.inj e).2.symm⟩
 ·exfalso
  rw [dec_pos (by omega),h] at e
  obtain ⟨c,r,e1,e2,e3⟩:=decDigits_first _ n.toNat (b_ _)
  rw [e1] at e
  have:=(List.cons.inj e).1
  rw [this] at e2
  have h45:(45:UInt8).toNat=45:=rfl
  omega
theorem pInt_posD {l:List UInt8} (h:∀T,l≠45 :: T) {n:Int} (hp:pInt l=some n):0≤n∧l=Lib.decDigits n.natAbs:=by
 obtain ⟨e,h0,h1⟩:=pInt_some hp
 by_cases hn:n<0
 ·rw [dec_neg hn] at e
  exact absurd e.symm (h _)
 ·rw [dec_pos (by omega)] at e
  refine ⟨by omega,?_⟩
  rw [←e];congr 1;omega
theorem digs_lenk:∀(k u:Nat),u<10 ^ (k+1)→1≤(Lib.decDigits u).length∧(Lib.decDigits u).length≤k+1
 | 0,u,h=>by
  rw [Lib.decDigits,dif_pos (by omega)];simp
 | k+1,u,h=>by
  rw [Lib.decDigits]
  split
  ·simp
  ·have:=digs_lenk k (u / 10) (by rw [Nat.pow_succ] at h;omega)
   simp only [List.length_append,j_,List.length_nil]
   omega
theorem digs_len {u:Nat} (h:u≤9223372036854775808):1≤(Lib.decDigits u).length∧(Lib.decDigits u).length≤19:=digs_lenk 18 u (by omega)
theorem take_snoc {α:Type} {T:List α} {i:Nat} {c:α} (h:T[i]? = some c):T.take (i+1)=T.take i++[c]:=by
 rw [List.take_add_one,h];rfl
theorem dig_step {T:List UInt8} {u:Nat} (hT:T=Lib.decDigits u) {i:Nat} {c:UInt8} (hc:T[i]? = some c):48≤c.toNat∧c.toNat≤57∧digV (T.take (i+1))=digV (T.take i) * 10+(c.toNat - 48)∧digV (T.take (i+1))≤u:=by
 have h1:=dec_all u u (b_ _) c (by rw [←hT];exact List.mem_of_getElem? hc)
 refine ⟨h1.1,h1.2,by rw [take_snoc hc,digV_snoc],?_⟩
 have h2:=digV_mono (T.take (i+1)) (T.drop (i+1))
 rw [List.take_append_drop,hT,digV_dec u u (b_ _),←hT] at h2
 exact h2
theorem quo_neg {x:Int} (h:x≤0):x.tdiv 10=-((-x) / 10):=by
 obtain ⟨m,rfl⟩:∃m:Nat,x=-(m:Int):=⟨x.natAbs,by omega⟩
 rw [Int.neg_tdiv,Int.tdiv_eq_ediv_of_nonneg (by omega)]
 simp
structure Rdg (l T:List UInt8) (i:Nat) (acc:Int):Prop where
 lo:-9223372036854775808≤acc
 hi:acc≤0
 is:∀n,pInt l=some n→acc=-(digV (T.take i):Int)
theorem Rdg.bad {l T:List UInt8} {i:Nat} {acc:Int} (h:Rdg l T i acc) (hT:∀n,pInt l=some n→T=Lib.decDigits n.natAbs) {c:UInt8} (hc:T[i]? = some c)
  (hb:¬((0:Int)≤(c.toNat:Int) - 48∧(c.toNat:Int) - 48≤9)∨acc<(-9223372036854775808+((c.toNat:Int) - 48)).tdiv 10):pInt l=none:=by
 cases hp:pInt l with
 | none=>rfl
 | some n =>
  exfalso
  obtain ⟨_,b0,b1⟩:=pInt_some hp
  obtain ⟨h1,h2,h3,h4⟩:=dig_step (hT n hp) hc
  have h5:=h.is n hp
  rcases hb with hb | hb
  ·omega
  ·rw [quo_neg (by omega)] at hb
   omega
theorem Rdg.next {l T:List UInt8} {i:Nat} {acc:Int} (h:Rdg l T i acc) (hT:∀n,pInt l=some n→T=Lib.decDigits n.natAbs) {c:UInt8} (hc:T[i]? = some c)
  (h0:(0:Int)≤(c.toNat:Int) - 48) (h9:(c.toNat:Int) - 48≤9) (hq:¬acc<(-9223372036854775808+((c.toNat:Int) - 48)).tdiv 10) :
  Rdg l T (i+1) (acc * 10 - ((c.toNat:Int) - 48)):=by
 have hlo:=h.lo;have hhi:=h.hi
 rw [quo_neg (by omega)] at hq
 refine ⟨by omega,by omega,fun n hp=>?_⟩
 obtain ⟨h1,h2,h3,h4⟩:=dig_step (hT n hp) hc
 have h5:=h.is n hp
 rw [h3,h5]
 omega
theorem Rdg.done {l T:List UInt8} {acc:Int} (h:Rdg l T T.length acc) (hT:∀n,pInt l=some n→T=Lib.decDigits n.natAbs):∀n,pInt l=some n→acc=-(n.natAbs:Int):=fun n hp=>by
 have h1:=h.is n hp
 rw [List.take_length] at h1
 have h2:=hT n hp
 rw [h1]
 have h3:digV T=n.natAbs:=by rw [h2,digV_dec _ _ (b_ _)]
 rw [h3]
@[go_sem] theorem tk_40_41:(([40]:List UInt8)=[41])=False:=by simp
@[go_sem] theorem tk_40_46:(([40]:List UInt8)=[46])=False:=by simp
@[go_sem] theorem tk_41_40:(([41]:List UInt8)=[40])=False:=by simp
@[go_sem] theorem tk_41_46:(([41]:List UInt8)=[46])=False:=by simp
@[go_sem] theorem tk_46_41:(([46]:List UInt8)=[41])=False:=by simp
end Go.Abs
