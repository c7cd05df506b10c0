import Derived.Test.YtehkgphockcjdaaGreatA5
import Derived.Test.YtehkgphockcjdaaGreatA6
open List renaming flatMap_cons→a_,mem_cons→b_,map_cons→c_,length_cons→d_,getElem?_eq_some_iff→f_,pairwise_cons→g_,mem_map→h_,cons_append→i_,all_eq_true→j_,foldl_cons→k_,length_append→l_,pairwise_iff_getElem→m_,mem_iff_getElem?→p_,all_cons→q_,map_nil→s_,take_append_drop→t_
open Bool renaming and_eq_true→e_,true_and→n_,and_self→o_,beq_eq_decide_eq→u_
open Nat renaming le_refl→r_
set_option linter.unusedVariables false
set_option linter.unusedSimpArgs false
namespace Go.Abs
def byteAt (s:List UInt8) (i:Nat):Int:=((s[i]?.getD 0).toNat:Int)
def okAt (s:List UInt8) (i:Nat):Bool:=
 (decide (97≤byteAt s i) && decide (byteAt s i≤122)) || (i != 0 && (byteAt s i == 45 || (decide (48≤byteAt s i) && decide (byteAt s i≤57))))
def isName (s:List UInt8):Bool:=(List.range s.length).all (okAt s) && decide (1≤s.length) && decide (s.length≤12)
theorem isName_bad {s:List UInt8} {i:Nat} (hi:i<s.length) (h:okAt s i=false):isName s=false:=by
 unfold isName
 have:(List.range s.length).all (okAt s)=false:=by
  rw [List.all_eq_false]
  exact ⟨i,by simp [hi],by simp [h]⟩
 simp [this]
theorem isName_end {s:List UInt8} (h:∀j,j<s.length→okAt s j=true):isName s=(decide (1≤s.length) && decide (s.length≤12)):=by
 unfold isName
 rw [j_.2 (fun j hj=>h j (by simpa using hj)),n_]
theorem isName_len {s:List UInt8} (h:isName s=true):1≤s.length∧s.length≤12:=by
 unfold isName at h
 simp at h;omega
inductive V where
 | nil
 | var (n:Int)
 | sym (s:List UInt8)
 | num (n:Int)
 | pair (a b:V)
deriving DecidableEq
namespace V
def tm:V→Tm
 | nil=>.mk 0 0 [] []
 | var n=>.mk 1 n [] []
 | sym s=>.mk 2 0 s []
 | num n=>.mk 3 n [] []
 | pair a b=>.mk 4 0 [] [a.tm,b.tm]
def size:V→Nat
 | pair a b=>1+a.size+b.size
 | _=>1
theorem size_pos:∀v:V,1≤v.size
 | nil=>r_ _
 | var _=>r_ _
 | sym _=>r_ _
 | num _=>r_ _
 | pair a b=>by simp only [size];omega
def enc (v:V):List D:=v.tm.enc
theorem enc_nil:enc nil=[.int .i64 0,.int .i64 0,.str [],.sl []]:=rfl
theorem enc_var (n:Int):enc (var n)=[.int .i64 1,.int .i64 n,.str [],.sl []]:=rfl
theorem enc_sym (s:List UInt8):enc (sym s)=[.int .i64 2,.int .i64 0,.str s,.sl []]:=rfl
theorem enc_num (n:Int):enc (num n)=[.int .i64 3,.int .i64 n,.str [],.sl []]:=rfl
theorem enc_pair (a b:V):enc (pair a b)=[.int .i64 4,.int .i64 0,.str [],.sl [a.enc,b.enc]]:=rfl
theorem enc_len (v:V):v.enc.length=4:=Tm.enc_len _
def kind:V→Int
 | nil=>0 | var _=>1 | sym _=>2 | num _=>3 | pair _ _=>4
def int:V→Int
 | var n=>n | num n=>n | _=>0
def name:V→List UInt8
 | sym s=>s | _=>[]
def kids:V→List V
 | pair a b=>[a,b] | _=>[]
theorem enc_eq (v:V):v.enc=[.int .i64 v.kind,.int .i64 v.int,.str v.name,.sl (v.kids.map enc)]:=by cases v<;>rfl
theorem enc_at0 (t:V):(V.enc t)[0]? = some (.int .i64 t.kind):=by rw [enc_eq];rfl
theorem enc_at1 (t:V):(V.enc t)[1]? = some (.int .i64 t.int):=by rw [enc_eq];rfl
theorem enc_at2 (t:V):(V.enc t)[2]? = some (.str t.name):=by rw [enc_eq];rfl
theorem enc_at3 (t:V):(V.enc t)[3]? = some (.sl (t.kids.map enc)):=by rw [enc_eq];rfl
theorem enc_pt0 (t:V):((V.enc t).drop 0).take 1=[.int .i64 t.kind]:=by rw [enc_eq];rfl
theorem enc_pt0' (t:V):(V.enc t).take 1=[.int .i64 t.kind]:=by rw [enc_eq];rfl
theorem enc_pt1 (t:V):((V.enc t).drop 1).take 1=[.int .i64 t.int]:=by rw [enc_eq];rfl
theorem enc_pt2 (t:V):((V.enc t).drop 2).take 1=[.str t.name]:=by rw [enc_eq];rfl
theorem enc_pt3 (t:V):((V.enc t).drop 3).take 1=[.sl (t.kids.map enc)]:=by rw [enc_eq];rfl
theorem encS:type_of% (And.intro enc_len <| And.intro enc_at0 <| And.intro enc_at1 <| And.intro enc_at2 <| And.intro enc_at3 <| And.intro enc_pt0 <| And.intro enc_pt0' <| And.intro enc_pt1 <| And.intro enc_pt2 <| enc_pt3):=And.intro enc_len <| And.intro enc_at0 <| And.intro enc_at1 <| And.intro enc_at2 <| And.intro enc_at3 <| And.intro enc_pt0 <| And.intro enc_pt0' <| And.intro enc_pt1 <| And.intro enc_pt2 <| enc_pt3
end V
attribute [go_sem] V.enc_len V.enc_at0 V.enc_at1 V.enc_at2 V.enc_at3 V.enc_pt0 V.enc_pt0' V.enc_pt1 V.enc_pt2 V.enc_pt3
def mkV (k i:Int) (n:List UInt8) (l:List (Option V)):Option V:=
 if k=4 then (if i=0∧n=[] then (match l with | [some a,some b]=>some (.pair a b) | _=>none) else none)
 else if l≠[] then none
 else if k=0 then (if i=0∧n=[] then some .nil else none)
 else if k=1 then (if 0≤i∧i≤100000∧n=[] then some (.var i) else none)
 else if k=2 then (if i=0∧isName n=true then some (.sym n) else none)
 else if k=3 then (if -1000000000≤i∧i≤1000000000∧n=[] then some (.num i) else none)
 else none
mutual
def Tm.v?:Tm→Option V
 | .mk k i n as=>mkV k i n (Tm.vs? as)
def Tm.vs?:List Tm→List (Option V)
 | []=>[]
 | t :: r=>Tm.v? t :: Tm.vs? r
end
theorem Tm.vs?_eq:∀l:List Tm,Tm.vs? l=l.map Tm.v?
 | []=>by simp only [Tm.vs?,s_]
 | t :: r=>by simp only [Tm.vs?,c_,Tm.vs?_eq r]
theorem Tm.v?_mk (k i:Int) (n:List UInt8) (as:List Tm):(Tm.mk k i n as).v? = mkV k i n (as.map Tm.v?):=by
 simp only [Tm.v?,Tm.vs?_eq]
theorem map_two {α β:Type} {f:α→β}:∀{l:List α} {a b:β},l.map f=[a,b]→∃x y,l=[x,y]∧f x=a∧f y=b
 | [],_,_,h=>by simp at h
 | [x],_,_,h=>by simp at h
 | [x,y],_,_,h=>by simp at h;exact ⟨x,y,rfl,h⟩
 | _ :: _ :: _ :: _,_,_,h=>by simp at h
theorem mkV_some {k i:Int} {n:List UInt8} {as:List Tm} {v:V} (ih:∀x,x∈as→∀v,x.v? = some v→x=v.tm) (h:mkV k i n (as.map Tm.v?)=some v):Tm.mk k i n as=v.tm:=by
 unfold mkV at h
 split at h
 ·rename_i hk
  split at h
  ·rename_i hin
   obtain ⟨rfl,rfl⟩:=hin
   split at h
   ·rename_i a b hl
    cases h
    obtain ⟨x,y,rfl,h1,h2⟩:=map_two hl
    rw [ih x (by simp) a h1,ih y (by simp) b h2,hk];rfl
   ·cases h
  ·cases h
 ·split at h
  ·cases h
  ·rename_i hl
   have:as=[]:=by cases as<;>simp_all
   subst this
   split at h
   ·split at h
    ·rename_i hc;obtain ⟨rfl,rfl⟩:=hc;cases h;simp_all [V.tm]
    ·cases h
   ·split at h
    ·split at h
     ·rename_i hc;obtain ⟨_,_,rfl⟩:=hc;cases h;simp_all [V.tm]
     ·cases h
    ·split at h
     ·split at h
      ·rename_i hc;obtain ⟨rfl,_⟩:=hc;cases h;simp_all [V.tm]
      ·cases h
     ·split at h
      ·split at h
       ·rename_i hc;obtain ⟨_,_,rfl⟩:=hc;cases h;simp_all [V.tm]
       ·cases h
      ·cases h
theorem Tm.of_v?:∀(t:Tm) (v:V),t.v? = some v→t=v.tm:=by
 intro t
 induction t using Tm.ind with
 | h k i n as ih =>
  intro v h
  rw [Tm.v?_mk] at h
  exact mkV_some ih h
def V.fine:V→Bool
 | .nil=>true
 | .var n=>decide (0≤n∧n≤100000)
 | .sym s=>isName s
 | .num n=>decide (-1000000000≤n∧n≤1000000000)
 | .pair a b=>a.fine && b.fine
theorem V.v?_tm:∀v:V,v.fine=true→v.tm.v? = some v
 | .nil,_=>by simp [V.tm,Tm.v?_mk,mkV]
 | .var n,h=>by simp [V.fine] at h;simp [V.tm,Tm.v?_mk,mkV,h]
 | .sym s,h=>by simp [V.fine] at h;simp [V.tm,Tm.v?_mk,mkV,h]
 | .num n,h=>by simp [V.fine] at h;simp [V.tm,Tm.v?_mk,mkV,h]
 | .pair a b,h=>by
  simp [V.fine] at h
  simp [V.tm,Tm.v?_mk,mkV,V.v?_tm a h.1,V.v?_tm b h.2]
theorem Tm.fine_of:∀(t:Tm) (v:V),t.v? = some v→v.fine=true:=by
 intro t
 induction t using Tm.ind with
 | h k i n as ih =>
  intro v h
  rw [Tm.v?_mk] at h
  unfold mkV at h
  split at h
  ·split at h
   ·split at h
    ·rename_i a b hl
     cases h
     obtain ⟨x,y,rfl,h1,h2⟩:=map_two hl
     simp [V.fine,ih x (by simp) a h1,ih y (by simp) b h2]
    ·cases h
   ·cases h
  ·split at h
   ·cases h
   ·split at h
    ·split at h
     ·cases h;rfl
     ·cases h
    ·split at h
     ·split at h
      ·rename_i hc;cases h;simp [V.fine,hc]
      ·cases h
     ·split at h
      ·split at h
       ·rename_i hc;cases h;simp [V.fine,hc]
       ·cases h
      ·split at h
       ·split at h
        ·rename_i hc;cases h;simp [V.fine,hc]
        ·cases h
       ·cases h
def nodes (t:Tm) (room:Int):Int:=match t.v? with
 | some v=>if (v.size:Int)≤room then v.size else -1
 | none=>-1
def Tm.ok? (t:Tm):Option V:=match t.v? with
 | some v=>if v.size≤5000 then some v else none
 | none=>none
def tmOk (t:Tm):Bool:=t.ok?.isSome
theorem nodes_lt {t:Tm} {room:Int} (h:room<1):nodes t room=-1:=by
 unfold nodes
 split
 ·rename_i v _
  have:=v.size_pos
  rw [if_neg (by omega)]
 ·rfl
theorem nodes_kids (k i:Int) (n:List UInt8) (a b:Tm) {room:Int} (hk:k=4) (hi:i=0) (hn:n=[]) (h:1≤room) :
  nodes (.mk k i n [a,b]) room=if nodes a (room - 1)<0 then -1 else if nodes b (room - 1 - nodes a (room - 1))<0 then -1 else 1+nodes a (room - 1)+nodes b (room - 1 - nodes a (room - 1)):=by
 subst hk hi hn
 unfold nodes
 rw [Tm.v?_mk]
 simp only [mkV,if_pos,and_self,c_,s_]
 cases ha:a.v? with
 | none=>simp
 | some x =>
  cases hb:b.v? with
  | none=>simp
  | some y =>
   have:=x.size_pos
   have:=y.size_pos
   simp only [V.size]
   repeat' split
   all_goals omega
theorem nodes_ge {t:Tm} {room:Int}:nodes t room=-1∨(1≤nodes t room∧nodes t room≤room):=by
 unfold nodes
 split
 ·rename_i v _
  have:=v.size_pos
  split<;>omega
 ·exact .inl rfl
theorem ite_nodes (c:Prop) [Decidable c] (v:V) {room:Int} (hs:v.size=1) (h:1≤room) :
  (match (if c then some v else none:Option V) with | some v=>if (v.size:Int)≤room then (v.size:Int) else -1 | none=>-1)=if c then 1 else -1:=by
 by_cases hc:c
 ·simp only [if_pos hc,hs];rw [if_pos (by omega)];rfl
 ·simp only [if_neg hc]
theorem nodes_leaf (k i:Int) (n:List UInt8) (as:List Tm) {room:Int} (hk:k≠4) (h:1≤room) :
  nodes (.mk k i n as) room=if as≠[] then -1 else if k=0 then (if i=0∧n=[] then 1 else -1) else if k=1 then (if 0≤i∧i≤100000∧n=[] then 1 else -1)
   else if k=2 then (if i=0∧isName n=true then 1 else -1) else if k=3 then (if -1000000000≤i∧i≤1000000000∧n=[] then 1 else -1) else -1:=by
 unfold nodes
 rw [Tm.v?_mk]
 simp only [mkV,if_neg hk]
 by_cases ha:as=[]
 ·subst ha
  simp only [s_,ne_eq,not_true_eq_false,if_false]
  by_cases h0:k=0
  ·simp only [if_pos h0];exact ite_nodes _ _ rfl h
  ·simp only [if_neg h0]
   by_cases h1:k=1
   ·simp only [if_pos h1];exact ite_nodes _ _ rfl h
   ·simp only [if_neg h1]
    by_cases h2:k=2
    ·simp only [if_pos h2];exact ite_nodes _ _ rfl h
    ·simp only [if_neg h2]
     by_cases h3:k=3
     ·simp only [if_pos h3];exact ite_nodes _ _ rfl h
     ·simp only [if_neg h3]
 ·rw [if_pos (by simpa using ha),if_pos ha]
theorem nodes_bad (k i:Int) (n:List UInt8) (as:List Tm) {room:Int} (hk:k=4) (h:i≠0∨n≠[]∨as.length≠2):nodes (.mk k i n as) room=-1:=by
 unfold nodes
 rw [Tm.v?_mk]
 simp only [mkV,if_pos hk]
 have:(if i=0∧n=[] then (match as.map Tm.v? with | [some a,some b]=>some (V.pair a b) | _=>none) else none)=none:=by
  split
  ·split
   ·rename_i hl
    obtain ⟨x,y,rfl,_⟩:=map_two hl
    simp_all
   ·rfl
  ·rfl
 rw [this]
theorem Tm.ind' {Q:Tm→Prop} (h:∀t:Tm,(∀x,x∈t.args→Q x)→Q t):∀t,Q t:=by
 intro t
 induction t using Tm.ind with
 | h k i n as ih=>exact h _ ih
theorem nodes_leaf' (t:Tm) {room:Int} (hk:t.kind≠4) (h:1≤room) :
  nodes t room=if t.args≠[] then -1 else if t.kind=0 then (if t.int=0∧t.name=[] then 1 else -1) else if t.kind=1 then (if 0≤t.int∧t.int≤100000∧t.name=[] then 1 else -1)
   else if t.kind=2 then (if t.int=0∧isName t.name=true then 1 else -1) else if t.kind=3 then (if -1000000000≤t.int∧t.int≤1000000000∧t.name=[] then 1 else -1) else -1:=by
 cases t;exact nodes_leaf _ _ _ _ hk h
theorem nodes_bad' (t:Tm) {room:Int} (hk:t.kind=4) (h:t.int≠0∨t.name≠[]∨t.args.length≠2):nodes t room=-1:=by
 cases t;exact nodes_bad _ _ _ _ hk h
theorem nodes_kids' (t a b:Tm) (ha:t.args=[a,b]) {room:Int} (hk:t.kind=4) (hi:t.int=0) (hn:t.name=[]) (h:1≤room) :
  nodes t room=if nodes a (room - 1)<0 then -1 else if nodes b (room - 1 - nodes a (room - 1))<0 then -1 else 1+nodes a (room - 1)+nodes b (room - 1 - nodes a (room - 1)):=by
 cases t
 simp only [Tm.args] at ha
 subst ha
 exact nodes_kids _ _ _ _ _ hk hi hn h
theorem name_wt (t:Tm):t.name.length≤wtL t.enc:=by
 rw [Tm.enc_eq];simp only [wtL,D.wt];omega
theorem nodes_ok (t:Tm):decide (0<nodes t 5000)=tmOk t:=by
 unfold nodes tmOk Tm.ok?
 cases h:t.v? with
 | none=>simp
 | some v =>
  have:=v.size_pos
  simp only
  by_cases h5:v.size≤5000
  ·simp only [if_pos h5,if_pos (show (v.size:Int)≤5000 by omega)];simp;omega
  ·simp only [if_neg h5,if_neg (show ¬(v.size:Int)≤5000 by omega)];simp
mutual
def countF:Tm→Int→Int
 | .mk _ _ _ as,most=>countL as most 1
def countL:List Tm→Int→Int→Int
 | [],_,n=>n
 | t :: r,most,n=>if n > most then n else countL r most (n+countF t (most - n))
end
mutual
def Tm.cnt:Tm→Nat
 | .mk _ _ _ as=>1+Tm.cnts as
def Tm.cnts:List Tm→Nat
 | []=>0
 | t :: r=>Tm.cnt t+Tm.cnts r
end
theorem count_spec:(∀(t:Tm) (most:Int),1≤countF t most∧countF t most≤t.cnt∧((t.cnt:Int)≤most→countF t most=t.cnt)∧(most<t.cnt→most<countF t most)):=by
 intro t
 induction t using Tm.ind with
 | h k i nm as ih =>
  have key:∀(l:List Tm),(∀x,x∈l→x∈as)→∀(most n:Int),n≤countL l most n∧countL l most n≤n+Tm.cnts l∧(n+Tm.cnts l≤most→countL l most n=n+Tm.cnts l)∧(most<n+Tm.cnts l→most<countL l most n):=by
   intro l
   induction l with
   | nil=>intro _ most n;simp only [countL,Tm.cnts];omega
   | cons t r ihr =>
    intro hl most n
    have h1:=ih t (hl t (by simp)) (most - n)
    have h2:=ihr (fun x hx=>hl x (by simp [hx])) most (n+countF t (most - n))
    simp only [countL,Tm.cnts]
    split<;>omega
  intro most
  have:=key as (fun x hx=>hx) most 1
  simp only [countF,Tm.cnt]
  omega
theorem cnt_of_v?:∀(t:Tm) (v:V),t.v? = some v→t.cnt=v.size:=by
 intro t v h
 have:=Tm.of_v? t v h
 subst this
 clear h
 induction v with
 | pair a b iha ihb=>simp [V.tm,Tm.cnt,Tm.cnts,V.size,iha,ihb];omega
 | _=>rfl
theorem count_ok (t:Tm):(decide (countF t 5000≤5000) && t.v?.isSome)=tmOk t:=by
 have h:=count_spec t 5000
 unfold tmOk Tm.ok?
 cases hv:t.v? with
 | none=>simp
 | some v =>
  have:=cnt_of_v? t v hv
  simp only [Option.isSome_some,Bool.and_true]
  by_cases h5:v.size≤5000
  ·rw [if_pos h5];simp;omega
  ·rw [if_neg h5];simp;omega
theorem cnts_le_wt:∀t:Tm,(∀n,n=t→t.cnt≤1+wtL t.enc):=by
 intro t
 induction t using Tm.ind with
 | h k i n as ih =>
  intro _ _
  have key:∀(l:List Tm),(∀x,x∈l→x∈as)→Tm.cnts l≤wtR (l.map Tm.enc):=by
   intro l
   induction l with
   | nil=>intro _;simp [Tm.cnts,wtR]
   | cons t r ihr =>
    intro hl
    have h1:=ih t (hl t (by simp)) t rfl
    have h2:=ihr (fun x hx=>hl x (by simp [hx]))
    simp only [Tm.cnts,c_,wtR]
    omega
  have:=key as (fun x hx=>hx)
  simp only [Tm.cnt,Tm.enc_eq,wtL,D.wt,Tm.args,Tm.name]
  omega
theorem cnt_le_wt (t:Tm):t.cnt≤1+wtL t.enc:=cnts_le_wt t t rfl
theorem wt_args {t x:Tm} (h:x∈t.args):wtL x.enc<wtL t.enc:=by
 have:=wtL_lt (t.args.map Tm.enc) x.enc (h_.2 ⟨x,h,rfl⟩)
 simp only [Tm.enc_eq t,wtL,D.wt]
 omega
theorem shape_mk (k i:Int) (n:List UInt8) (as:List Tm):(Tm.mk k i n as).v?.isSome =
  if k≠1∧k≠3∧i≠0∨k≠2∧n≠[]∨k≠4∧0<as.length then false
  else if k=0 then true else if k=1 then (decide (0≤i) && decide (i≤100000)) else if k=2 then isName n
  else if k=3 then (decide (-1000000000≤i) && decide (i≤1000000000)) else if k=4 then (match as with | [a,b]=>a.v?.isSome && b.v?.isSome | _=>false) else false:=by
 rw [Tm.v?_mk]
 unfold mkV
 by_cases h4:k=4
 ·subst h4
  simp only [if_pos]
  by_cases hin:i=0∧n=[]
  ·obtain ⟨rfl,rfl⟩:=hin
   simp
   match as with
   | []=>rfl
   | [a]=>simp
   | [a,b]=>simp;cases a.v?<;>cases b.v?<;>simp
   | a :: b :: c :: r=>simp
  ·rw [if_neg hin,if_pos];rfl
   by_cases h0:i=0
   ·exact .inr (.inl ⟨by omega,fun h=>hin ⟨h0,h⟩⟩)
   ·exact .inl ⟨by omega,by omega,h0⟩
 ·rw [if_neg h4]
  by_cases ha:as=[]
  ·subst ha
   simp
   by_cases h0:k=0
   ·subst h0;simp;split<;>simp_all
   ·by_cases h1:k=1
    ·subst h1;simp;split<;>simp_all<;>(intro h1 h2;apply Int.not_le.1;intro h3;simp_all)
    ·by_cases h2:k=2
     ·subst h2;simp;split<;>simp_all
     ·by_cases h3:k=3
      ·subst h3;simp;split<;>simp_all<;>(intro h1 h2;apply Int.not_le.1;intro h3;simp_all)
      ·simp [*]
  ·have:0<as.length:=by cases as<;>simp_all
   rw [if_pos (by simpa using ha),if_pos (.inr (.inr ⟨h4,this⟩))];rfl
theorem shape_bad (t:Tm) (h:t.kind≠1∧t.kind≠3∧t.int≠0∨t.kind≠2∧t.name≠[]∨t.kind≠4∧0<t.args.length):t.v?.isSome=false:=by
 cases t;simp only [Tm.kind,Tm.int,Tm.name,Tm.args] at h;rw [shape_mk,if_pos h]
theorem shape_leaf (t:Tm) (h:¬(t.kind≠1∧t.kind≠3∧t.int≠0∨t.kind≠2∧t.name≠[]∨t.kind≠4∧0<t.args.length)) (hk:t.kind≠4) :
  t.v?.isSome=if t.kind=0 then true else if t.kind=1 then (decide (0≤t.int) && decide (t.int≤100000)) else if t.kind=2 then isName t.name
  else if t.kind=3 then (decide (-1000000000≤t.int) && decide (t.int≤1000000000)) else false:=by
 cases t;simp only [Tm.kind,Tm.int,Tm.name,Tm.args] at h hk ⊢
 rw [shape_mk,if_neg h]
 simp only [if_neg hk];rfl
theorem shape_pair (t:Tm) (h:¬(t.kind≠1∧t.kind≠3∧t.int≠0∨t.kind≠2∧t.name≠[]∨t.kind≠4∧0<t.args.length)) (hk:t.kind=4) :
  (t.args.length≠2→t.v?.isSome=false)∧∀a b,t.args=[a,b]→t.v?.isSome=(a.v?.isSome && b.v?.isSome):=by
 cases t;simp only [Tm.kind,Tm.int,Tm.name,Tm.args] at h hk ⊢
 rw [shape_mk,if_neg h]
 subst hk
 refine ⟨fun h2=>?_,fun a b hab=>?_⟩
 ·simp
  split
  ·simp at h2
  ·rfl
 ·subst hab;simp
theorem ok?_tm {t:Tm} {v:V} (h:t.ok? = some v):t=v.tm:=by
 unfold Tm.ok? at h
 cases hv:t.v? with
 | none=>simp [hv] at h
 | some v' =>
  simp only [hv] at h
  split at h
  ·cases h;exact Tm.of_v? t v hv
  ·cases h
def V.ok (v:V):Bool:=v.fine && decide (v.size≤5000)
theorem ok?_ok {t:Tm} {v:V} (h:t.ok? = some v):v.ok=true:=by
 unfold Tm.ok? at h
 cases hv:t.v? with
 | none=>simp [hv] at h
 | some v' =>
  simp only [hv] at h
  split at h
  ·cases h;simp [V.ok,Tm.fine_of t v hv];assumption
  ·cases h
theorem tmOk_of {t:Tm} (h:tmOk t=true):∃v:V,t=v.tm∧v.ok=true:=by
 unfold tmOk at h
 obtain ⟨v,hv⟩:=Option.isSome_iff_exists.1 h
 exact ⟨v,ok?_tm hv,ok?_ok hv⟩
theorem enc_tms (vs:List V):(vs.map V.tm).map Tm.enc=vs.map V.enc:=by simp [V.enc]
def ordInt (a b:Int):Int:=if a<b then -1 else if a > b then 1 else 0
def V.cmp (a b:V):Int:=
 if a.kind≠b.kind then (if a.kind<b.kind then -1 else 1)
 else if a.int≠b.int then (if a.int<b.int then -1 else 1)
 else if a.name≠b.name then (if Op.bytesLess a.name b.name then -1 else 1)
 else match a,b with
  | .pair a1 a2,.pair b1 b2=>if V.cmp a1 b1≠0 then V.cmp a1 b1 else V.cmp a2 b2
  | _,_=>0
def V.cmpL:List V→List V→Int
 | a :: r,b :: q=>if V.cmp a b≠0 then V.cmp a b else V.cmpL r q
 | l,m=>ordInt l.length m.length
theorem V.pair_or (v:V):(∃x y,v=.pair x y)∨(v.kind≠4∧v.kids=[]):=by
 cases v<;>simp [V.kind,V.kids]
theorem V.cmp_pair (a1 a2 b1 b2:V):V.cmp (.pair a1 a2) (.pair b1 b2)=if V.cmp a1 b1≠0 then V.cmp a1 b1 else V.cmp a2 b2:=by
 rw [V.cmp];simp [V.kind,V.int,V.name]
theorem V.cmp_else {a b:V} (h:a.kind≠4∨b.kind≠4):V.cmp a b=if a.kind≠b.kind then (if a.kind<b.kind then -1 else 1)
 else if a.int≠b.int then (if a.int<b.int then -1 else 1)
 else if a.name≠b.name then (if Op.bytesLess a.name b.name then -1 else 1) else 0:=by
 rw [V.cmp.eq_def]
 congr 1
 congr 1
 congr 1
 cases a<;>cases b<;>simp_all [V.kind]
theorem V.cmpL_nil_left (l:List V):V.cmpL [] l=ordInt 0 l.length:=by cases l<;>simp [V.cmpL]
theorem V.cmpL_nil_right (l:List V):V.cmpL l []=ordInt l.length 0:=by cases l<;>simp [V.cmpL]
theorem V.cmpL_cons (a b:V) (r q:List V):V.cmpL (a :: r) (b :: q)=if V.cmp a b≠0 then V.cmp a b else V.cmpL r q:=by rw [V.cmpL]
def cmpFact (r:List UInt8) (a:List V) (q:List UInt8) (b:List V):Int:=
 if r≠q then (if Op.bytesLess r q then -1 else 1) else V.cmpL a b
def reserved:List (List UInt8):=[[116,114,117,101],[102,97,105,108],[115,121,109,98,111,108],[110,117,109,98,101,114],[97,98,115,101,110,116],[97,110,100],[111,114],[110,111,116],[100,101,102,105,110,101]]
def isRel (s:List UInt8):Bool:=!reserved.contains s && isName s
theorem Gl.ind' {Q:Gl→Prop} (h:∀t:Gl,(∀x,x∈t.goals→Q x)→Q t):∀t,Q t:=by
 intro t
 induction t using Gl.ind with
 | h a b c d ih=>exact h _ ih
theorem Gl.wt_goals {t x:Gl} (h:x∈t.goals):wtL x.enc<wtL t.enc:=by
 have:=wtL_lt (t.goals.map Gl.enc) x.enc (h_.2 ⟨x,h,rfl⟩)
 simp only [Gl.enc_eq t,wtL,D.wt]
 omega
theorem Gl.wt_terms {t:Gl} {x:Tm} (h:x∈t.terms):wtL x.enc<wtL t.enc:=by
 have:=wtL_lt (t.terms.map Tm.enc) x.enc (h_.2 ⟨x,h,rfl⟩)
 simp only [Gl.enc_eq t,wtL,D.wt]
 omega
theorem Gl.wt_name (t:Gl):t.name.length≤wtL t.enc:=by
 rw [Gl.enc_eq];simp only [wtL,D.wt];omega
mutual
def Gl.countF:Gl→Int→Int
 | .mk _ _ _ gs,most=>Gl.countL gs most 1
def Gl.countL:List Gl→Int→Int→Int
 | [],_,n=>n
 | t :: r,most,n=>if n > most then n else Gl.countL r most (n+Gl.countF t (most - n))
end
theorem Gl.countF_eq (g:Gl) (most:Int):g.countF most=Gl.countL g.goals most 1:=by cases g;simp only [Gl.countF,Gl.goals]
mutual
def Gl.cnt:Gl→Nat
 | .mk _ _ _ gs=>1+Gl.cnts gs
def Gl.cnts:List Gl→Nat
 | []=>0
 | t :: r=>Gl.cnt t+Gl.cnts r
end
theorem Gl.cnt_eq (g:Gl):g.cnt=1+Gl.cnts g.goals:=by cases g;simp only [Gl.cnt,Gl.goals]
theorem Gl.cnt_pos (g:Gl):1≤g.cnt:=by rw [Gl.cnt_eq];omega
theorem Gl.count_spec:(∀(t:Gl) (most:Int),1≤t.countF most∧t.countF most≤t.cnt∧((t.cnt:Int)≤most→t.countF most=t.cnt)∧(most<t.cnt→most<t.countF most)):=by
 intro t
 induction t using Gl.ind' with
 | h t ih =>
  have key:∀(l:List Gl),(∀x,x∈l→x∈t.goals)→∀(most n:Int),n≤Gl.countL l most n∧Gl.countL l most n≤n+Gl.cnts l∧(n+Gl.cnts l≤most→Gl.countL l most n=n+Gl.cnts l)∧(most<n+Gl.cnts l→most<Gl.countL l most n):=by
   intro l
   induction l with
   | nil=>intro _ most n;simp only [Gl.countL,Gl.cnts];omega
   | cons x r ihr =>
    intro hl most n
    have h1:=ih x (hl x (by simp)) (most - n)
    have h2:=ihr (fun x hx=>hl x (by simp [hx])) most (n+x.countF (most - n))
    simp only [Gl.countL,Gl.cnts]
    split<;>omega
  intro most
  have:=key t.goals (fun x hx=>hx) most 1
  rw [Gl.countF_eq,Gl.cnt_eq]
  omega
theorem Gl.cnt_le_wt:∀t:Gl,t.cnt≤1+wtL t.enc:=by
 intro t
 induction t using Gl.ind' with
 | h t ih =>
  have key:∀(l:List Gl),(∀x,x∈l→x∈t.goals)→Gl.cnts l≤wtR (l.map Gl.enc):=by
   intro l
   induction l with
   | nil=>intro _;simp [Gl.cnts,wtR]
   | cons x r ihr =>
    intro hl
    have h1:=ih x (hl x (by simp))
    have h2:=ihr (fun x hx=>hl x (by simp [hx]))
    simp only [Gl.cnts,c_,wtR]
    omega
  have:=key t.goals (fun x hx=>hx)
  rw [Gl.cnt_eq]
  simp only [Gl.enc_eq t,wtL,D.wt]
  omega
def arityOf (k:Int):Int:=if k=2 then 2 else if k=3 then 2 else if k=4 then 1 else if k=5 then 1 else if k=6 then 2 else 0
theorem arityOf_le (k:Int):0≤arityOf k∧arityOf k≤2:=by
 unfold arityOf
 repeat' split
 all_goals omega
theorem arityOf_hi (k:Int) (h:7≤k):arityOf k=0:=by
 unfold arityOf
 repeat' split
 all_goals omega
def firstSym (l:List Tm):Bool:=match l with | t :: _=>t.kind == 2 | []=>false
def firstCall (l:List Gl):Bool:=match l with | g :: _=>g.kind == 9 | []=>false
theorem firstSym_eq (l:List Tm):firstSym l=match l[0]? with | some t=>t.kind == 2 | none=>false:=by cases l<;>rfl
theorem firstCall_eq (l:List Gl):firstCall l=match l[0]? with | some t=>t.kind == 9 | none=>false:=by cases l<;>rfl
def Gl.form (g:Gl):Bool:=
 if g.kind=9 then isRel g.name && decide ((g.goals.length:Int)=0) && decide ((g.terms.length:Int)≤4)
 else if 0≤g.kind∧g.kind≤6 then decide (g.name=[]) && decide ((g.goals.length:Int)=0) && decide ((g.terms.length:Int)=arityOf g.kind) && (if g.kind=6 then firstSym g.terms else true)
 else if g.kind=7∨g.kind=8 then decide (g.name=[]) && decide ((g.terms.length:Int)=0) && decide ((g.goals.length:Int)≤8)
 else if g.kind=10 then decide (g.name=[]) && decide ((g.terms.length:Int)=0) && decide ((g.goals.length:Int)=1) && firstCall g.goals
 else false
theorem Gl.form_inv {g:Gl} (h:g.form=true):(g.kind=9∧isRel g.name=true∧(g.goals.length:Int)=0∧(g.terms.length:Int)≤4) ∨
  (0≤g.kind∧g.kind≤6∧g.name=[]∧(g.goals.length:Int)=0∧(g.terms.length:Int)=arityOf g.kind∧(g.kind=6→firstSym g.terms=true)) ∨
  ((g.kind=7∨g.kind=8)∧g.name=[]∧(g.terms.length:Int)=0∧(g.goals.length:Int)≤8) ∨
  (g.kind=10∧g.name=[]∧(g.terms.length:Int)=0∧(g.goals.length:Int)=1∧firstCall g.goals=true):=by
 unfold Gl.form at h
 split at h
 ·rename_i hk
  simp only [e_,decide_eq_true_eq] at h
  exact .inl ⟨hk,h.1.1,h.1.2,h.2⟩
 ·split at h
  ·rename_i hk
   simp only [e_,decide_eq_true_eq] at h
   refine .inr (.inl ⟨hk.1,hk.2,h.1.1.1,h.1.1.2,h.1.2,fun h6=>?_⟩)
   have:=h.2
   rw [if_pos h6] at this
   exact this
  ·split at h
   ·rename_i hk
    simp only [e_,decide_eq_true_eq] at h
    exact .inr (.inr (.inl ⟨hk,h.1.1,h.1.2,h.2⟩))
   ·split at h
    ·rename_i hk
     simp only [e_,decide_eq_true_eq] at h
     exact .inr (.inr (.inr ⟨hk,h.1.1.1,h.1.1.2,h.1.2,h.2⟩))
    ·cases h
theorem Gl.form_simple {g:Gl} (h0:0≤g.kind) (h1:g.kind<6) (hn:g.name=[]) (hg:(g.goals.length:Int)=0) (ht:(g.terms.length:Int)=arityOf g.kind):g.form=true:=by
 unfold Gl.form
 rw [if_neg (by omega),if_pos ⟨h0,by omega⟩,if_neg (by omega)]
 simp only [hn,hg,ht,decide_true,o_]
theorem Gl.form_6 {g:Gl} (hk:g.kind=6) (hn:g.name=[]) (hg:(g.goals.length:Int)=0) (ht:(g.terms.length:Int)=2) {x:Tm} (hx:g.terms[0]? = some x):g.form=decide (x.kind=2):=by
 unfold Gl.form
 rw [if_neg (by omega),if_pos ⟨by omega,by omega⟩,if_pos hk,firstSym_eq,hx,hk]
 have:arityOf 6=2:=by decide
 simp only [hn,hg,ht,this,decide_true,o_,n_]
 exact u_ _ _
theorem Gl.form_and {g:Gl} (hk:g.kind=7∨g.kind=8) (hn:g.name=[]) (ht:(g.terms.length:Int)=0) (hg:(g.goals.length:Int)≤8):g.form=true:=by
 unfold Gl.form
 rw [if_neg (by omega),if_neg (by omega),if_pos hk]
 simp only [hn,hg,ht,decide_true,o_]
theorem Gl.form_10 {g:Gl} (hk:g.kind=10) (hn:g.name=[]) (ht:(g.terms.length:Int)=0) (hg:(g.goals.length:Int)=1) {x:Gl} (hx:g.goals[0]? = some x):g.form=decide (x.kind=9):=by
 unfold Gl.form
 rw [if_neg (by omega),if_neg (by omega),if_neg (by omega),if_pos hk,firstCall_eq,hx]
 simp only [hn,hg,ht,decide_true,o_,n_]
 exact u_ _ _
theorem arityOf_6 (k:Int) (h:k=6):arityOf k=2:=by subst h;decide
mutual
def Gl.shape:Gl→Bool
 | .mk k n ts gs=>(Gl.mk k n ts gs).form && ts.all tmOk && Gl.shapes gs
def Gl.shapes:List Gl→Bool
 | []=>true
 | t :: r=>Gl.shape t && Gl.shapes r
end
theorem Gl.shapes_eq:∀l:List Gl,Gl.shapes l=l.all Gl.shape
 | []=>by simp only [Gl.shapes,List.all_nil]
 | t :: r=>by simp only [Gl.shapes,q_,Gl.shapes_eq r]
theorem Gl.shape_eq (g:Gl):g.shape=(g.form && g.terms.all tmOk && g.goals.all Gl.shape):=by
 cases g;simp only [Gl.shape,Gl.shapes_eq,Gl.terms,Gl.goals]
def glOk (g:Gl):Bool:=decide (g.cnt≤80) && g.shape
def Gl.nodes (g:Gl) (room:Int):Int:=if g.shape=true∧(g.cnt:Int)≤room then g.cnt else -1
theorem Gl.nodes_ge {g:Gl} {room:Int}:g.nodes room=-1∨(1≤g.nodes room∧g.nodes room≤room):=by
 have:=g.cnt_pos
 unfold Gl.nodes
 split<;>omega
theorem Gl.nodes_lt {g:Gl} {room:Int} (h:room<1):g.nodes room=-1:=by
 have:=g.cnt_pos
 unfold Gl.nodes
 rw [if_neg (by omega)]
theorem Gl.nodes_bad {g:Gl} {room:Int} (h:g.shape=false):g.nodes room=-1:=by
 unfold Gl.nodes
 rw [if_neg (by simp [h])]
theorem Gl.nodes_leaf {g:Gl} {room:Int} (h:g.shape=true) (hg:g.goals=[]) (hr:1≤room):g.nodes room=1:=by
 have hc:=g.cnt_eq
 rw [hg] at hc
 simp only [Gl.cnts] at hc
 unfold Gl.nodes
 rw [if_pos ⟨h,by omega⟩,hc];rfl
theorem Gl.nodes_ok (g:Gl):decide (0<g.nodes 80)=glOk g:=by
 have:=g.cnt_pos
 unfold Gl.nodes glOk
 by_cases h:g.shape=true
 ·by_cases h2:g.cnt≤80
  ·rw [if_pos ⟨h,by omega⟩];simp [h,h2];omega
  ·rw [if_neg (by omega)];simp [h2]
 ·rw [if_neg (by simp [h])];simp [h]
theorem Gl.count_ok (g:Gl):(decide (g.countF 80≤80) && g.shape)=glOk g:=by
 have h:=Gl.count_spec g 80
 unfold glOk
 congr 1
 by_cases h5:g.cnt≤80
 ·simp [h5];omega
 ·simp [h5];omega
def Gl.nodeL:List Gl→Int→Int→Int
 | [],_,n=>n
 | g :: r,room,n=>if g.nodes (room - n)<0 then -1 else Gl.nodeL r room (n+g.nodes (room - n))
theorem Gl.nodeL_eq:∀(l:List Gl) (room n:Int),n≤room→Gl.nodeL l room n=if l.all Gl.shape=true∧n+(Gl.cnts l:Int)≤room then n+Gl.cnts l else -1
 | [],room,n,h=>by simp [Gl.nodeL,Gl.cnts,h]
 | g :: r,room,n,h=>by
  have hp:=g.cnt_pos
  have e1:(g :: r).all Gl.shape=(g.shape && r.all Gl.shape):=rfl
  have e2:Gl.cnts (g :: r)=g.cnt+Gl.cnts r:=by simp only [Gl.cnts]
  rw [Gl.nodeL]
  by_cases hs:g.shape=true
  ·by_cases hc:(g.cnt:Int)≤room - n
   ·have hn:g.nodes (room - n)=g.cnt:=by unfold Gl.nodes;rw [if_pos ⟨hs,hc⟩]
    rw [hn,if_neg (by omega),Gl.nodeL_eq r room _ (by omega)]
    by_cases hx:r.all Gl.shape=true∧n+(g.cnt:Int)+(Gl.cnts r:Int)≤room
    ·rw [if_pos hx,if_pos ⟨by rw [e1];simp only [hs,hx.1,o_],by rw [e2];omega⟩,e2];omega
    ·rw [if_neg hx,if_neg (fun h=>hx ⟨by have h1:=h.1;rw [e1,hs,n_] at h1;exact h1,by have h2:=h.2;rw [e2] at h2;omega⟩)]
   ·have hn:g.nodes (room - n)=-1:=by unfold Gl.nodes;rw [if_neg (by omega)]
    rw [hn,if_pos (by omega),if_neg (fun h=>by have h2:=h.2;rw [e2] at h2;omega)]
  ·have hn:g.nodes (room - n)=-1:=Gl.nodes_bad (by simpa using hs)
   rw [hn,if_pos (by omega),if_neg (fun h=>by have h1:=h.1;rw [e1] at h1;simp [hs] at h1)]
theorem Gl.nodes_kids {g:Gl} {room:Int} (hf:g.form=true) (ht:g.terms.all tmOk=true) (hr:1≤room):g.nodes room=Gl.nodeL g.goals room 1:=by
 rw [Gl.nodeL_eq _ _ _ hr]
 unfold Gl.nodes
 rw [Gl.shape_eq,hf,ht,Gl.cnt_eq]
 simp only [n_]
 split<;>split<;>simp_all<;>omega
theorem idx_tab {k n:Int} (h0:0≤k) (h1:k≤10) {Q:List D→Prop} (h:Q [.int .i64 (if k=9 then n else arityOf k)]) :
  idx [[.int .i64 0],[.int .i64 0],[.int .i64 2],[.int .i64 2],[.int .i64 1],[.int .i64 1],[.int .i64 2],[.int .i64 0],[.int .i64 0],[.int .i64 n],[.int .i64 0]] k.toNat Q:=by
 have hc:k=0∨k=1∨k=2∨k=3∨k=4∨k=5∨k=6∨k=7∨k=8∨k=9∨k=10:=by omega
 rcases hc with rfl | rfl | rfl | rfl | rfl | rfl | rfl | rfl | rfl | rfl | rfl<;>(intro x hx;simp at hx;subst hx;simpa [arityOf] using h)
def insA:List Int→Int→List Int
 | [],n=>[n]
 | x :: r,n=>if x<n then x :: insA r n else if x=n then x :: r else n :: x :: r
abbrev Asc (l:List Int):Prop:=l.Pairwise (·<·)
theorem insA_mem {x n:Int}:∀{l:List Int},x∈insA l n↔x=n∨x∈l
 | []=>by simp [insA]
 | y :: r=>by
  have ih:=insA_mem (x:=x) (n:=n) (l:=r)
  unfold insA
  split
  ·simp only [b_,ih];constructor<;>(rintro (h | h | h)<;>simp [h])
  ·split
   ·rename_i h;subst h;simp
   ·simp
theorem insA_asc {n:Int}:∀{l:List Int},Asc l→Asc (insA l n)
 | [],_=>by simp [insA,Asc]
 | y :: r,h=>by
  have h':=g_.1 h
  unfold insA
  split
  ·refine g_.2 ⟨fun x hx=>?_,insA_asc h'.2⟩
   rcases insA_mem.1 hx with rfl | hx
   ·assumption
   ·exact h'.1 x hx
  ·split
   ·exact h
   ·refine g_.2 ⟨fun x hx=>?_,h⟩
    rcases b_.1 hx with rfl | hx
    ·omega
    ·have:=h'.1 x hx;omega
theorem insA_len {n:Int}:∀{l:List Int},(insA l n).length≤l.length+1
 | []=>by simp [insA]
 | y :: r=>by
  have ih:=insA_len (n:=n) (l:=r)
  unfold insA
  split
  ·simp only [d_];omega
  ·split<;>simp
def headA (n:Int):List Int→List Int
 | []=>[n]
 | x :: r=>if x=n then x :: r else n :: x :: r
theorem insA_split {n:Int} {b:List Int} (hb:∀x,x∈b→n≤x):∀{a:List Int},(∀x,x∈a→x<n)→insA (a++b) n=a++headA n b
 | [],_=>by
  cases b with
  | nil=>rfl
  | cons x r =>
   have:=hb x (by simp)
   simp only [List.nil_append,insA,headA]
   rw [if_neg (by omega)]
 | y :: a,ha=>by
  have:=ha y (by simp)
  simp only [i_,insA]
  rw [if_pos this,insA_split hb (fun x hx=>ha x (by simp [hx]))]
theorem asc_ext:∀{l l':List Int},Asc l→Asc l'→(∀x,x∈l↔x∈l')→l=l'
 | [],[],_,_,_=>rfl
 | [],y :: r,_,_,h=>by have:=(h y).2 (by simp);simp at this
 | y :: r,[],_,_,h=>by have:=(h y).1 (by simp);simp at this
 | x :: r,y :: r',h1,h2,h=>by
  have a1:=g_.1 h1
  have a2:=g_.1 h2
  have exy:x=y:=by
   rcases b_.1 ((h x).1 (by simp)) with e | e
   ·exact e
   ·rcases b_.1 ((h y).2 (by simp)) with e' | e'
    ·exact e'.symm
    ·have:=a2.1 x e;have:=a1.1 y e';omega
  subst exy
  congr 1
  refine asc_ext a1.2 a2.2 (fun z=>⟨fun hz=>?_,fun hz=>?_⟩)
  ·rcases b_.1 ((h z).1 (by simp [hz])) with e | e
   ·have:=a1.1 z hz;omega
   ·exact e
  ·rcases b_.1 ((h z).2 (by simp [hz])) with e | e
   ·have:=a2.1 z hz;omega
   ·exact e
theorem insA_at {l:List Int} {n:Int} {k:Nat} (ha:Asc l) (h1:∀j x,k≤j→l[j]? = some x→n≤x) (h2:k=0∨∃x,l[k - 1]? = some x∧x<n) :
  insA l n=if l[k]? = some n then l else l.take k++([n]++l.drop k):=by
 have hb:∀x,x∈l.drop k→n≤x:=fun x hx=>by
  obtain ⟨j,hj⟩:=p_.1 hx
  rw [List.getElem?_drop] at hj
  exact h1 _ x (by omega) hj
 have hlt:∀x,x∈l.take k→x<n:=fun x hx=>by
  obtain ⟨j,hj⟩:=p_.1 hx
  rw [List.getElem?_take] at hj
  split at hj
  ·rename_i hjk
   rcases h2 with rfl | ⟨y,hy,hyn⟩
   ·omega
   ·by_cases e:j=k - 1
    ·rw [e,hy] at hj;cases hj;exact hyn
    ·obtain ⟨g1,g2⟩:=f_.1 hj
     obtain ⟨g3,g4⟩:=f_.1 hy
     have:=m_.1 ha j (k - 1) g1 g3 (by omega)
     omega
  ·cases hj
 have hd:l[k]? = (l.drop k)[0]?:=by rw [List.getElem?_drop];simp
 have e:=insA_split (n:=n) hb hlt
 rw [t_] at e
 rw [e,hd]
 cases hq:l.drop k with
 | nil=>simp [headA]
 | cons x r =>
  by_cases hxn:x=n
  ·subst hxn
   simp only [headA,if_pos,List.getElem?_cons_zero]
   rw [←hq,t_]
  ·simp [headA,hxn]
theorem nodup_le:∀(n:Nat) (l:List Nat),l.Nodup→(∀x,x∈l→x<n)→l.length≤n
 | 0,l,_,h=>by
  cases l with
  | nil=>simp
  | cons x r=>have:=h x (by simp);omega
 | n+1,l,hn,h=>by
  have ih:=nodup_le n (l.erase n) (hn.erase n) (fun x hx=>by
   have h1:=(List.Nodup.mem_erase_iff hn).1 hx
   have:=h x h1.2;have:=h1.1;omega)
  have:l.length≤(l.erase n).length+1:=by rw [List.length_erase];split<;>omega
  omega
def ascOf (l:List Int):List Int:=l.foldl insA []
theorem foldA_asc:∀{vs l:List Int},Asc l→Asc (vs.foldl insA l)
 | [],_,h=>h
 | v :: vs,l,h=>foldA_asc (vs:=vs) (insA_asc h)
theorem foldA_mem {x:Int}:∀{vs l:List Int},x∈vs.foldl insA l↔x∈vs∨x∈l
 | [],l=>by simp
 | v :: vs,l=>by
  rw [k_,foldA_mem (vs:=vs),insA_mem,b_,or_left_comm,or_assoc]
theorem foldA_len:∀{vs l:List Int},(vs.foldl insA l).length≤l.length+vs.length
 | [],l=>by simp
 | v :: vs,l=>by
  have:=foldA_len (vs:=vs) (l:=insA l v)
  have:=insA_len (n:=v) (l:=l)
  simp only [k_,d_];omega
theorem ascOf_asc (l:List Int):Asc (ascOf l):=foldA_asc (by simp [Asc])
theorem ascOf_mem {l:List Int} {x:Int}:x∈ascOf l↔x∈l:=by unfold ascOf;rw [foldA_mem];simp
theorem ascOf_ext {l l':List Int} (h:∀x,x∈l↔x∈l'):ascOf l=ascOf l':=asc_ext (ascOf_asc l) (ascOf_asc l') (fun x=>by rw [ascOf_mem,ascOf_mem,h])
theorem ascOf_nil_iff {l:List Int}:ascOf l=[]↔l=[]:=by
 constructor
 ·intro h
  cases l with
  | nil=>rfl
  | cons x r=>have:x∈ascOf (x :: r):=ascOf_mem.2 (by simp);rw [h] at this;simp at this
 ·rintro rfl;rfl
theorem sort_asc {ks:List Int} (h:ks.Nodup):(ks.mergeSort fun x y=>decide (x≤y))=ascOf ks:=by
 refine asc_ext ?_ (ascOf_asc ks) (fun x=>by rw [List.mem_mergeSort,ascOf_mem])
 have h1:(ks.mergeSort fun x y=>decide (x≤y)).Pairwise fun a b=>decide (a≤b)=true:=
  List.pairwise_mergeSort (fun a b c h1 h2=>by simp at *;omega) (fun a b=>by simp;omega) ks
 have h2:(ks.mergeSort fun x y=>decide (x≤y)).Nodup:=(List.mergeSort_perm ks _).nodup_iff.2 h
 exact (h1.and h2).imp (fun ⟨a,b⟩=>by simp at a;omega)
def addK (ks:List Int) (n:Int):List Int:=if n∈ks then ks else ks++[n]
def keysM (ks:List Int):List (D×D):=ks.map fun n=>(.int .i64 n,.bool true)
theorem mset_keys (n:Int):∀ks:List Int,mset (keysM ks) (.int .i64 n) (.bool true)=keysM (addK ks n)
 | []=>rfl
 | k :: r=>by
  have ih:=mset_keys n r
  unfold addK at ih ⊢
  simp only [keysM,c_,mset,kEq] at ih ⊢
  by_cases h:n=k
  ·subst h;simp
  ·have h2:¬(n == k)=true:=by simpa using h
   by_cases h3:n∈r
   ·rw [if_pos h3] at ih
    rw [if_pos (by simp [h3])]
    simp [h,ih]
   ·rw [if_neg h3] at ih
    rw [if_neg (by simp [h,h3])]
    simp [h,ih]
theorem keysM_len (ks:List Int):(keysM ks).length=ks.length:=by simp [keysM]
theorem addK_mem {ks:List Int} {n x:Int}:x∈addK ks n↔x=n∨x∈ks:=by
 unfold addK
 split
 ·constructor
  ·exact .inr
  ·rintro (rfl | h)
   ·assumption
   ·exact h
 ·simp [or_comm]
theorem addK_nodup {ks:List Int} {n:Int} (h:ks.Nodup):(addK ks n).Nodup:=by
 unfold addK
 split
 ·exact h
 ·rename_i hn
  rw [List.nodup_append]
  exact ⟨h,by simp,fun a ha b hb=>by simp at hb;subst hb;intro e;subst e;exact hn ha⟩
theorem addK_len {ks:List Int} {n:Int}:(addK ks n).length≤ks.length+1:=by unfold addK;split<;>simp
theorem foldK_mem {x:Int}:∀{vs ks:List Int},x∈vs.foldl addK ks↔x∈vs∨x∈ks
 | [],l=>by simp
 | v :: vs,l=>by
  rw [k_,foldK_mem (vs:=vs),addK_mem,b_,or_left_comm,or_assoc]
theorem foldK_nodup:∀{vs ks:List Int},ks.Nodup→(vs.foldl addK ks).Nodup
 | [],_,h=>h
 | v :: vs,l,h=>foldK_nodup (vs:=vs) (addK_nodup h)
theorem foldK_len:∀{vs ks:List Int},(vs.foldl addK ks).length≤ks.length+vs.length
 | [],l=>by simp
 | v :: vs,l=>by
  have:=foldK_len (vs:=vs) (ks:=addK l v)
  have:=addK_len (n:=v) (ks:=l)
  simp only [k_,d_];omega
theorem intsD_append (a b:List Int):intsD (a++b)=intsD a++intsD b:=by simp [intsD]
theorem intsD_len (a:List Int):(intsD a).length=a.length:=by simp [intsD]
theorem intsD_one (n:Int):intsD [n]=[[.int .i64 n]]:=rfl
theorem keysM_at {ks:List Int} {i:Nat} {p:D×D} (h:(keysM ks)[i]? = some p):∃k,ks[i]? = some k∧p=(.int .i64 k,.bool true):=by
 simp only [keysM,List.getElem?_map,Option.map_eq_some_iff] at h
 obtain ⟨k,h1,rfl⟩:=h;exact ⟨k,h1,rfl⟩
theorem idx_ints (l:List Int) (j:Nat) (Q:List D→Prop):idx (intsD l) j Q=idx l j (fun n=>Q [.int .i64 n]):=idx_map _ _ _ _
theorem intsD_take (l:List Int) (k:Nat):(intsD l).take k=intsD (l.take k):=by simp [intsD]
theorem intsD_drop (l:List Int) (k:Nat):(intsD l).drop k=intsD (l.drop k):=by simp [intsD]
theorem intsD_each (l:List Int):(∀y,y∈intsD l→y.length=1)=True:=by
 simp only [eq_iff_iff,iff_true]
 intro y hy
 obtain ⟨n,_,rfl⟩:=h_.1 hy;rfl
attribute [go_sem] idx_ints intsD_take intsD_drop intsD_each intsD_len keysM_len
theorem picks_spec {ks:List Int} {seen:List Nat} (hn:ks.Nodup) (h1:seen.Nodup) (h2:∀i,i∈seen→i<ks.length) (h3:∀i,i<ks.length→i∈seen) :
  (seen.map fun i=>ks.getD i 0).Nodup∧∀x,x∈(seen.map fun i=>ks.getD i 0)↔x∈ks:=by
 have hg:∀i (h:i<ks.length),ks.getD i 0=ks[i]:=fun i h=>by simp [h]
 refine ⟨?_,fun x=>⟨fun hx=>?_,fun hx=>?_⟩⟩
 ·refine List.pairwise_map.2 (List.Pairwise.imp_of_mem ?_ h1)
  intro a b ha hb hab e
  rw [hg a (h2 a ha),hg b (h2 b hb)] at e
  have hp:=m_.1 hn
  rcases Nat.lt_trichotomy a b with h | h | h
  ·exact hp a b (h2 a ha) (h2 b hb) h e
  ·exact hab h
  ·exact hp b a (h2 b hb) (h2 a ha) h e.symm
 ·obtain ⟨i,hi,rfl⟩:=h_.1 hx
  rw [hg i (h2 i hi)];exact List.getElem_mem _
 ·obtain ⟨i,hi,rfl⟩:=List.mem_iff_getElem.1 hx
  exact h_.2 ⟨i,h3 i hi,hg i hi⟩
mutual
def Tm.vars:Tm→List Int
 | .mk k i _ as=>if k=1 then [i] else Tm.varss as
def Tm.varss:List Tm→List Int
 | []=>[]
 | t :: r=>Tm.vars t++Tm.varss r
end
theorem Tm.vars_eq (t:Tm):t.vars=if t.kind=1 then [t.int] else Tm.varss t.args:=by cases t;simp only [Tm.vars,Tm.kind,Tm.int,Tm.args];rfl
theorem Tm.varss_eq:∀l:List Tm,Tm.varss l=l.flatMap Tm.vars
 | []=>rfl
 | t :: r=>by simp only [Tm.varss,a_,Tm.varss_eq r]
def V.vars:V→List Int
 | .var n=>[n]
 | .pair a b=>a.vars++b.vars
 | _=>[]
theorem V.vars_tm:∀v:V,v.tm.vars=v.vars
 | .nil=>rfl
 | .var n=>by simp [V.tm,V.vars,Tm.vars]
 | .sym _=>by simp [V.tm,V.vars,Tm.vars,Tm.varss]
 | .num _=>by simp [V.tm,V.vars,Tm.vars,Tm.varss]
 | .pair a b=>by simp [V.tm,V.vars,Tm.vars,Tm.varss,V.vars_tm a,V.vars_tm b]
theorem Tm.vars_cnt:∀t:Tm,t.vars.length≤t.cnt:=by
 intro t
 induction t using Tm.ind with
 | h k i n as ih =>
  have key:∀(l:List Tm),(∀x,x∈l→x∈as)→(Tm.varss l).length≤Tm.cnts l:=by
   intro l
   induction l with
   | nil=>intro _;simp [Tm.varss]
   | cons x r ihr =>
    intro hl
    have h1:=ih x (hl x (by simp))
    have h2:=ihr (fun x hx=>hl x (by simp [hx]))
    simp only [Tm.varss,Tm.cnts,l_]
    omega
  have:=key as (fun x hx=>hx)
  simp only [Tm.vars,Tm.cnt]
  split
  ·simp only [d_,List.length_nil];omega
  ·omega
theorem Tm.vars_wt (t:Tm):t.vars.length≤1+wtL t.enc:=Nat.le_trans (Tm.vars_cnt t) (cnt_le_wt t)
theorem varss_wt:∀l:List Tm,(Tm.varss l).length≤wtR (l.map Tm.enc)
 | []=>by simp [Tm.varss]
 | t :: r=>by
  have:=varss_wt r
  have:=Tm.vars_wt t
  simp only [Tm.varss,c_,wtR,l_];omega
mutual
def Gl.vars:Gl→List Int
 | .mk _ _ ts gs=>Tm.varss ts++Gl.varss gs
def Gl.varss:List Gl→List Int
 | []=>[]
 | t :: r=>Gl.vars t++Gl.varss r
end
theorem Gl.vars_eq (t:Gl):t.vars=Tm.varss t.terms++Gl.varss t.goals:=by cases t;simp only [Gl.vars,Gl.terms,Gl.goals]
theorem Gl.varss_eq:∀l:List Gl,Gl.varss l=l.flatMap Gl.vars
 | []=>rfl
 | t :: r=>by simp only [Gl.varss,a_,Gl.varss_eq r]
theorem Gl.vars_wt:∀t:Gl,t.vars.length≤wtL t.enc:=by
 intro t
 induction t using Gl.ind' with
 | h t ih =>
  have key:∀(l:List Gl),(∀x,x∈l→x∈t.goals)→(Gl.varss l).length≤wtR (l.map Gl.enc):=by
   intro l
   induction l with
   | nil=>intro _;simp [Gl.varss]
   | cons x r ihr =>
    intro hl
    have h1:=ih x (hl x (by simp))
    have h2:=ihr (fun x hx=>hl x (by simp [hx]))
    simp only [Gl.varss,c_,wtR,l_]
    omega
  have:=key t.goals (fun x hx=>hx)
  have:=varss_wt t.terms
  rw [Gl.vars_eq,l_]
  simp only [Gl.enc_eq t,wtL,D.wt]
  omega
mutual
def Gl.subs:Gl→List Gl
 | .mk k n ts gs=>.mk k n ts gs :: Gl.subss gs
def Gl.subss:List Gl→List Gl
 | []=>[]
 | t :: r=>Gl.subs t++Gl.subss r
end
theorem Gl.subs_eq (t:Gl):t.subs=t :: Gl.subss t.goals:=by cases t;simp only [Gl.subs,Gl.goals]
theorem Gl.subss_eq:∀l:List Gl,Gl.subss l=l.flatMap Gl.subs
 | []=>rfl
 | t :: r=>by simp only [Gl.subss,a_,Gl.subss_eq r]
theorem Gl.subs_ind {Q:Gl→Prop} (h:∀t,Q t→∀x,x∈t.goals→Q x):∀(t:Gl),Q t→∀x,x∈t.subs→Q x:=by
 intro t
 induction t using Gl.ind' with
 | h t ih =>
  intro hq x hx
  rw [Gl.subs_eq,Gl.subss_eq] at hx
  rcases b_.1 hx with rfl | hx
  ·exact hq
  ·obtain ⟨y,hy,hxy⟩:=List.mem_flatMap.1 hx
   exact ih y hy (h t hq y hy) x hxy
theorem Gl.vars_subs:∀t:Gl,t.vars=t.subs.flatMap fun x=>Tm.varss x.terms:=by
 intro t
 induction t using Gl.ind' with
 | h t ih =>
  rw [Gl.vars_eq,Gl.subs_eq,a_,Gl.varss_eq,Gl.subss_eq,List.flatMap_assoc]
  congr 1
  have:∀(l:List Gl),(∀x,x∈l→x∈t.goals)→l.flatMap Gl.vars=l.flatMap fun x=>x.subs.flatMap fun x=>Tm.varss x.terms:=by
   intro l
   induction l with
   | nil=>intro _;rfl
   | cons x r ihr =>
    intro hl
    rw [a_,a_,ih x (hl x (by simp)),ihr (fun x hx=>hl x (by simp [hx]))]
  exact this _ (fun x hx=>hx)
theorem foldl_flatMap {α β γ:Type} (f:γ→β→γ) (g:α→List β):∀(l:List α) (c:γ),(l.flatMap g).foldl f c=l.foldl (fun c x=>(g x).foldl f c) c
 | [],_=>rfl
 | x :: r,c=>by rw [a_,List.foldl_append,foldl_flatMap f g r];rfl
theorem tmOk_v {t:Tm} (h:tmOk t=true):∃v:V,t=v.tm∧v.fine=true:=by
 unfold tmOk Tm.ok? at h
 split at h
 ·rename_i v hv;exact ⟨v,Tm.of_v? _ _ hv,Tm.fine_of _ _ hv⟩
 ·cases h
theorem Gl.shape_sub {t:Gl} (h:t.shape=true):∀x,x∈t.subs→x.shape=true:=
 Gl.subs_ind (Q:=fun t=>t.shape=true) (fun t h x hx=>by
  rw [Gl.shape_eq] at h
  simp only [e_,j_] at h
  exact h.2 x hx) t h
theorem Gl.shape_terms {t:Gl} (h:t.shape=true):∀x,x∈t.terms→tmOk x=true:=by
 rw [Gl.shape_eq] at h
 simp only [e_,j_] at h
 exact h.1.2
def V.has (tag:List UInt8):V→Bool
 | .sym s=>decide (s=tag)
 | .pair a b=>a.has tag || b.has tag
 | _=>false
theorem V.ind {Q:V→Prop} (h:∀v:V,(∀x,x∈v.kids→Q x)→Q v):∀v,Q v:=by
 intro v
 induction v with
 | pair a b iha ihb=>exact h _ (fun x hx=>by simp [V.kids] at hx;rcases hx with rfl | rfl<;>assumption)
 | _=>exact h _ (fun x hx=>by simp [V.kids] at hx)
def Tm.V (t:Tm):V:=t.v?.getD .nil
theorem Tm.V_of {t:Tm} (h:tmOk t=true):t=t.V.tm:=by
 obtain ⟨v,rfl,hv⟩:=tmOk_v h
 simp [Tm.V,V.v?_tm v hv]
theorem Tm.enc_V {t:Tm} (h:tmOk t=true):t.enc=t.V.enc:=by rw [V.enc,←Tm.V_of h]
theorem Tm.vars_V {t:Tm} (h:tmOk t=true):t.vars=t.V.vars:=by rw [←V.vars_tm,←Tm.V_of h]
theorem glOk_shape {g:Gl} (h:glOk g=true):g.shape=true:=by unfold glOk at h;simp at h;exact h.2
def findR:List Rl→List UInt8→Int→Int
 | [],_,_=>-1
 | r :: q,s,i=>if r.name=s then i else findR q s (i+1)
def Pg.find (p:Pg) (s:List UInt8):Int:=findR p.rels s 0
theorem findR_range:∀(l:List Rl) (s:List UInt8) (i:Int),findR l s i=-1∨(i≤findR l s i∧findR l s i<i+l.length)
 | [],_,_=>.inl rfl
 | r :: q,s,i=>by
  have:=findR_range q s (i+1)
  simp only [findR,d_]
  split<;>omega
theorem Pg.find_range (p:Pg) (s:List UInt8):p.find s=-1∨(0≤p.find s∧p.find s<p.rels.length):=by
 have:=findR_range p.rels s 0
 unfold Pg.find;omega
def Pg.fitC (p:Pg) (x:Gl):Bool:=
 !decide (x.kind=9) || match p.rels[(p.find x.name).toNat]? with
  | some r=>decide (0≤p.find x.name) && decide (r.arity=x.terms.length)
  | none=>false
theorem Pg.fitC_other {p:Pg} {x:Gl} (h:x.kind≠9):p.fitC x=true:=by simp [Pg.fitC,h]
theorem Pg.fitC_neg {p:Pg} {x:Gl} (h:x.kind=9) (hf:p.find x.name<0):p.fitC x=false:=by
 simp only [Pg.fitC,h,decide_true,Bool.not_true,Bool.false_or]
 split
 ·simp;omega
 ·rfl
theorem Pg.fitC_at {p:Pg} {x:Gl} (h:x.kind=9) (hf:0≤p.find x.name) {r:Rl} (hr:p.rels[(p.find x.name).toNat]? = some r):p.fitC x=decide (r.arity=x.terms.length):=by
 simp [Pg.fitC,h,hr,hf]
def Pg.callsFit (p:Pg) (g:Gl):Bool:=g.subs.all p.fitC
theorem all_flatMap {α β:Type} (f:α→List β) (q:β→Bool):∀l:List α,(l.flatMap f).all q=l.all fun x=>(f x).all q
 | []=>rfl
 | x :: r=>by simp only [a_,List.all_append,q_,all_flatMap f q r]
theorem Pg.callsFit_eq (p:Pg) (g:Gl):p.callsFit g=(p.fitC g && g.goals.all p.callsFit):=by
 unfold Pg.callsFit
 rw [Gl.subs_eq,q_,Gl.subss_eq,all_flatMap]
theorem foldl_all {α:Type} (q:α→Bool):∀(l:List α) (b:Bool),l.foldl (fun b x=>b && q x) b=(b && l.all q)
 | [],b=>by simp
 | x :: r,b=>by rw [k_,foldl_all q r,q_,Bool.and_assoc]
def Gl.varsLt (g:Gl) (n:Int):Bool:=g.vars.all fun v=>decide (v<n)
theorem below_asc (l:List Int) (n:Int):((ascOf l).all fun v=>decide (v<n))=l.all fun v=>decide (v<n):=by
 rw [Bool.eq_iff_iff]
 simp only [j_]
 exact ⟨fun h x hx=>h x (ascOf_mem.2 hx),fun h x hx=>h x (ascOf_mem.1 hx)⟩
theorem below_last {l:List Int} (ha:Asc l) (n:Int) {m:Nat} {x:Int} (hm:m+1=l.length) (hx:l[m]? = some x):(l.all fun v=>decide (v<n))=decide (x<n):=by
 rw [Bool.eq_iff_iff]
 simp only [j_,decide_eq_true_eq]
 refine ⟨fun h=>h x (List.mem_of_getElem? hx),fun h y hy=>?_⟩
 obtain ⟨j,hj⟩:=p_.1 hy
 obtain ⟨g1,g2⟩:=f_.1 hj
 obtain ⟨g3,g4⟩:=f_.1 hx
 by_cases e:j=m
 ·subst e;rw [hj] at hx;cases hx;exact h
 ·have:=m_.1 ha j m g1 g3 (by omega);omega
def Pg.relOk (p:Pg) (i:Nat) (r:Rl):Bool:=
 decide (p.find r.name=i) && isRel r.name && decide (0≤r.arity∧r.arity≤4) && decide (0≤r.locals∧r.locals≤8) && decide (r.body.cnt≤60) && r.body.shape && r.body.varsLt (r.arity+r.locals) && p.callsFit r.body
def Pg.okL (p:Pg):List Rl→Bool
 | []=>true
 | r :: q=>p.relOk (p.rels.length - (q.length+1)) r && Pg.okL p q
def pgOk (p:Pg):Bool:=decide (p.rels.length≤8) && p.okL p.rels
theorem drop_len {α:Type} {l r:List α} {x:α} {i:Nat} (h:l.drop i=x :: r):l.length - (r.length+1)=i:=by
 have:=congrArg List.length h
 simp only [List.length_drop,d_] at this;omega
theorem okL_mem {p:Pg}:∀{l:List Rl},p.okL l=true→∀r,r∈l→∃i,p.relOk i r=true
 | [],_,_,h=>by simp at h
 | x :: q,ho,r,h=>by
  simp only [Pg.okL,e_] at ho
  rcases b_.1 h with rfl | h
  ·exact ⟨_,ho.1⟩
  ·exact okL_mem ho.2 r h
theorem Rl.wt_body (r:Rl):wtL r.body.enc≤wtL r.enc∧r.name.length≤wtL r.enc:=by
 simp only [Rl.enc_eq,Gl.enc_eq,wtL,D.wt];omega
theorem Pg.wt_rels {p:Pg} {r:Rl} (h:r∈p.rels):wtL r.enc<wtL p.enc:=by
 have:=wtL_lt (p.rels.map Rl.enc) r.enc (h_.2 ⟨r,h,rfl⟩)
 simp only [Pg.enc_eq,wtL,D.wt];omega
def Pg.fits (p:Pg) (g:Gl) (n:Int):Bool:=glOk g && g.varsLt n && p.callsFit g
def Gl.onlyK (pure:Bool) (k:Int):Bool:=decide (k≠10) && !(pure && (decide (3≤k) && decide (k≤6)))
def Gl.only (pure:Bool) (g:Gl):Bool:=g.subs.all fun x=>Gl.onlyK pure x.kind
def Pg.all (pure:Bool) (p:Pg):Bool:=pgOk p && p.rels.all fun r=>r.body.only pure
def Tm.ground (t:Tm):Bool:=tmOk t && decide (t.vars=[])
theorem set_split {α:Type} {a:List α} {x y:α} {r:List α} {i:Nat} (h:a.length=i):(a++x :: r).set i y=a++y :: r:=by subst h;simp
theorem at_split {α:Type} {a:List α} {x:α} {r:List α} {i:Nat} (h:a.length=i):(a++x :: r)[i]? = some x:=by subst h;simp
theorem all_intro {p:(Nat→Prop)→Prop} (h:∀B,p B):∀B,p B:=h
theorem lend_intro {α:Type} {l:List α} {p:Prop} {z:Nat→Prop} {Q:Nat→Nat→(Nat→Prop)→(Nat→Prop)→Prop} (h:l=[]→p) (k:l≠[]→∀zk e' B1 B2,z zk→Q zk e' B1 B2):(l=[]→p)∧(l≠[]→∀(zk e':Nat) (B1 B2:Nat→Prop),z zk→Q zk e' B1 B2):=⟨h,k⟩
def digs:Nat→Nat→List UInt8→List UInt8
 | 0,_,acc=>acc
 | fuel+1,k,acc=>if k=0 then acc else digs fuel (k / 10) (UInt8.ofNat (48+k % 10) :: acc)
theorem digs_fuel:∀(f1 f2 k:Nat) (acc:List UInt8),k≤f1→k≤f2→digs f2 k acc=digs f1 k acc
 | 0,0,k,acc,_,_=>rfl
 | 0,f2+1,k,acc,h1,_=>by
  obtain rfl:k=0:=by omega
  simp [digs]
 | f1+1,0,k,acc,_,h2=>by
  obtain rfl:k=0:=by omega
  simp [digs]
 | f1+1,f2+1,k,acc,h1,h2=>by
  simp only [digs]
  split
  ·rfl
  ·exact digs_fuel f1 f2 (k / 10) _ (by omega) (by omega)
def mText (k:Int):List UInt8:=[109]++(if k≤0 then [48] else digs k.toNat k.toNat [])
mutual
def Tm.mcnt:Tm→Nat
 | .mk _ _ _ as=>3+Tm.mcnts as
def Tm.mcnts:List Tm→Nat
 | []=>0
 | t :: r=>Tm.mcnt t+Tm.mcnts r
end
theorem Tm.mcnt_eq (t:Tm):t.mcnt=3+Tm.mcnts t.args:=by cases t;simp only [Tm.mcnt,Tm.args]
mutual
def Tm.mrk (k:Int):Tm→Tm
 | .mk _ _ _ as=>.mk k (k+1) (mText (k+2)) (Tm.mrks (k+3) as)
def Tm.mrks (k:Int):List Tm→List Tm
 | []=>[]
 | t :: r=>Tm.mrk k t :: Tm.mrks (k+t.mcnt) r
end
theorem Tm.mrk_eq (k:Int) (t:Tm):t.mrk k=.mk k (k+1) (mText (k+2)) (Tm.mrks (k+3) t.args):=by cases t;simp only [Tm.mrk,Tm.args]
theorem Tm.mrks_len:∀(l:List Tm) (k:Int),(Tm.mrks k l).length=l.length
 | [],_=>rfl
 | t :: r,k=>by simp [Tm.mrks,Tm.mrks_len r]
theorem Tm.mcnts_app:∀(a b:List Tm),Tm.mcnts (a++b)=Tm.mcnts a+Tm.mcnts b
 | [],b=>by simp [Tm.mcnts]
 | t :: a,b=>by simp only [i_,Tm.mcnts,Tm.mcnts_app a b];omega
theorem Tm.mrks_app:∀(a b:List Tm) (k:Int),Tm.mrks k (a++b)=Tm.mrks k a++Tm.mrks (k+Tm.mcnts a) b
 | [],b,k=>by simp [Tm.mrks,Tm.mcnts]
 | t :: a,b,k=>by
  simp only [i_,Tm.mrks,Tm.mcnts,Tm.mrks_app a b]
  rw [show k+(t.mcnt:Int)+(Tm.mcnts a:Int)=k+((t.mcnt+Tm.mcnts a:Nat):Int) by omega]
theorem Tm.len_mcnts:∀l:List Tm,l.length≤Tm.mcnts l
 | []=>by simp
 | t :: r=>by have:=Tm.len_mcnts r;have:=Tm.mcnt_eq t;simp only [Tm.mcnts,d_];omega
theorem Tm.mcnt_wt:∀t:Tm,t.mcnt≤3+3 * wtL t.enc:=by
 intro t
 induction t using Tm.ind' with
 | h t ih =>
  have key:∀(l:List Tm),(∀x,x∈l→x∈t.args)→Tm.mcnts l≤3 * wtR (l.map Tm.enc):=by
   intro l
   induction l with
   | nil=>intro _;simp [Tm.mcnts]
   | cons x r ihr =>
    intro hl
    have h1:=ih x (hl x (by simp))
    have h2:=ihr (fun x hx=>hl x (by simp [hx]))
    simp only [Tm.mcnts,c_,wtR]
    omega
  have:=key t.args (fun x hx=>hx)
  rw [Tm.mcnt_eq]
  simp only [Tm.enc_eq t,wtL,D.wt]
  omega
theorem Tm.mcnts_wt:∀l:List Tm,Tm.mcnts l≤3 * wtR (l.map Tm.enc)
 | []=>by simp [Tm.mcnts]
 | t :: r=>by
  have:=Tm.mcnts_wt r
  have:=Tm.mcnt_wt t
  simp only [Tm.mcnts,c_,wtR];omega
mutual
def Gl.mcnt:Gl→Nat
 | .mk _ _ ts gs=>2+Tm.mcnts ts+Gl.mcnts gs
def Gl.mcnts:List Gl→Nat
 | []=>0
 | t :: r=>Gl.mcnt t+Gl.mcnts r
end
theorem Gl.mcnt_eq (t:Gl):t.mcnt=2+Tm.mcnts t.terms+Gl.mcnts t.goals:=by cases t;simp only [Gl.mcnt,Gl.terms,Gl.goals]
mutual
def Gl.mrk (k:Int):Gl→Gl
 | .mk _ _ ts gs=>.mk k (mText (k+1)) (Tm.mrks (k+2) ts) (Gl.mrks (k+2+Tm.mcnts ts) gs)
def Gl.mrks (k:Int):List Gl→List Gl
 | []=>[]
 | t :: r=>Gl.mrk k t :: Gl.mrks (k+t.mcnt) r
end
theorem Gl.mrk_eq (k:Int) (t:Gl):t.mrk k=.mk k (mText (k+1)) (Tm.mrks (k+2) t.terms) (Gl.mrks (k+2+Tm.mcnts t.terms) t.goals):=by cases t;simp only [Gl.mrk,Gl.terms,Gl.goals]
theorem Gl.mrks_len:∀(l:List Gl) (k:Int),(Gl.mrks k l).length=l.length
 | [],_=>rfl
 | t :: r,k=>by simp [Gl.mrks,Gl.mrks_len r]
theorem Gl.mrks_app:∀(a b:List Gl) (k:Int),Gl.mrks k (a++b)=Gl.mrks k a++Gl.mrks (k+Gl.mcnts a) b
 | [],b,k=>by simp [Gl.mrks,Gl.mcnts]
 | t :: a,b,k=>by
  simp only [i_,Gl.mrks,Gl.mcnts,Gl.mrks_app a b]
  rw [show k+(t.mcnt:Int)+(Gl.mcnts a:Int)=k+((t.mcnt+Gl.mcnts a:Nat):Int) by omega]
theorem Gl.mcnts_app:∀(a b:List Gl),Gl.mcnts (a++b)=Gl.mcnts a+Gl.mcnts b
 | [],b=>by simp [Gl.mcnts]
 | t :: a,b=>by simp only [i_,Gl.mcnts,Gl.mcnts_app a b];omega
theorem Gl.len_mcnts:∀l:List Gl,l.length≤Gl.mcnts l
 | []=>by simp
 | t :: r=>by have:=Gl.len_mcnts r;have:=Gl.mcnt_eq t;simp only [Gl.mcnts,d_];omega
theorem Gl.mcnt_wt:∀t:Gl,t.mcnt≤3+3 * wtL t.enc:=by
 intro t
 induction t using Gl.ind' with
 | h t ih =>
  have key:∀(l:List Gl),(∀x,x∈l→x∈t.goals)→Gl.mcnts l≤3 * wtR (l.map Gl.enc):=by
   intro l
   induction l with
   | nil=>intro _;simp [Gl.mcnts]
   | cons x r ihr =>
    intro hl
    have h1:=ih x (hl x (by simp))
    have h2:=ihr (fun x hx=>hl x (by simp [hx]))
    simp only [Gl.mcnts,c_,wtR]
    omega
  have h1:=key t.goals (fun x hx=>hx)
  have h2:=Tm.mcnts_wt t.terms
  rw [Gl.mcnt_eq]
  simp only [Gl.enc_eq t,wtL,D.wt]
  omega
theorem intsD_set (l:List Int) (i:Nat) (n:Int):(intsD l).set i [.int .i64 n]=intsD (l.set i n):=by simp [intsD,List.map_set]
attribute [go_sem] intsD_set
end Go.Abs
