import Derived.Test.YtancdeoodnpimaaGreatDoorJ11
open List renaming length_cons->a_,flatMap_cons->b_,mem_cons->c_,map_cons->d_,getElem?_eq_some_iff->f_,foldl_cons->g_,pairwise_cons->h_,mem_map->i_,cons_append->j_,all_eq_true->k_,length_append->l_,pairwise_iff_getElem->m_,all_cons->n_,mem_iff_getElem?->q_,map_nil->s_,take_append_drop->t_
open Bool renaming and_eq_true->e_,true_and->o_,and_self->p_,beq_eq_decide_eq->u_
open Nat renaming le_refl->r_
set_option linter.unusedVariables false
set_option linter.unusedSimpArgs false
namespace Go.Abs
def ac6 (s:List UInt8) (i:Nat):Int:=((s[i]?.getD 0).toNat:Int)
def aA2 (s:List UInt8) (i:Nat):Bool:=
 (decide (97<=ac6 s i) && decide (ac6 s i<=122)) || (i != 0 && (ac6 s i == 45 || (decide (48<=ac6 s i) && decide (ac6 s i<=57))))
def E8 (s:List UInt8):Bool:=(List.range s.length).all (aA2 s) && decide (1<=s.length) && decide (s.length<=12)
theorem al0 {s:List UInt8} {i:Nat} (hi:i<s.length) (h:aA2 s i=false):E8 s=false:=by
 unfold E8;have:(List.range s.length).all (aA2 s)=false:=by
  rw [List.all_eq_false];exact ⟨i,by simp [hi],by simp [h]⟩
 simp [this]
theorem aA6 {s:List UInt8} (h:∀j,j<s.length->aA2 s j=true):E8 s=(decide (1<=s.length) && decide (s.length<=12)):=by
 unfold E8;rw [k_.2 (fun j hj=>h j (by simpa using hj)),o_]
theorem J4 {s:List UInt8} (h:E8 s=true):1<=s.length/\s.length<=12:=by
 unfold E8 at h;simp at h;omega
inductive V where
 | nil
 | var (n:Int)
 | sym (s:List UInt8)
 | num (n:Int)
 | pair (a b:V)
deriving DecidableEq
namespace V
def tm:V->Tm
 | nil=>.mk 0 0 [] []
 | var n=>.mk 1 n [] []
 | sym s=>.mk 2 0 s []
 | num n=>.mk 3 n [] []
 | pair a b=>.mk 4 0 [] [a.tm,b.tm]
def size:V->Nat
 | pair a b=>1+a.size+b.size
 | _=>1
theorem size_pos:∀v:V,1<=v.size
 | nil=>r_ _
 | var _=>r_ _
 | sym _=>r_ _
 | num _=>r_ _
 | pair a b=>by simp only [size];omega
def enc (v:V):List D:=v.tm.enc
theorem enc_nil:enc nil=[.int .i64 0,.int .i64 0,.str [],.sl []]:=rfl
theorem enc_var (n:Int):enc (var n)=[.int .i64 1,.int .i64 n,.str [],.sl []]:=rfl
theorem enc_sym (s:List UInt8):enc (sym s)=[.int .i64 2,.int .i64 0,.str s,.sl []]:=rfl
theorem enc_num (n:Int):enc (num n)=[.int .i64 3,.int .i64 n,.str [],.sl []]:=rfl
theorem enc_pair (a b:V):enc (pair a b)=[.int .i64 4,.int .i64 0,.str [],.sl [a.enc,b.enc]]:=rfl
theorem enc_len (v:V):v.enc.length=4:=Tm.enc_len _
def kind:V->Int
 | nil=>0 | var _=>1 | sym _=>2 | num _=>3 | pair _ _=>4
def int:V->Int
 | var n=>n | num n=>n | _=>0
def name:V->List UInt8
 | sym s=>s | _=>[]
def kids:V->List V
 | pair a b=>[a,b] | _=>[]
theorem enc_eq (v:V):v.enc=[.int .i64 v.kind,.int .i64 v.int,.str v.name,.sl (v.kids.map enc)]:=by cases v<;>rfl
theorem enc_at0 (t:V):(V.enc t)[0]? = some (.int .i64 t.kind):=by rw [enc_eq];rfl
theorem enc_at1 (t:V):(V.enc t)[1]? = some (.int .i64 t.int):=by rw [enc_eq];rfl
theorem enc_at2 (t:V):(V.enc t)[2]? = some (.str t.name):=by rw [enc_eq];rfl
theorem enc_at3 (t:V):(V.enc t)[3]? = some (.sl (t.kids.map enc)):=by rw [enc_eq];rfl
theorem enc_pt0 (t:V):((V.enc t).drop 0).take 1=[.int .i64 t.kind]:=by rw [enc_eq];rfl
theorem enc_pt0' (t:V):(V.enc t).take 1=[.int .i64 t.kind]:=by rw [enc_eq];rfl
theorem enc_pt1 (t:V):((V.enc t).drop 1).take 1=[.int .i64 t.int]:=by rw [enc_eq];rfl
theorem enc_pt2 (t:V):((V.enc t).drop 2).take 1=[.str t.name]:=by rw [enc_eq];rfl
theorem enc_pt3 (t:V):((V.enc t).drop 3).take 1=[.sl (t.kids.map enc)]:=by rw [enc_eq];rfl
theorem encS:type_of% (And.intro enc_len <| And.intro enc_at0 <| And.intro enc_at1 <| And.intro enc_at2 <| And.intro enc_at3 <| And.intro enc_pt0 <| And.intro enc_pt0' <| And.intro enc_pt1 <| And.intro enc_pt2 <| enc_pt3):=And.intro enc_len <| And.intro enc_at0 <| And.intro enc_at1 <| And.intro enc_at2 <| And.intro enc_at3 <| And.intro enc_pt0 <| And.intro enc_pt0' <| And.intro enc_pt1 <| And.intro enc_pt2 <| enc_pt3
end V
attribute [go_sem] V.enc_len V.enc_at0 V.enc_at1 V.enc_at2 V.enc_at3 V.enc_pt0 V.enc_pt0' V.enc_pt1 V.enc_pt2 V.enc_pt3
def mkV (k i:Int) (n:List UInt8) (l:List (Option V)):Option V:=
 if k=4 then (if i=0/\n=[] then (match l with | [some a,some b]=>some (.pair a b) | _=>none) else none)
 else if l≠[] then none
 else if k=0 then (if i=0/\n=[] then some .nil else none)
 else if k=1 then (if 0<=i/\i<=100000/\n=[] then some (.var i) else none)
 else if k=2 then (if i=0/\E8 n=true then some (.sym n) else none)
 else if k=3 then (if -1000000000<=i/\i<=1000000000/\n=[] then some (.num i) else none)
 else none
mutual
def Tm.v?:Tm->Option V
 | .mk k i n az=>mkV k i n (Tm.vs? az)
def Tm.vs?:List Tm->List (Option V)
 | []=>[]
 | t :: r=>Tm.v? t :: Tm.vs? r
end
theorem Tm.vs?_eq:∀l:List Tm,Tm.vs? l=l.map Tm.v?
 | []=>by simp only [Tm.vs?,s_]
 | t :: r=>by simp only [Tm.vs?,d_,Tm.vs?_eq r]
theorem Tm.v?_mk (k i:Int) (n:List UInt8) (az:List Tm):(Tm.mk k i n az).v? = mkV k i n (az.map Tm.v?):=by
 simp only [Tm.v?,Tm.vs?_eq]
theorem aQ2 {α β:Type} {f:α->β}:∀{l:List α} {a b:β},l.map f=[a,b]->∃x y,l=[x,y]/\f x=a/\f y=b
 | [],_,_,h=>by simp at h
 | [x],_,_,h=>by simp at h
 | [x,y],_,_,h=>by simp at h;exact ⟨x,y,rfl,h⟩
 | _ :: _ :: _ :: _,_,_,h=>by simp at h
theorem bx4 {k i:Int} {n:List UInt8} {az:List Tm} {v:V} (ih:∀x,x∈az->∀v,x.v? = some v->x=v.tm) (h:mkV k i n (az.map Tm.v?)=some v):Tm.mk k i n az=v.tm:=by
 unfold mkV at h;split at h
 ·rename_i hk
  split at h
  ·rename_i hin
   obtain ⟨rfl,rfl⟩:=hin;split at h
   ·rename_i a b hl
    cases h;obtain ⟨x,y,rfl,h1,h2⟩:=aQ2 hl;rw [ih x (by simp) a h1,ih y (by simp) b h2,hk];rfl
   ·cases h
  ·cases h
 ·split at h
  ·cases h
  ·rename_i hl
   have:az=[]:=by cases az<;>simp_all
   subst this;split at h
   ·split at h
    ·rename_i hc;obtain ⟨rfl,rfl⟩:=hc;cases h;simp_all [V.tm]
    ·cases h
   ·split at h
    ·split at h
     ·rename_i hc;obtain ⟨_,_,rfl⟩:=hc;cases h;simp_all [V.tm]
     ·cases h
    ·split at h
     ·split at h
      ·rename_i hc;obtain ⟨rfl,_⟩:=hc;cases h;simp_all [V.tm]
      ·cases h
     ·split at h
      ·split at h
       ·rename_i hc;obtain ⟨_,_,rfl⟩:=hc;cases h;simp_all [V.tm]
       ·cases h
      ·cases h
theorem Tm.of_v?:∀(t:Tm) (v:V),t.v? = some v->t=v.tm:=by
 intro t;induction t using Tm.ind with
 | h k i n az ih =>
  intro v h;rw [Tm.v?_mk] at h;exact bx4 ih h
def V.fine:V->Bool
 | .nil=>true
 | .var n=>decide (0<=n/\n<=100000)
 | .sym s=>E8 s
 | .num n=>decide (-1000000000<=n/\n<=1000000000)
 | .pair a b=>a.fine && b.fine
theorem V.v?_tm:∀v:V,v.fine=true->v.tm.v? = some v
 | .nil,_=>by simp [V.tm,Tm.v?_mk,mkV]
 | .var n,h=>by simp [V.fine] at h;simp [V.tm,Tm.v?_mk,mkV,h]
 | .sym s,h=>by simp [V.fine] at h;simp [V.tm,Tm.v?_mk,mkV,h]
 | .num n,h=>by simp [V.fine] at h;simp [V.tm,Tm.v?_mk,mkV,h]
 | .pair a b,h=>by
  simp [V.fine] at h;simp [V.tm,Tm.v?_mk,mkV,V.v?_tm a h.1,V.v?_tm b h.2]
theorem Tm.fine_of:∀(t:Tm) (v:V),t.v? = some v->v.fine=true:=by
 intro t;induction t using Tm.ind with
 | h k i n az ih =>
  intro v h;rw [Tm.v?_mk] at h;unfold mkV at h;split at h
  ·split at h
   ·split at h
    ·rename_i a b hl
     cases h;obtain ⟨x,y,rfl,h1,h2⟩:=aQ2 hl;simp [V.fine,ih x (by simp) a h1,ih y (by simp) b h2]
    ·cases h
   ·cases h
  ·split at h
   ·cases h
   ·split at h
    ·split at h
     ·cases h;rfl
     ·cases h
    ·split at h
     ·split at h
      ·rename_i hc;cases h;simp [V.fine,hc]
      ·cases h
     ·split at h
      ·split at h
       ·rename_i hc;cases h;simp [V.fine,hc]
       ·cases h
      ·split at h
       ·split at h
        ·rename_i hc;cases h;simp [V.fine,hc]
        ·cases h
       ·cases h
def nodes (t:Tm) (room:Int):Int:=match t.v? with
 | some v=>if (v.size:Int)<=room then v.size else -1
 | none=>-1
def Tm.ok? (t:Tm):Option V:=match t.v? with
 | some v=>if v.size<=5000 then some v else none
 | none=>none
def L9 (t:Tm):Bool:=t.ok?.isSome
theorem nodes_lt {t:Tm} {room:Int} (h:room<1):nodes t room=-1:=by
 unfold nodes;split
 ·rename_i v _
  have:=v.size_pos;rw [if_neg (by omega)]
 ·rfl
theorem nodes_kids (k i:Int) (n:List UInt8) (a b:Tm) {room:Int} (hk:k=4) (hi:i=0) (hn:n=[]) (h:1<=room) :
  nodes (.mk k i n [a,b]) room=if nodes a (room - 1)<0 then -1 else if nodes b (room - 1 - nodes a (room - 1))<0 then -1 else 1+nodes a (room - 1)+nodes b (room - 1 - nodes a (room - 1)):=by
 subst hk hi hn;unfold nodes;rw [Tm.v?_mk];simp only [mkV,if_pos,and_self,d_,s_];cases ha:a.v? with
 | none=>simp
 | some x =>
  cases hb:b.v? with
  | none=>simp
  | some y =>
   have:=x.size_pos;have:=y.size_pos;simp only [V.size];repeat' split
   all_goals omega
theorem nodes_ge {t:Tm} {room:Int}:nodes t room=-1\/(1<=nodes t room/\nodes t room<=room):=by
 unfold nodes;split
 ·rename_i v _
  have:=v.size_pos;split<;>omega
 ·exact .inl rfl
theorem ai0 (c:Prop) [Decidable c] (v:V) {room:Int} (hs:v.size=1) (h:1<=room) :
  (match (if c then some v else none:Option V) with | some v=>if (v.size:Int)<=room then (v.size:Int) else -1 | none=>-1)=if c then 1 else -1:=by
 by_cases hc:c
 ·simp only [if_pos hc,hs];rw [if_pos (by omega)];rfl
 ·simp only [if_neg hc]
theorem nodes_leaf (k i:Int) (n:List UInt8) (az:List Tm) {room:Int} (hk:k≠4) (h:1<=room) :
  nodes (.mk k i n az) room=if az≠[] then -1 else if k=0 then (if i=0/\n=[] then 1 else -1) else if k=1 then (if 0<=i/\i<=100000/\n=[] then 1 else -1)
   else if k=2 then (if i=0/\E8 n=true then 1 else -1) else if k=3 then (if -1000000000<=i/\i<=1000000000/\n=[] then 1 else -1) else -1:=by
 unfold nodes;rw [Tm.v?_mk];simp only [mkV,if_neg hk];by_cases ha:az=[]
 ·subst ha
  simp only [s_,ne_eq,not_true_eq_false,if_false];by_cases h0:k=0
  ·simp only [if_pos h0];exact ai0 _ _ rfl h
  ·simp only [if_neg h0]
   by_cases h1:k=1
   ·simp only [if_pos h1];exact ai0 _ _ rfl h
   ·simp only [if_neg h1]
    by_cases h2:k=2
    ·simp only [if_pos h2];exact ai0 _ _ rfl h
    ·simp only [if_neg h2]
     by_cases h3:k=3
     ·simp only [if_pos h3];exact ai0 _ _ rfl h
     ·simp only [if_neg h3]
 ·rw [if_pos (by simpa using ha),if_pos ha]
theorem nodes_bad (k i:Int) (n:List UInt8) (az:List Tm) {room:Int} (hk:k=4) (h:i≠0\/n≠[]\/az.length≠2):nodes (.mk k i n az) room=-1:=by
 unfold nodes;rw [Tm.v?_mk];simp only [mkV,if_pos hk];have:(if i=0/\n=[] then (match az.map Tm.v? with | [some a,some b]=>some (V.pair a b) | _=>none) else none)=none:=by
  split
  ·split
   ·rename_i hl
    obtain ⟨x,y,rfl,_⟩:=aQ2 hl;simp_all
   ·rfl
  ·rfl
 rw [this]
theorem Tm.ind' {Q:Tm->Prop} (h:∀t:Tm,(∀x,x∈t.args->Q x)->Q t):∀t,Q t:=by
 intro t;induction t using Tm.ind with
 | h k i n az ih=>exact h _ ih
theorem aP7 (t:Tm) {room:Int} (hk:t.kind≠4) (h:1<=room) :
  nodes t room=if t.args≠[] then -1 else if t.kind=0 then (if t.int=0/\t.name=[] then 1 else -1) else if t.kind=1 then (if 0<=t.int/\t.int<=100000/\t.name=[] then 1 else -1)
   else if t.kind=2 then (if t.int=0/\E8 t.name=true then 1 else -1) else if t.kind=3 then (if -1000000000<=t.int/\t.int<=1000000000/\t.name=[] then 1 else -1) else -1:=by
 cases t;exact nodes_leaf _ _ _ _ hk h
theorem bc4 (t:Tm) {room:Int} (hk:t.kind=4) (h:t.int≠0\/t.name≠[]\/t.args.length≠2):nodes t room=-1:=by
 cases t;exact nodes_bad _ _ _ _ hk h
theorem aP8 (t a b:Tm) (ha:t.args=[a,b]) {room:Int} (hk:t.kind=4) (hi:t.int=0) (hn:t.name=[]) (h:1<=room) :
  nodes t room=if nodes a (room - 1)<0 then -1 else if nodes b (room - 1 - nodes a (room - 1))<0 then -1 else 1+nodes a (room - 1)+nodes b (room - 1 - nodes a (room - 1)):=by
 cases t;simp only [Tm.args] at ha;subst ha;exact nodes_kids _ _ _ _ _ hk hi hn h
theorem bm7 (t:Tm):t.name.length<=wtL t.enc:=by
 rw [Tm.enc_eq];simp only [wtL,D.wt];omega
theorem nodes_ok (t:Tm):decide (0<nodes t 5000)=L9 t:=by
 unfold nodes L9 Tm.ok?;cases h:t.v? with
 | none=>simp
 | some v =>
  have:=v.size_pos;simp only;by_cases h5:v.size<=5000
  ·simp only [if_pos h5,if_pos (show (v.size:Int)<=5000 by omega)];simp;omega
  ·simp only [if_neg h5,if_neg (show ¬(v.size:Int)<=5000 by omega)];simp
mutual
def countF:Tm->Int->Int
 | .mk _ _ _ az,most=>countL az most 1
def countL:List Tm->Int->Int->Int
 | [],_,n=>n
 | t :: r,most,n=>if n > most then n else countL r most (n+countF t (most - n))
end
mutual
def Tm.cnt:Tm->Nat
 | .mk _ _ _ az=>1+Tm.cnts az
def Tm.cnts:List Tm->Nat
 | []=>0
 | t :: r=>Tm.cnt t+Tm.cnts r
end
theorem count_spec:(∀(t:Tm) (most:Int),1<=countF t most/\countF t most<=t.cnt/\((t.cnt:Int)<=most->countF t most=t.cnt)/\(most<t.cnt->most<countF t most)):=by
 intro t;induction t using Tm.ind with
 | h k i nm az ih =>
  have key:∀(l:List Tm),(∀x,x∈l->x∈az)->∀(most n:Int),n<=countL l most n/\countL l most n<=n+Tm.cnts l/\(n+Tm.cnts l<=most->countL l most n=n+Tm.cnts l)/\(most<n+Tm.cnts l->most<countL l most n):=by
   intro l;induction l with
   | nil=>intro _ most n;simp only [countL,Tm.cnts];omega
   | cons t r ihr =>
    intro hl most n;have h1:=ih t (hl t (by simp)) (most - n);have h2:=ihr (fun x hx=>hl x (by simp [hx])) most (n+countF t (most - n));simp only [countL,Tm.cnts];split<;>omega
  intro most;have:=key az (fun x hx=>hx) most 1;simp only [countF,Tm.cnt];omega
theorem cnt_of_v?:∀(t:Tm) (v:V),t.v? = some v->t.cnt=v.size:=by
 intro t v h;have:=Tm.of_v? t v h;subst this;clear h;induction v with
 | pair a b iha ihb=>simp [V.tm,Tm.cnt,Tm.cnts,V.size,iha,ihb];omega
 | _=>rfl
theorem count_ok (t:Tm):(decide (countF t 5000<=5000) && t.v?.isSome)=L9 t:=by
 have h:=count_spec t 5000;unfold L9 Tm.ok?;cases hv:t.v? with
 | none=>simp
 | some v =>
  have:=cnt_of_v? t v hv;simp only [Option.isSome_some,Bool.and_true];by_cases h5:v.size<=5000
  ·rw [if_pos h5];simp;omega
  ·rw [if_neg h5];simp;omega
theorem bf9:∀t:Tm,(∀n,n=t->t.cnt<=1+wtL t.enc):=by
 intro t;induction t using Tm.ind with
 | h k i n az ih =>
  intro _ _;have key:∀(l:List Tm),(∀x,x∈l->x∈az)->Tm.cnts l<=wtR (l.map Tm.enc):=by
   intro l;induction l with
   | nil=>intro _;simp [Tm.cnts,wtR]
   | cons t r ihr =>
    intro hl;have h1:=ih t (hl t (by simp)) t rfl;have h2:=ihr (fun x hx=>hl x (by simp [hx]));simp only [Tm.cnts,d_,wtR];omega
  have:=key az (fun x hx=>hx);simp only [Tm.cnt,Tm.enc_eq,wtL,D.wt,Tm.args,Tm.name];omega
theorem cnt_le_wt (t:Tm):t.cnt<=1+wtL t.enc:=bf9 t t rfl
theorem aa6 {t x:Tm} (h:x∈t.args):wtL x.enc<wtL t.enc:=by
 have:=G7 (t.args.map Tm.enc) x.enc (i_.2 ⟨x,h,rfl⟩);simp only [Tm.enc_eq t,wtL,D.wt];omega
theorem aD6 (k i:Int) (n:List UInt8) (az:List Tm):(Tm.mk k i n az).v?.isSome =
  if k≠1/\k≠3/\i≠0\/k≠2/\n≠[]\/k≠4/\0<az.length then false
  else if k=0 then true else if k=1 then (decide (0<=i) && decide (i<=100000)) else if k=2 then E8 n
  else if k=3 then (decide (-1000000000<=i) && decide (i<=1000000000)) else if k=4 then (match az with | [a,b]=>a.v?.isSome && b.v?.isSome | _=>false) else false:=by
 rw [Tm.v?_mk];unfold mkV;by_cases h4:k=4
 ·subst h4
  simp only [if_pos];by_cases hin:i=0/\n=[]
  ·obtain ⟨rfl,rfl⟩:=hin
   simp;match az with
   | []=>rfl
   | [a]=>simp
   | [a,b]=>simp;cases a.v?<;>cases b.v?<;>simp
   | a :: b :: c :: r=>simp
  ·rw [if_neg hin,if_pos];rfl
   by_cases h0:i=0
   ·exact .inr (.inl ⟨by omega,fun h=>hin ⟨h0,h⟩⟩)
   ·exact .inl ⟨by omega,by omega,h0⟩
 ·rw [if_neg h4]
  by_cases ha:az=[]
  ·subst ha
   simp;by_cases h0:k=0
   ·subst h0;simp;split<;>simp_all
   ·by_cases h1:k=1
    ·subst h1;simp;split<;>simp_all<;>(intro h1 h2;apply Int.not_le.1;intro h3;simp_all)
    ·by_cases h2:k=2
     ·subst h2;simp;split<;>simp_all
     ·by_cases h3:k=3
      ·subst h3;simp;split<;>simp_all<;>(intro h1 h2;apply Int.not_le.1;intro h3;simp_all)
      ·simp [*]
  ·have:0<az.length:=by cases az<;>simp_all
   rw [if_pos (by simpa using ha),if_pos (.inr (.inr ⟨h4,this⟩))];rfl
theorem bj9 (t:Tm) (h:t.kind≠1/\t.kind≠3/\t.int≠0\/t.kind≠2/\t.name≠[]\/t.kind≠4/\0<t.args.length):t.v?.isSome=false:=by
 cases t;simp only [Tm.kind,Tm.int,Tm.name,Tm.args] at h;rw [aD6,if_pos h]
theorem ba0 (t:Tm) (h:¬(t.kind≠1/\t.kind≠3/\t.int≠0\/t.kind≠2/\t.name≠[]\/t.kind≠4/\0<t.args.length)) (hk:t.kind≠4) :
  t.v?.isSome=if t.kind=0 then true else if t.kind=1 then (decide (0<=t.int) && decide (t.int<=100000)) else if t.kind=2 then E8 t.name
  else if t.kind=3 then (decide (-1000000000<=t.int) && decide (t.int<=1000000000)) else false:=by
 cases t;simp only [Tm.kind,Tm.int,Tm.name,Tm.args] at h hk |-;rw [aD6,if_neg h];simp only [if_neg hk];rfl
theorem aZ9 (t:Tm) (h:¬(t.kind≠1/\t.kind≠3/\t.int≠0\/t.kind≠2/\t.name≠[]\/t.kind≠4/\0<t.args.length)) (hk:t.kind=4) :
  (t.args.length≠2->t.v?.isSome=false)/\∀a b,t.args=[a,b]->t.v?.isSome=(a.v?.isSome && b.v?.isSome):=by
 cases t;simp only [Tm.kind,Tm.int,Tm.name,Tm.args] at h hk |-;rw [aD6,if_neg h];subst hk;refine ⟨fun h2=>?_,fun a b hab=>?_⟩
 ·simp
  split
  ·simp at h2
  ·rfl
 ·subst hab;simp
theorem ok?_tm {t:Tm} {v:V} (h:t.ok? = some v):t=v.tm:=by
 unfold Tm.ok? at h;cases hv:t.v? with
 | none=>simp [hv] at h
 | some v' =>
  simp only [hv] at h;split at h
  ·cases h;exact Tm.of_v? t v hv
  ·cases h
def V.ok (v:V):Bool:=v.fine && decide (v.size<=5000)
theorem ok?_ok {t:Tm} {v:V} (h:t.ok? = some v):v.ok=true:=by
 unfold Tm.ok? at h;cases hv:t.v? with
 | none=>simp [hv] at h
 | some v' =>
  simp only [hv] at h;split at h
  ·cases h;simp [V.ok,Tm.fine_of t v hv];assumption
  ·cases h
theorem aD0 {t:Tm} (h:L9 t=true):∃v:V,t=v.tm/\v.ok=true:=by
 unfold L9 at h;obtain ⟨v,hv⟩:=Option.isSome_iff_exists.1 h;exact ⟨v,ok?_tm hv,ok?_ok hv⟩
theorem bF8 {v:V} (h:v.ok=true):L9 v.tm=true:=by
 simp [V.ok] at h;simp [L9,Tm.ok?,V.v?_tm v h.1,h.2]
theorem K8 (vs:List V):(vs.map V.tm).map Tm.enc=vs.map V.enc:=by simp [V.enc]
def F7 (a b:Int):Int:=if a<b then -1 else if a > b then 1 else 0
def V.cmp (a b:V):Int:=
 if a.kind≠b.kind then (if a.kind<b.kind then -1 else 1)
 else if a.int≠b.int then (if a.int<b.int then -1 else 1)
 else if a.name≠b.name then (if Op.bytesLess a.name b.name then -1 else 1)
 else match a,b with
  | .pair a1 a2,.pair b1 b2=>if V.cmp a1 b1≠0 then V.cmp a1 b1 else V.cmp a2 b2
  | _,_=>0
def V.cmpL:List V->List V->Int
 | a :: r,b :: q=>if V.cmp a b≠0 then V.cmp a b else V.cmpL r q
 | l,m=>F7 l.length m.length
theorem V.pair_or (v:V):(∃x y,v=.pair x y)\/(v.kind≠4/\v.kids=[]):=by
 cases v<;>simp [V.kind,V.kids]
theorem V.cmp_pair (a1 a2 b1 b2:V):V.cmp (.pair a1 a2) (.pair b1 b2)=if V.cmp a1 b1≠0 then V.cmp a1 b1 else V.cmp a2 b2:=by
 rw [V.cmp];simp [V.kind,V.int,V.name]
theorem V.cmp_else {a b:V} (h:a.kind≠4\/b.kind≠4):V.cmp a b=if a.kind≠b.kind then (if a.kind<b.kind then -1 else 1)
 else if a.int≠b.int then (if a.int<b.int then -1 else 1)
 else if a.name≠b.name then (if Op.bytesLess a.name b.name then -1 else 1) else 0:=by
 rw [V.cmp.eq_def];congr 1;congr 1;congr 1;cases a<;>cases b<;>simp_all [V.kind]
theorem V.cmpL_nil_left (l:List V):V.cmpL [] l=F7 0 l.length:=by cases l<;>simp [V.cmpL]
theorem V.cmpL_nil_right (l:List V):V.cmpL l []=F7 l.length 0:=by cases l<;>simp [V.cmpL]
theorem V.cmpL_cons (a b:V) (r q:List V):V.cmpL (a :: r) (b :: q)=if V.cmp a b≠0 then V.cmp a b else V.cmpL r q:=by rw [V.cmpL]
def O6 (r:List UInt8) (a:List V) (q:List UInt8) (b:List V):Int:=
 if r≠q then (if Op.bytesLess r q then -1 else 1) else V.cmpL a b
def reserved:List (List UInt8):=[[116,114,117,101],[102,97,105,108],[115,121,109,98,111,108],[110,117,109,98,101,114],[97,98,115,101,110,116],[97,110,100],[111,114],[110,111,116],[100,101,102,105,110,101]]
def U0 (s:List UInt8):Bool:=!reserved.contains s && E8 s
theorem Gl.ind' {Q:Gl->Prop} (h:∀t:Gl,(∀x,x∈t.goals->Q x)->Q t):∀t,Q t:=by
 intro t;induction t using Gl.ind with
 | h a b c d ih=>exact h _ ih
theorem Gl.wt_goals {t x:Gl} (h:x∈t.goals):wtL x.enc<wtL t.enc:=by
 have:=G7 (t.goals.map Gl.enc) x.enc (i_.2 ⟨x,h,rfl⟩);simp only [Gl.enc_eq t,wtL,D.wt];omega
theorem Gl.wt_terms {t:Gl} {x:Tm} (h:x∈t.terms):wtL x.enc<wtL t.enc:=by
 have:=G7 (t.terms.map Tm.enc) x.enc (i_.2 ⟨x,h,rfl⟩);simp only [Gl.enc_eq t,wtL,D.wt];omega
theorem Gl.wt_name (t:Gl):t.name.length<=wtL t.enc:=by
 rw [Gl.enc_eq];simp only [wtL,D.wt];omega
mutual
def Gl.countF:Gl->Int->Int
 | .mk _ _ _ gs,most=>Gl.countL gs most 1
def Gl.countL:List Gl->Int->Int->Int
 | [],_,n=>n
 | t :: r,most,n=>if n > most then n else Gl.countL r most (n+Gl.countF t (most - n))
end
theorem Gl.countF_eq (g:Gl) (most:Int):g.countF most=Gl.countL g.goals most 1:=by cases g;simp only [Gl.countF,Gl.goals]
mutual
def Gl.cnt:Gl->Nat
 | .mk _ _ _ gs=>1+Gl.cnts gs
def Gl.cnts:List Gl->Nat
 | []=>0
 | t :: r=>Gl.cnt t+Gl.cnts r
end
theorem Gl.cnt_eq (g:Gl):g.cnt=1+Gl.cnts g.goals:=by cases g;simp only [Gl.cnt,Gl.goals]
theorem Gl.cnt_pos (g:Gl):1<=g.cnt:=by rw [Gl.cnt_eq];omega
theorem Gl.count_spec:(∀(t:Gl) (most:Int),1<=t.countF most/\t.countF most<=t.cnt/\((t.cnt:Int)<=most->t.countF most=t.cnt)/\(most<t.cnt->most<t.countF most)):=by
 intro t;induction t using Gl.ind' with
 | h t ih =>
  have key:∀(l:List Gl),(∀x,x∈l->x∈t.goals)->∀(most n:Int),n<=Gl.countL l most n/\Gl.countL l most n<=n+Gl.cnts l/\(n+Gl.cnts l<=most->Gl.countL l most n=n+Gl.cnts l)/\(most<n+Gl.cnts l->most<Gl.countL l most n):=by
   intro l;induction l with
   | nil=>intro _ most n;simp only [Gl.countL,Gl.cnts];omega
   | cons x r ihr =>
    intro hl most n;have h1:=ih x (hl x (by simp)) (most - n);have h2:=ihr (fun x hx=>hl x (by simp [hx])) most (n+x.countF (most - n));simp only [Gl.countL,Gl.cnts];split<;>omega
  intro most;have:=key t.goals (fun x hx=>hx) most 1;rw [Gl.countF_eq,Gl.cnt_eq];omega
theorem Gl.cnt_le_wt:∀t:Gl,t.cnt<=1+wtL t.enc:=by
 intro t;induction t using Gl.ind' with
 | h t ih =>
  have key:∀(l:List Gl),(∀x,x∈l->x∈t.goals)->Gl.cnts l<=wtR (l.map Gl.enc):=by
   intro l;induction l with
   | nil=>intro _;simp [Gl.cnts,wtR]
   | cons x r ihr =>
    intro hl;have h1:=ih x (hl x (by simp));have h2:=ihr (fun x hx=>hl x (by simp [hx]));simp only [Gl.cnts,d_,wtR];omega
  have:=key t.goals (fun x hx=>hx);rw [Gl.cnt_eq];simp only [Gl.enc_eq t,wtL,D.wt];omega
def r9 (k:Int):Int:=if k=2 then 2 else if k=3 then 2 else if k=4 then 1 else if k=5 then 1 else if k=6 then 2 else 0
theorem al7 (k:Int):0<=r9 k/\r9 k<=2:=by
 unfold r9;repeat' split
 all_goals omega
theorem bg6 (k:Int) (h:7<=k):r9 k=0:=by
 unfold r9;repeat' split
 all_goals omega
def ai5 (l:List Tm):Bool:=match l with | t :: _=>t.kind == 2 | []=>false
def Y5 (l:List Gl):Bool:=match l with | g :: _=>g.kind == 9 | []=>false
theorem J9 (l:List Tm):ai5 l=match l[0]? with | some t=>t.kind == 2 | none=>false:=by cases l<;>rfl
theorem J2 (l:List Gl):Y5 l=match l[0]? with | some t=>t.kind == 9 | none=>false:=by cases l<;>rfl
def Gl.form (g:Gl):Bool:=
 if g.kind=9 then U0 g.name && decide ((g.goals.length:Int)=0) && decide ((g.terms.length:Int)<=4)
 else if 0<=g.kind/\g.kind<=6 then decide (g.name=[]) && decide ((g.goals.length:Int)=0) && decide ((g.terms.length:Int)=r9 g.kind) && (if g.kind=6 then ai5 g.terms else true)
 else if g.kind=7\/g.kind=8 then decide (g.name=[]) && decide ((g.terms.length:Int)=0) && decide ((g.goals.length:Int)<=8)
 else if g.kind=10 then decide (g.name=[]) && decide ((g.terms.length:Int)=0) && decide ((g.goals.length:Int)=1) && Y5 g.goals
 else false
theorem Gl.form_inv {g:Gl} (h:g.form=true):(g.kind=9/\U0 g.name=true/\(g.goals.length:Int)=0/\(g.terms.length:Int)<=4) \/
  (0<=g.kind/\g.kind<=6/\g.name=[]/\(g.goals.length:Int)=0/\(g.terms.length:Int)=r9 g.kind/\(g.kind=6->ai5 g.terms=true)) \/
  ((g.kind=7\/g.kind=8)/\g.name=[]/\(g.terms.length:Int)=0/\(g.goals.length:Int)<=8) \/
  (g.kind=10/\g.name=[]/\(g.terms.length:Int)=0/\(g.goals.length:Int)=1/\Y5 g.goals=true):=by
 unfold Gl.form at h;split at h
 ·rename_i hk
  simp only [e_,decide_eq_true_eq] at h;exact .inl ⟨hk,h.1.1,h.1.2,h.2⟩
 ·split at h
  ·rename_i hk
   simp only [e_,decide_eq_true_eq] at h;refine .inr (.inl ⟨hk.1,hk.2,h.1.1.1,h.1.1.2,h.1.2,fun h6=>?_⟩);have:=h.2;rw [if_pos h6] at this;exact this
  ·split at h
   ·rename_i hk
    simp only [e_,decide_eq_true_eq] at h;exact .inr (.inr (.inl ⟨hk,h.1.1,h.1.2,h.2⟩))
   ·split at h
    ·rename_i hk
     simp only [e_,decide_eq_true_eq] at h;exact .inr (.inr (.inr ⟨hk,h.1.1.1,h.1.1.2,h.1.2,h.2⟩))
    ·cases h
theorem Gl.form_simple {g:Gl} (h0:0<=g.kind) (h1:g.kind<6) (hn:g.name=[]) (hg:(g.goals.length:Int)=0) (ht:(g.terms.length:Int)=r9 g.kind):g.form=true:=by
 unfold Gl.form;rw [if_neg (by omega),if_pos ⟨h0,by omega⟩,if_neg (by omega)];simp only [hn,hg,ht,decide_true,p_]
theorem Gl.form_6 {g:Gl} (hk:g.kind=6) (hn:g.name=[]) (hg:(g.goals.length:Int)=0) (ht:(g.terms.length:Int)=2) {x:Tm} (hx:g.terms[0]? = some x):g.form=decide (x.kind=2):=by
 unfold Gl.form;rw [if_neg (by omega),if_pos ⟨by omega,by omega⟩,if_pos hk,J9,hx,hk];have:r9 6=2:=by decide
 simp only [hn,hg,ht,this,decide_true,p_,o_];exact u_ _ _
theorem Gl.form_and {g:Gl} (hk:g.kind=7\/g.kind=8) (hn:g.name=[]) (ht:(g.terms.length:Int)=0) (hg:(g.goals.length:Int)<=8):g.form=true:=by
 unfold Gl.form;rw [if_neg (by omega),if_neg (by omega),if_pos hk];simp only [hn,hg,ht,decide_true,p_]
theorem Gl.form_10 {g:Gl} (hk:g.kind=10) (hn:g.name=[]) (ht:(g.terms.length:Int)=0) (hg:(g.goals.length:Int)=1) {x:Gl} (hx:g.goals[0]? = some x):g.form=decide (x.kind=9):=by
 unfold Gl.form;rw [if_neg (by omega),if_neg (by omega),if_neg (by omega),if_pos hk,J2,hx];simp only [hn,hg,ht,decide_true,p_,o_];exact u_ _ _
theorem bs7 (k:Int) (h:k=6):r9 k=2:=by subst h;decide
mutual
def Gl.shape:Gl->Bool
 | .mk k n ts gs=>(Gl.mk k n ts gs).form && ts.all L9 && Gl.shapes gs
def Gl.shapes:List Gl->Bool
 | []=>true
 | t :: r=>Gl.shape t && Gl.shapes r
end
theorem Gl.shapes_eq:∀l:List Gl,Gl.shapes l=l.all Gl.shape
 | []=>by simp only [Gl.shapes,List.all_nil]
 | t :: r=>by simp only [Gl.shapes,n_,Gl.shapes_eq r]
theorem Gl.shape_eq (g:Gl):g.shape=(g.form && g.terms.all L9 && g.goals.all Gl.shape):=by
 cases g;simp only [Gl.shape,Gl.shapes_eq,Gl.terms,Gl.goals]
def aa4 (g:Gl):Bool:=decide (g.cnt<=80) && g.shape
def Gl.nodes (g:Gl) (room:Int):Int:=if g.shape=true/\(g.cnt:Int)<=room then g.cnt else -1
theorem Gl.nodes_ge {g:Gl} {room:Int}:g.nodes room=-1\/(1<=g.nodes room/\g.nodes room<=room):=by
 have:=g.cnt_pos;unfold Gl.nodes;split<;>omega
theorem Gl.nodes_lt {g:Gl} {room:Int} (h:room<1):g.nodes room=-1:=by
 have:=g.cnt_pos;unfold Gl.nodes;rw [if_neg (by omega)]
theorem Gl.nodes_bad {g:Gl} {room:Int} (h:g.shape=false):g.nodes room=-1:=by
 unfold Gl.nodes;rw [if_neg (by simp [h])]
theorem Gl.nodes_leaf {g:Gl} {room:Int} (h:g.shape=true) (hg:g.goals=[]) (hr:1<=room):g.nodes room=1:=by
 have hc:=g.cnt_eq;rw [hg] at hc;simp only [Gl.cnts] at hc;unfold Gl.nodes;rw [if_pos ⟨h,by omega⟩,hc];rfl
theorem Gl.nodes_ok (g:Gl):decide (0<g.nodes 80)=aa4 g:=by
 have:=g.cnt_pos;unfold Gl.nodes aa4;by_cases h:g.shape=true
 ·by_cases h2:g.cnt<=80
  ·rw [if_pos ⟨h,by omega⟩];simp [h,h2];omega
  ·rw [if_neg (by omega)];simp [h2]
 ·rw [if_neg (by simp [h])];simp [h]
theorem Gl.count_ok (g:Gl):(decide (g.countF 80<=80) && g.shape)=aa4 g:=by
 have h:=Gl.count_spec g 80;unfold aa4;congr 1;by_cases h5:g.cnt<=80
 ·simp [h5];omega
 ·simp [h5];omega
def Gl.nodeL:List Gl->Int->Int->Int
 | [],_,n=>n
 | g :: r,room,n=>if g.nodes (room - n)<0 then -1 else Gl.nodeL r room (n+g.nodes (room - n))
theorem Gl.nodeL_eq:∀(l:List Gl) (room n:Int),n<=room->Gl.nodeL l room n=if l.all Gl.shape=true/\n+(Gl.cnts l:Int)<=room then n+Gl.cnts l else -1
 | [],room,n,h=>by simp [Gl.nodeL,Gl.cnts,h]
 | g :: r,room,n,h=>by
  have hp:=g.cnt_pos;have e1:(g :: r).all Gl.shape=(g.shape && r.all Gl.shape):=rfl;have e2:Gl.cnts (g :: r)=g.cnt+Gl.cnts r:=by simp only [Gl.cnts]
  rw [Gl.nodeL];by_cases hs:g.shape=true
  ·by_cases hc:(g.cnt:Int)<=room - n
   ·have hn:g.nodes (room - n)=g.cnt:=by unfold Gl.nodes;rw [if_pos ⟨hs,hc⟩]
    rw [hn,if_neg (by omega),Gl.nodeL_eq r room _ (by omega)];by_cases hx:r.all Gl.shape=true/\n+(g.cnt:Int)+(Gl.cnts r:Int)<=room
    ·rw [if_pos hx,if_pos ⟨by rw [e1];simp only [hs,hx.1,p_],by rw [e2];omega⟩,e2];omega
    ·rw [if_neg hx,if_neg (fun h=>hx ⟨by have h1:=h.1;rw [e1,hs,o_] at h1;exact h1,by have h2:=h.2;rw [e2] at h2;omega⟩)]
   ·have hn:g.nodes (room - n)=-1:=by unfold Gl.nodes;rw [if_neg (by omega)]
    rw [hn,if_pos (by omega),if_neg (fun h=>by have h2:=h.2;rw [e2] at h2;omega)]
  ·have hn:g.nodes (room - n)=-1:=Gl.nodes_bad (by simpa using hs)
   rw [hn,if_pos (by omega),if_neg (fun h=>by have h1:=h.1;rw [e1] at h1;simp [hs] at h1)]
theorem Gl.nodes_kids {g:Gl} {room:Int} (hf:g.form=true) (ht:g.terms.all L9=true) (hr:1<=room):g.nodes room=Gl.nodeL g.goals room 1:=by
 rw [Gl.nodeL_eq _ _ _ hr];unfold Gl.nodes;rw [Gl.shape_eq,hf,ht,Gl.cnt_eq];simp only [o_];split<;>split<;>simp_all<;>omega
theorem bJ1 {k n:Int} (h0:0<=k) (h1:k<=10) {Q:List D->Prop} (h:Q [.int .i64 (if k=9 then n else r9 k)]) :
  idx [[.int .i64 0],[.int .i64 0],[.int .i64 2],[.int .i64 2],[.int .i64 1],[.int .i64 1],[.int .i64 2],[.int .i64 0],[.int .i64 0],[.int .i64 n],[.int .i64 0]] k.toNat Q:=by
 have hc:k=0\/k=1\/k=2\/k=3\/k=4\/k=5\/k=6\/k=7\/k=8\/k=9\/k=10:=by omega
 rcases hc with rfl | rfl | rfl | rfl | rfl | rfl | rfl | rfl | rfl | rfl | rfl<;>(intro x hx;simp at hx;subst hx;simpa [r9] using h)
def aa5:List Int->Int->List Int
 | [],n=>[n]
 | x :: r,n=>if x<n then x :: aa5 r n else if x=n then x :: r else n :: x :: r
abbrev Asc (l:List Int):Prop:=l.Pairwise (·<·)
theorem aF0 {x n:Int}:∀{l:List Int},x∈aa5 l n↔x=n\/x∈l
 | []=>by simp [aa5]
 | y :: r=>by
  have ih:=aF0 (x:=x) (n:=n) (l:=r);unfold aa5;split
  ·simp only [c_,ih];constructor<;>(rintro (h | h | h)<;>simp [h])
  ·split
   ·rename_i h;subst h;simp
   ·simp
theorem aX2 {n:Int}:∀{l:List Int},Asc l->Asc (aa5 l n)
 | [],_=>by simp [aa5,Asc]
 | y :: r,h=>by
  have h':=h_.1 h;unfold aa5;split
  ·refine h_.2 ⟨fun x hx=>?_,aX2 h'.2⟩
   rcases aF0.1 hx with rfl | hx
   ·assumption
   ·exact h'.1 x hx
  ·split
   ·exact h
   ·refine h_.2 ⟨fun x hx=>?_,h⟩
    rcases c_.1 hx with rfl | hx
    ·omega
    ·have:=h'.1 x hx;omega
theorem aX1 {n:Int}:∀{l:List Int},(aa5 l n).length<=l.length+1
 | []=>by simp [aa5]
 | y :: r=>by
  have ih:=aX1 (n:=n) (l:=r);unfold aa5;split
  ·simp only [a_];omega
  ·split<;>simp
def headA (n:Int):List Int->List Int
 | []=>[n]
 | x :: r=>if x=n then x :: r else n :: x :: r
theorem aA7 {n:Int} {b:List Int} (hb:∀x,x∈b->n<=x):∀{a:List Int},(∀x,x∈a->x<n)->aa5 (a++b) n=a++headA n b
 | [],_=>by
  cases b with
  | nil=>rfl
  | cons x r =>
   have:=hb x (by simp);simp only [List.nil_append,aa5,headA];rw [if_neg (by omega)]
 | y :: a,ha=>by
  have:=ha y (by simp);simp only [j_,aa5];rw [if_pos this,aA7 hb (fun x hx=>ha x (by simp [hx]))]
theorem aT4:∀{l l':List Int},Asc l->Asc l'->(∀x,x∈l↔x∈l')->l=l'
 | [],[],_,_,_=>rfl
 | [],y :: r,_,_,h=>by have:=(h y).2 (by simp);simp at this
 | y :: r,[],_,_,h=>by have:=(h y).1 (by simp);simp at this
 | x :: r,y :: r',h1,h2,h=>by
  have a1:=h_.1 h1;have a2:=h_.1 h2;have exy:x=y:=by
   rcases c_.1 ((h x).1 (by simp)) with e | e
   ·exact e
   ·rcases c_.1 ((h y).2 (by simp)) with e' | e'
    ·exact e'.symm
    ·have:=a2.1 x e;have:=a1.1 y e';omega
  subst exy;congr 1;refine aT4 a1.2 a2.2 (fun z=>⟨fun hz=>?_,fun hz=>?_⟩)
  ·rcases c_.1 ((h z).1 (by simp [hz])) with e | e
   ·have:=a1.1 z hz;omega
   ·exact e
  ·rcases c_.1 ((h z).2 (by simp [hz])) with e | e
   ·have:=a2.1 z hz;omega
   ·exact e
theorem bI9 {l:List Int} {n:Int} {k:Nat} (ha:Asc l) (h1:∀j x,k<=j->l[j]? = some x->n<=x) (h2:k=0\/∃x,l[k - 1]? = some x/\x<n) :
  aa5 l n=if l[k]? = some n then l else l.take k++([n]++l.drop k):=by
 have hb:∀x,x∈l.drop k->n<=x:=fun x hx=>by
  obtain ⟨j,hj⟩:=q_.1 hx;rw [List.getElem?_drop] at hj;exact h1 _ x (by omega) hj
 have hlt:∀x,x∈l.take k->x<n:=fun x hx=>by
  obtain ⟨j,hj⟩:=q_.1 hx;rw [List.getElem?_take] at hj;split at hj
  ·rename_i hjk
   rcases h2 with rfl | ⟨y,hy,hyn⟩
   ·omega
   ·by_cases e:j=k - 1
    ·rw [e,hy] at hj;cases hj;exact hyn
    ·obtain ⟨g1,g2⟩:=f_.1 hj
     obtain ⟨g3,g4⟩:=f_.1 hy;have:=m_.1 ha j (k - 1) g1 g3 (by omega);omega
  ·cases hj
 have hd:l[k]? = (l.drop k)[0]?:=by rw [List.getElem?_drop];simp
 have e:=aA7 (n:=n) hb hlt;rw [t_] at e;rw [e,hd];cases hq:l.drop k with
 | nil=>simp [headA]
 | cons x r =>
  by_cases hxn:x=n
  ·subst hxn
   simp only [headA,if_pos,List.getElem?_cons_zero];rw [<-hq,t_]
  ·simp [headA,hxn]
theorem ap0:∀(n:Nat) (l:List Nat),l.Nodup->(∀x,x∈l->x<n)->l.length<=n
 | 0,l,_,h=>by
  cases l with
  | nil=>simp
  | cons x r=>have:=h x (by simp);omega
 | n+1,l,hn,h=>by
  have ih:=ap0 n (l.erase n) (hn.erase n) (fun x hx=>by
   have h1:=(List.Nodup.mem_erase_iff hn).1 hx;have:=h x h1.2;have:=h1.1;omega)
  have:l.length<=(l.erase n).length+1:=by rw [List.length_erase];split<;>omega
  omega
def O7 (l:List Int):List Int:=l.foldl aa5 []
theorem Y4:∀{vs l:List Int},Asc l->Asc (vs.foldl aa5 l)
 | [],_,h=>h
 | v :: vs,l,h=>Y4 (vs:=vs) (aX2 h)
theorem av4 {x:Int}:∀{vs l:List Int},x∈vs.foldl aa5 l↔x∈vs\/x∈l
 | [],l=>by simp
 | v :: vs,l=>by
  rw [g_,av4 (vs:=vs),aF0,c_,or_left_comm,or_assoc]
theorem ac3:∀{vs l:List Int},(vs.foldl aa5 l).length<=l.length+vs.length
 | [],l=>by simp
 | v :: vs,l=>by
  have:=ac3 (vs:=vs) (l:=aa5 l v);have:=aX1 (n:=v) (l:=l);simp only [g_,a_];omega
theorem ai8 (l:List Int):Asc (O7 l):=Y4 (by simp [Asc])
theorem R9 {l:List Int} {x:Int}:x∈O7 l↔x∈l:=by unfold O7;rw [av4];simp
theorem aN2 {l l':List Int} (h:∀x,x∈l↔x∈l'):O7 l=O7 l':=aT4 (ai8 l) (ai8 l') (fun x=>by rw [R9,R9,h])
theorem aG6 {l:List Int}:O7 l=[]↔l=[]:=by
 constructor
 ·intro h
  cases l with
  | nil=>rfl
  | cons x r=>have:x∈O7 (x :: r):=R9.2 (by simp);rw [h] at this;simp at this
 ·rintro rfl;rfl
theorem bv7 {ks:List Int} (h:ks.Nodup):(ks.mergeSort fun x y=>decide (x<=y))=O7 ks:=by
 refine aT4 ?_ (ai8 ks) (fun x=>by rw [List.mem_mergeSort,R9]);have h1:(ks.mergeSort fun x y=>decide (x<=y)).Pairwise fun a b=>decide (a<=b)=true:=
  List.pairwise_mergeSort (fun a b c h1 h2=>by simp at *;omega) (fun a b=>by simp;omega) ks
 have h2:(ks.mergeSort fun x y=>decide (x<=y)).Nodup:=(List.mergeSort_perm ks _).nodup_iff.2 h;exact (h1.and h2).imp (fun ⟨a,b⟩=>by simp at a;omega)
def ay1 (ks:List Int) (n:Int):List Int:=if n∈ks then ks else ks++[n]
def ak8 (ks:List Int):List (D×D):=ks.map fun n=>(.int .i64 n,.bool true)
theorem aK4 (n:Int):∀ks:List Int,ak5 (ak8 ks) (.int .i64 n) (.bool true)=ak8 (ay1 ks n)
 | []=>rfl
 | k :: r=>by
  have ih:=aK4 n r;unfold ay1 at ih |-;simp only [ak8,d_,ak5,kEq] at ih |-;by_cases h:n=k
  ·subst h;simp
  ·have h2:¬(n == k)=true:=by simpa using h
   by_cases h3:n∈r
   ·rw [if_pos h3] at ih
    rw [if_pos (by simp [h3])];simp [h,ih]
   ·rw [if_neg h3] at ih
    rw [if_neg (by simp [h,h3])];simp [h,ih]
theorem ab9 (ks:List Int):(ak8 ks).length=ks.length:=by simp [ak8]
theorem bB4 {ks:List Int} {n x:Int}:x∈ay1 ks n↔x=n\/x∈ks:=by
 unfold ay1;split
 ·constructor
  ·exact .inr
  ·rintro (rfl | h)
   ·assumption
   ·exact h
 ·simp [or_comm]
theorem bh0 {ks:List Int} {n:Int} (h:ks.Nodup):(ay1 ks n).Nodup:=by
 unfold ay1;split
 ·exact h
 ·rename_i hn
  rw [List.nodup_append];exact ⟨h,by simp,fun a ha b hb=>by simp at hb;subst hb;intro e;subst e;exact hn ha⟩
theorem bB5 {ks:List Int} {n:Int}:(ay1 ks n).length<=ks.length+1:=by unfold ay1;split<;>simp
theorem aM1 {x:Int}:∀{vs ks:List Int},x∈vs.foldl ay1 ks↔x∈vs\/x∈ks
 | [],l=>by simp
 | v :: vs,l=>by
  rw [g_,aM1 (vs:=vs),bB4,c_,or_left_comm,or_assoc]
theorem av3:∀{vs ks:List Int},ks.Nodup->(vs.foldl ay1 ks).Nodup
 | [],_,h=>h
 | v :: vs,l,h=>av3 (vs:=vs) (bh0 h)
theorem aM2:∀{vs ks:List Int},(vs.foldl ay1 ks).length<=ks.length+vs.length
 | [],l=>by simp
 | v :: vs,l=>by
  have:=aM2 (vs:=vs) (ks:=ay1 l v);have:=bB5 (n:=v) (ks:=l);simp only [g_,a_];omega
theorem aL5 (a b:List Int):x9 (a++b)=x9 a++x9 b:=by simp [x9]
theorem X8 (a:List Int):(x9 a).length=a.length:=by simp [x9]
theorem bo8 (n:Int):x9 [n]=[[.int .i64 n]]:=rfl
theorem by0 {ks:List Int} {i:Nat} {p:D×D} (h:(ak8 ks)[i]? = some p):∃k,ks[i]? = some k/\p=(.int .i64 k,.bool true):=by
 simp only [ak8,List.getElem?_map,Option.map_eq_some_iff] at h;obtain ⟨k,h1,rfl⟩:=h;exact ⟨k,h1,rfl⟩
theorem by6 (l:List Int) (j:Nat) (Q:List D->Prop):idx (x9 l) j Q=idx l j (fun n=>Q [.int .i64 n]):=bp1 _ _ _ _
theorem be0 (l:List Int) (k:Nat):(x9 l).take k=x9 (l.take k):=by simp [x9]
theorem be2 (l:List Int) (k:Nat):(x9 l).drop k=x9 (l.drop k):=by simp [x9]
theorem be1 (l:List Int):(∀y,y∈x9 l->y.length=1)=True:=by
 simp only [eq_iff_iff,iff_true];intro y hy;obtain ⟨n,_,rfl⟩:=i_.1 hy;rfl
attribute [go_sem] by6 be0 be2 be1 X8 ab9
theorem bb8 {ks:List Int} {seen:List Nat} (hn:ks.Nodup) (h1:seen.Nodup) (h2:∀i,i∈seen->i<ks.length) (h3:∀i,i<ks.length->i∈seen) :
  (seen.map fun i=>ks.getD i 0).Nodup/\∀x,x∈(seen.map fun i=>ks.getD i 0)↔x∈ks:=by
 have hg:∀i (h:i<ks.length),ks.getD i 0=ks[i]:=fun i h=>by simp [h]
 refine ⟨?_,fun x=>⟨fun hx=>?_,fun hx=>?_⟩⟩
 ·refine List.pairwise_map.2 (List.Pairwise.imp_of_mem ?_ h1)
  intro a b ha hb hab e;rw [hg a (h2 a ha),hg b (h2 b hb)] at e;have hp:=m_.1 hn;rcases Nat.lt_trichotomy a b with h | h | h
  ·exact hp a b (h2 a ha) (h2 b hb) h e
  ·exact hab h
  ·exact hp b a (h2 b hb) (h2 a ha) h e.symm
 ·obtain ⟨i,hi,rfl⟩:=i_.1 hx
  rw [hg i (h2 i hi)];exact List.getElem_mem _
 ·obtain ⟨i,hi,rfl⟩:=List.mem_iff_getElem.1 hx
  exact i_.2 ⟨i,h3 i hi,hg i hi⟩
mutual
def Tm.vars:Tm->List Int
 | .mk k i _ az=>if k=1 then [i] else Tm.varss az
def Tm.varss:List Tm->List Int
 | []=>[]
 | t :: r=>Tm.vars t++Tm.varss r
end
theorem Tm.vars_eq (t:Tm):t.vars=if t.kind=1 then [t.int] else Tm.varss t.args:=by cases t;simp only [Tm.vars,Tm.kind,Tm.int,Tm.args];rfl
theorem Tm.varss_eq:∀l:List Tm,Tm.varss l=l.flatMap Tm.vars
 | []=>rfl
 | t :: r=>by simp only [Tm.varss,b_,Tm.varss_eq r]
def V.vars:V->List Int
 | .var n=>[n]
 | .pair a b=>a.vars++b.vars
 | _=>[]
theorem V.vars_tm:∀v:V,v.tm.vars=v.vars
 | .nil=>rfl
 | .var n=>by simp [V.tm,V.vars,Tm.vars]
 | .sym _=>by simp [V.tm,V.vars,Tm.vars,Tm.varss]
 | .num _=>by simp [V.tm,V.vars,Tm.vars,Tm.varss]
 | .pair a b=>by simp [V.tm,V.vars,Tm.vars,Tm.varss,V.vars_tm a,V.vars_tm b]
theorem Tm.vars_cnt:∀t:Tm,t.vars.length<=t.cnt:=by
 intro t;induction t using Tm.ind with
 | h k i n az ih =>
  have key:∀(l:List Tm),(∀x,x∈l->x∈az)->(Tm.varss l).length<=Tm.cnts l:=by
   intro l;induction l with
   | nil=>intro _;simp [Tm.varss]
   | cons x r ihr =>
    intro hl;have h1:=ih x (hl x (by simp));have h2:=ihr (fun x hx=>hl x (by simp [hx]));simp only [Tm.varss,Tm.cnts,l_];omega
  have:=key az (fun x hx=>hx);simp only [Tm.vars,Tm.cnt];split
  ·simp only [a_,List.length_nil];omega
  ·omega
theorem Tm.vars_wt (t:Tm):t.vars.length<=1+wtL t.enc:=Nat.le_trans (Tm.vars_cnt t) (cnt_le_wt t)
theorem aU2:∀l:List Tm,(Tm.varss l).length<=wtR (l.map Tm.enc)
 | []=>by simp [Tm.varss]
 | t :: r=>by
  have:=aU2 r;have:=Tm.vars_wt t;simp only [Tm.varss,d_,wtR,l_];omega
mutual
def Gl.vars:Gl->List Int
 | .mk _ _ ts gs=>Tm.varss ts++Gl.varss gs
def Gl.varss:List Gl->List Int
 | []=>[]
 | t :: r=>Gl.vars t++Gl.varss r
end
theorem Gl.vars_eq (t:Gl):t.vars=Tm.varss t.terms++Gl.varss t.goals:=by cases t;simp only [Gl.vars,Gl.terms,Gl.goals]
theorem Gl.varss_eq:∀l:List Gl,Gl.varss l=l.flatMap Gl.vars
 | []=>rfl
 | t :: r=>by simp only [Gl.varss,b_,Gl.varss_eq r]
theorem Gl.vars_wt:∀t:Gl,t.vars.length<=wtL t.enc:=by
 intro t;induction t using Gl.ind' with
 | h t ih =>
  have key:∀(l:List Gl),(∀x,x∈l->x∈t.goals)->(Gl.varss l).length<=wtR (l.map Gl.enc):=by
   intro l;induction l with
   | nil=>intro _;simp [Gl.varss]
   | cons x r ihr =>
    intro hl;have h1:=ih x (hl x (by simp));have h2:=ihr (fun x hx=>hl x (by simp [hx]));simp only [Gl.varss,d_,wtR,l_];omega
  have:=key t.goals (fun x hx=>hx);have:=aU2 t.terms;rw [Gl.vars_eq,l_];simp only [Gl.enc_eq t,wtL,D.wt];omega
mutual
def Gl.subs:Gl->List Gl
 | .mk k n ts gs=>.mk k n ts gs :: Gl.subss gs
def Gl.subss:List Gl->List Gl
 | []=>[]
 | t :: r=>Gl.subs t++Gl.subss r
end
theorem Gl.subs_eq (t:Gl):t.subs=t :: Gl.subss t.goals:=by cases t;simp only [Gl.subs,Gl.goals]
theorem Gl.subss_eq:∀l:List Gl,Gl.subss l=l.flatMap Gl.subs
 | []=>rfl
 | t :: r=>by simp only [Gl.subss,b_,Gl.subss_eq r]
theorem Gl.subs_ind {Q:Gl->Prop} (h:∀t,Q t->∀x,x∈t.goals->Q x):∀(t:Gl),Q t->∀x,x∈t.subs->Q x:=by
 intro t;induction t using Gl.ind' with
 | h t ih =>
  intro hq x hx;rw [Gl.subs_eq,Gl.subss_eq] at hx;rcases c_.1 hx with rfl | hx
  ·exact hq
  ·obtain ⟨y,hy,hxy⟩:=List.mem_flatMap.1 hx
   exact ih y hy (h t hq y hy) x hxy
theorem Gl.vars_subs:∀t:Gl,t.vars=t.subs.flatMap fun x=>Tm.varss x.terms:=by
 intro t;induction t using Gl.ind' with
 | h t ih =>
  rw [Gl.vars_eq,Gl.subs_eq,b_,Gl.varss_eq,Gl.subss_eq,List.flatMap_assoc];congr 1;have:∀(l:List Gl),(∀x,x∈l->x∈t.goals)->l.flatMap Gl.vars=l.flatMap fun x=>x.subs.flatMap fun x=>Tm.varss x.terms:=by
   intro l;induction l with
   | nil=>intro _;rfl
   | cons x r ihr =>
    intro hl;rw [b_,b_,ih x (hl x (by simp)),ihr (fun x hx=>hl x (by simp [hx]))]
  exact this _ (fun x hx=>hx)
theorem ai4 {α β γ:Type} (f:γ->β->γ) (g:α->List β):∀(l:List α) (c:γ),(l.flatMap g).foldl f c=l.foldl (fun c x=>(g x).foldl f c) c
 | [],_=>rfl
 | x :: r,c=>by rw [b_,List.foldl_append,ai4 f g r];rfl
theorem bi8 {t:Tm} (h:L9 t=true):∃v:V,t=v.tm/\v.fine=true:=by
 unfold L9 Tm.ok? at h;split at h
 ·rename_i v hv;exact ⟨v,Tm.of_v? _ _ hv,Tm.fine_of _ _ hv⟩
 ·cases h
theorem Gl.shape_sub {t:Gl} (h:t.shape=true):∀x,x∈t.subs->x.shape=true:=
 Gl.subs_ind (Q:=fun t=>t.shape=true) (fun t h x hx=>by
  rw [Gl.shape_eq] at h;simp only [e_,k_] at h;exact h.2 x hx) t h
theorem Gl.shape_terms {t:Gl} (h:t.shape=true):∀x,x∈t.terms->L9 x=true:=by
 rw [Gl.shape_eq] at h;simp only [e_,k_] at h;exact h.1.2
def V.has (tag:List UInt8):V->Bool
 | .sym s=>decide (s=tag)
 | .pair a b=>a.has tag || b.has tag
 | _=>false
theorem V.has_eq (tag:List UInt8) (v:V):v.has tag=(v.kids.any (V.has tag) || (decide (v.kind=2) && decide (v.name=tag))):=by
 cases v<;>simp [V.has,V.kids,V.kind,V.name]<;>rfl
theorem V.ind {Q:V->Prop} (h:∀v:V,(∀x,x∈v.kids->Q x)->Q v):∀v,Q v:=by
 intro v;induction v with
 | pair a b iha ihb=>exact h _ (fun x hx=>by simp [V.kids] at hx;rcases hx with rfl | rfl<;>assumption)
 | _=>exact h _ (fun x hx=>by simp [V.kids] at hx)
def Tm.V (t:Tm):V:=t.v?.getD .nil
theorem Tm.V_of {t:Tm} (h:L9 t=true):t=t.V.tm:=by
 obtain ⟨v,rfl,hv⟩:=bi8 h;simp [Tm.V,V.v?_tm v hv]
theorem Tm.enc_V {t:Tm} (h:L9 t=true):t.enc=t.V.enc:=by rw [V.enc,<-Tm.V_of h]
theorem Tm.vars_V {t:Tm} (h:L9 t=true):t.vars=t.V.vars:=by rw [<-V.vars_tm,<-Tm.V_of h]
theorem Tm.kind_V {t:Tm} (h:L9 t=true):t.kind=t.V.kind:=by
 conv=>lhs;rw [Tm.V_of h]
 cases t.V<;>rfl
theorem Tm.name_V {t:Tm} (h:L9 t=true):t.name=t.V.name:=by
 conv=>lhs;rw [Tm.V_of h]
 cases t.V<;>rfl
def Gl.test (g:Gl):Bool:=
 match g.kind,g.terms with
 | 0,_=>true
 | 2,[a,b]=>decide (a.V.cmp b.V=0)
 | 3,[a,b]=>!decide (a.V.cmp b.V=0)
 | 4,[a]=>decide (a.kind=2)
 | 5,[a]=>decide (a.kind=3)
 | 6,[a,b]=>!b.V.has a.name
 | _,_=>false
theorem Y1 {g:Gl} (h:aa4 g=true):g.shape=true:=by unfold aa4 at h;simp at h;exact h.2
theorem bp9 {g:Gl} (h:aa4 g=true):g.form=true:=by
 have:=Y1 h;rw [Gl.shape_eq] at this;simp only [e_] at this;exact this.1.1
theorem bn4 {α:Type} {l:List α} (h:(l.length:Int)=2):∃a b,l=[a,b]:=by
 match l,h with
 | [a,b],_=>exact ⟨a,b,rfl⟩
 | [],h=>simp at h
 | [_],h=>simp at h
 | _ :: _ :: _ :: _,h=>simp only [a_] at h;omega
theorem aQ4 {α:Type} {l:List α} (h:(l.length:Int)=1):∃a,l=[a]:=by
 match l,h with
 | [a],_=>exact ⟨a,rfl⟩
 | [],h=>simp at h
 | _ :: _ :: _,h=>simp only [a_] at h;omega
theorem Gl.simple_cases {g:Gl} (h:aa4 g=true) (hk:g.kind<=6) :
  ((g.kind=0\/g.kind=1)/\g.terms=[])\/((g.kind=2\/g.kind=3\/g.kind=6)/\∃a b,g.terms=[a,b]/\L9 a=true/\L9 b=true)\/((g.kind=4\/g.kind=5)/\∃a,g.terms=[a]/\L9 a=true):=by
 have hf:=Gl.form_inv (bp9 h);have ht:=Gl.shape_terms (Y1 h);have ha:g.kind=0\/g.kind=1\/g.kind=2\/g.kind=3\/g.kind=4\/g.kind=5\/g.kind=6:=by omega
 have h0:(g.kind=0\/g.kind=1)->(g.terms.length:Int)=0:=fun hk=>by
  have e:r9 g.kind=0:=by rcases hk with hk | hk<;>rw [hk]<;>rfl
  rw [e] at hf;omega
 have h2:(g.kind=2\/g.kind=3\/g.kind=6)->(g.terms.length:Int)=2:=fun hk=>by
  have e:r9 g.kind=2:=by rcases hk with hk | hk | hk<;>rw [hk]<;>rfl
  rw [e] at hf;omega
 have h1:(g.kind=4\/g.kind=5)->(g.terms.length:Int)=1:=fun hk=>by
  have e:r9 g.kind=1:=by rcases hk with hk | hk<;>rw [hk]<;>rfl
  rw [e] at hf;omega
 by_cases c0:g.kind=0\/g.kind=1
 ·exact .inl ⟨c0,List.eq_nil_of_length_eq_zero (by have:=h0 c0;omega)⟩
 ·by_cases c1:g.kind=4\/g.kind=5
  ·obtain ⟨a,e⟩:=aQ4 (h1 c1)
   exact .inr (.inr ⟨c1,a,e,ht a (by simp [e])⟩)
  ·have c2:g.kind=2\/g.kind=3\/g.kind=6:=by omega
   obtain ⟨a,b,e⟩:=bn4 (h2 c2);exact .inr (.inl ⟨c2,a,b,e,ht a (by simp [e]),ht b (by simp [e])⟩)
def ao2:List Rl->List UInt8->Int->Int
 | [],_,_=>-1
 | r :: q,s,i=>if r.name=s then i else ao2 q s (i+1)
def Pg.find (p:Pg) (s:List UInt8):Int:=ao2 p.rels s 0
theorem av6:∀(l:List Rl) (s:List UInt8) (i:Int),ao2 l s i=-1\/(i<=ao2 l s i/\ao2 l s i<i+l.length)
 | [],_,_=>.inl rfl
 | r :: q,s,i=>by
  have:=av6 q s (i+1);simp only [ao2,a_];split<;>omega
theorem Pg.find_range (p:Pg) (s:List UInt8):p.find s=-1\/(0<=p.find s/\p.find s<p.rels.length):=by
 have:=av6 p.rels s 0;unfold Pg.find;omega
def Pg.fitC (p:Pg) (x:Gl):Bool:=
 !decide (x.kind=9) || match p.rels[(p.find x.name).toNat]? with
  | some r=>decide (0<=p.find x.name) && decide (r.arity=x.terms.length)
  | none=>false
theorem Pg.fitC_other {p:Pg} {x:Gl} (h:x.kind≠9):p.fitC x=true:=by simp [Pg.fitC,h]
theorem Pg.fitC_neg {p:Pg} {x:Gl} (h:x.kind=9) (hf:p.find x.name<0):p.fitC x=false:=by
 simp only [Pg.fitC,h,decide_true,Bool.not_true,Bool.false_or];split
 ·simp;omega
 ·rfl
theorem Pg.fitC_at {p:Pg} {x:Gl} (h:x.kind=9) (hf:0<=p.find x.name) {r:Rl} (hr:p.rels[(p.find x.name).toNat]? = some r):p.fitC x=decide (r.arity=x.terms.length):=by
 simp [Pg.fitC,h,hr,hf]
def Pg.callsFit (p:Pg) (g:Gl):Bool:=g.subs.all p.fitC
theorem af9 {α β:Type} (f:α->List β) (q:β->Bool):∀l:List α,(l.flatMap f).all q=l.all fun x=>(f x).all q
 | []=>rfl
 | x :: r=>by simp only [b_,List.all_append,n_,af9 f q r]
theorem Pg.callsFit_eq (p:Pg) (g:Gl):p.callsFit g=(p.fitC g && g.goals.all p.callsFit):=by
 unfold Pg.callsFit;rw [Gl.subs_eq,n_,Gl.subss_eq,af9]
theorem aM0 {α:Type} (q:α->Bool):∀(l:List α) (b:Bool),l.foldl (fun b x=>b && q x) b=(b && l.all q)
 | [],b=>by simp
 | x :: r,b=>by rw [g_,aM0 q r,n_,Bool.and_assoc]
theorem aL9 {α:Type} (q:α->Bool):∀(l:List α) (b:Bool),l.foldl (fun b x=>b || q x) b=(b || l.any q)
 | [],b=>by simp
 | x :: r,b=>by rw [g_,aL9 q r,List.any_cons,Bool.or_assoc]
def Gl.varsLt (g:Gl) (n:Int):Bool:=g.vars.all fun v=>decide (v<n)
theorem aN0 (l:List Int) (n:Int):((O7 l).all fun v=>decide (v<n))=l.all fun v=>decide (v<n):=by
 rw [Bool.eq_iff_iff];simp only [k_];exact ⟨fun h x hx=>h x (R9.2 hx),fun h x hx=>h x (R9.1 hx)⟩
theorem bg5 {l:List Int} (ha:Asc l) (n:Int) {m:Nat} {x:Int} (hm:m+1=l.length) (hx:l[m]? = some x):(l.all fun v=>decide (v<n))=decide (x<n):=by
 rw [Bool.eq_iff_iff];simp only [k_,decide_eq_true_eq];refine ⟨fun h=>h x (List.mem_of_getElem? hx),fun h y hy=>?_⟩;obtain ⟨j,hj⟩:=q_.1 hy;obtain ⟨g1,g2⟩:=f_.1 hj;obtain ⟨g3,g4⟩:=f_.1 hx;by_cases e:j=m
 ·subst e;rw [hj] at hx;cases hx;exact h
 ·have:=m_.1 ha j m g1 g3 (by omega);omega
def Pg.relOk (p:Pg) (i:Nat) (r:Rl):Bool:=
 decide (p.find r.name=i) && U0 r.name && decide (0<=r.arity/\r.arity<=4) && decide (0<=r.locals/\r.locals<=8) && decide (r.body.cnt<=60) && r.body.shape && r.body.varsLt (r.arity+r.locals) && p.callsFit r.body
def Pg.okL (p:Pg):List Rl->Bool
 | []=>true
 | r :: q=>p.relOk (p.rels.length - (q.length+1)) r && Pg.okL p q
def X6 (p:Pg):Bool:=decide (p.rels.length<=8) && p.okL p.rels
theorem ap6 {α:Type} {l r:List α} {x:α} {i:Nat} (h:l.drop i=x :: r):l.length - (r.length+1)=i:=by
 have:=congrArg List.length h;simp only [List.length_drop,a_] at this;omega
theorem ak3 {p:Pg}:∀{l:List Rl},p.okL l=true->∀r,r∈l->∃i,p.relOk i r=true
 | [],_,_,h=>by simp at h
 | x :: q,ho,r,h=>by
  simp only [Pg.okL,e_] at ho;rcases c_.1 h with rfl | h
  ·exact ⟨_,ho.1⟩
  ·exact ak3 ho.2 r h
theorem Rl.wt_body (r:Rl):wtL r.body.enc<=wtL r.enc/\r.name.length<=wtL r.enc:=by
 simp only [Rl.enc_eq,Gl.enc_eq,wtL,D.wt];omega
theorem Pg.wt_rels {p:Pg} {r:Rl} (h:r∈p.rels):wtL r.enc<wtL p.enc:=by
 have:=G7 (p.rels.map Rl.enc) r.enc (i_.2 ⟨r,h,rfl⟩);simp only [Pg.enc_eq,wtL,D.wt];omega
def Pg.fits (p:Pg) (g:Gl) (n:Int):Bool:=aa4 g && g.varsLt n && p.callsFit g
def Gl.onlyK (pure:Bool) (k:Int):Bool:=decide (k≠10) && !(pure && (decide (3<=k) && decide (k<=6)))
def Gl.only (pure:Bool) (g:Gl):Bool:=g.subs.all fun x=>Gl.onlyK pure x.kind
theorem Gl.only_eq (pure:Bool) (g:Gl):g.only pure=(g.goals.all (Gl.only pure) && Gl.onlyK pure g.kind):=by
 unfold Gl.only;rw [Gl.subs_eq,n_,Gl.subss_eq,af9,Bool.and_comm]
theorem Gl.only_neg (g:Gl):(g.subs.any fun x=>decide (x.kind=10))=!g.only false:=by
 unfold Gl.only;rw [List.not_all_eq_any_not];congr 1;funext x
 simp [Gl.onlyK]
def Pg.all (pure:Bool) (p:Pg):Bool:=X6 p && p.rels.all fun r=>r.body.only pure
def Tm.ground (t:Tm):Bool:=L9 t && decide (t.vars=[])
def Pg.factFits (p:Pg) (f:Fc):Bool:=
 match p.rels[(p.find f.rel).toNat]? with
 | some r=>decide (0<=p.find f.rel) && decide (r.arity=f.args.length) && f.args.all Tm.ground
 | none=>false
theorem Pg.factFits_neg {p:Pg} {f:Fc} (h:p.find f.rel<0):p.factFits f=false:=by
 unfold Pg.factFits;split
 ·simp;omega
 ·rfl
theorem Pg.factFits_at {p:Pg} {f:Fc} (h:0<=p.find f.rel) {r:Rl} (hr:p.rels[(p.find f.rel).toNat]? = some r):p.factFits f=(decide (r.arity=f.args.length) && f.args.all Tm.ground):=by
 simp [Pg.factFits,h,hr]
theorem N8 {α:Type} {a:List α} {x y:α} {r:List α} {i:Nat} (h:a.length=i):(a++x :: r).set i y=a++y :: r:=by subst h;simp
theorem ap7 {α:Type} {a:List α} {x:α} {r:List α} {i:Nat} (h:a.length=i):(a++x :: r)[i]? = some x:=by subst h;simp
theorem E9 {p:(Nat->Prop)->Prop} (h:∀B,p B):∀B,p B:=h
theorem H6 {α:Type} {l:List α} {p:Prop} {z:Nat->Prop} {Q:Nat->Nat->(Nat->Prop)->(Nat->Prop)->Prop} (h:l=[]->p) (k:l≠[]->∀zk e' B1 B2,z zk->Q zk e' B1 B2):(l=[]->p)/\(l≠[]->∀(zk e':Nat) (B1 B2:Nat->Prop),z zk->Q zk e' B1 B2):=⟨h,k⟩
def bt6:Nat->Nat->List UInt8->List UInt8
 | 0,_,acc=>acc
 | fuel+1,k,acc=>if k=0 then acc else bt6 fuel (k / 10) (UInt8.ofNat (48+k % 10) :: acc)
theorem aw1:∀(f1 f2 k:Nat) (acc:List UInt8),k<=f1->k<=f2->bt6 f2 k acc=bt6 f1 k acc
 | 0,0,k,acc,_,_=>rfl
 | 0,f2+1,k,acc,h1,_=>by
  obtain rfl:k=0:=by omega
  simp [bt6]
 | f1+1,0,k,acc,_,h2=>by
  obtain rfl:k=0:=by omega
  simp [bt6]
 | f1+1,f2+1,k,acc,h1,h2=>by
  simp only [bt6];split
  ·rfl
  ·exact aw1 f1 f2 (k / 10) _ (by omega) (by omega)
def T9 (k:Int):List UInt8:=[109]++(if k<=0 then [48] else bt6 k.toNat k.toNat [])
mutual
def Tm.mcnt:Tm->Nat
 | .mk _ _ _ az=>3+Tm.mcnts az
def Tm.mcnts:List Tm->Nat
 | []=>0
 | t :: r=>Tm.mcnt t+Tm.mcnts r
end
theorem Tm.mcnt_eq (t:Tm):t.mcnt=3+Tm.mcnts t.args:=by cases t;simp only [Tm.mcnt,Tm.args]
mutual
def Tm.mrk (k:Int):Tm->Tm
 | .mk _ _ _ az=>.mk k (k+1) (T9 (k+2)) (Tm.mrks (k+3) az)
def Tm.mrks (k:Int):List Tm->List Tm
 | []=>[]
 | t :: r=>Tm.mrk k t :: Tm.mrks (k+t.mcnt) r
end
theorem Tm.mrk_eq (k:Int) (t:Tm):t.mrk k=.mk k (k+1) (T9 (k+2)) (Tm.mrks (k+3) t.args):=by cases t;simp only [Tm.mrk,Tm.args]
theorem Tm.mrks_len:∀(l:List Tm) (k:Int),(Tm.mrks k l).length=l.length
 | [],_=>rfl
 | t :: r,k=>by simp [Tm.mrks,Tm.mrks_len r]
theorem Tm.mcnts_app:∀(a b:List Tm),Tm.mcnts (a++b)=Tm.mcnts a+Tm.mcnts b
 | [],b=>by simp [Tm.mcnts]
 | t :: a,b=>by simp only [j_,Tm.mcnts,Tm.mcnts_app a b];omega
theorem Tm.mrks_app:∀(a b:List Tm) (k:Int),Tm.mrks k (a++b)=Tm.mrks k a++Tm.mrks (k+Tm.mcnts a) b
 | [],b,k=>by simp [Tm.mrks,Tm.mcnts]
 | t :: a,b,k=>by
  simp only [j_,Tm.mrks,Tm.mcnts,Tm.mrks_app a b];rw [show k+(t.mcnt:Int)+(Tm.mcnts a:Int)=k+((t.mcnt+Tm.mcnts a:Nat):Int) by omega]
theorem Tm.len_mcnts:∀l:List Tm,l.length<=Tm.mcnts l
 | []=>by simp
 | t :: r=>by have:=Tm.len_mcnts r;have:=Tm.mcnt_eq t;simp only [Tm.mcnts,a_];omega
theorem Tm.mcnt_wt:∀t:Tm,t.mcnt<=3+3 * wtL t.enc:=by
 intro t;induction t using Tm.ind' with
 | h t ih =>
  have key:∀(l:List Tm),(∀x,x∈l->x∈t.args)->Tm.mcnts l<=3 * wtR (l.map Tm.enc):=by
   intro l;induction l with
   | nil=>intro _;simp [Tm.mcnts]
   | cons x r ihr =>
    intro hl;have h1:=ih x (hl x (by simp));have h2:=ihr (fun x hx=>hl x (by simp [hx]));simp only [Tm.mcnts,d_,wtR];omega
  have:=key t.args (fun x hx=>hx);rw [Tm.mcnt_eq];simp only [Tm.enc_eq t,wtL,D.wt];omega
theorem Tm.mcnts_wt:∀l:List Tm,Tm.mcnts l<=3 * wtR (l.map Tm.enc)
 | []=>by simp [Tm.mcnts]
 | t :: r=>by
  have:=Tm.mcnts_wt r;have:=Tm.mcnt_wt t;simp only [Tm.mcnts,d_,wtR];omega
mutual
def Gl.mcnt:Gl->Nat
 | .mk _ _ ts gs=>2+Tm.mcnts ts+Gl.mcnts gs
def Gl.mcnts:List Gl->Nat
 | []=>0
 | t :: r=>Gl.mcnt t+Gl.mcnts r
end
theorem Gl.mcnt_eq (t:Gl):t.mcnt=2+Tm.mcnts t.terms+Gl.mcnts t.goals:=by cases t;simp only [Gl.mcnt,Gl.terms,Gl.goals]
mutual
def Gl.mrk (k:Int):Gl->Gl
 | .mk _ _ ts gs=>.mk k (T9 (k+1)) (Tm.mrks (k+2) ts) (Gl.mrks (k+2+Tm.mcnts ts) gs)
def Gl.mrks (k:Int):List Gl->List Gl
 | []=>[]
 | t :: r=>Gl.mrk k t :: Gl.mrks (k+t.mcnt) r
end
theorem Gl.mrk_eq (k:Int) (t:Gl):t.mrk k=.mk k (T9 (k+1)) (Tm.mrks (k+2) t.terms) (Gl.mrks (k+2+Tm.mcnts t.terms) t.goals):=by cases t;simp only [Gl.mrk,Gl.terms,Gl.goals]
theorem Gl.mrks_len:∀(l:List Gl) (k:Int),(Gl.mrks k l).length=l.length
 | [],_=>rfl
 | t :: r,k=>by simp [Gl.mrks,Gl.mrks_len r]
theorem Gl.mrks_app:∀(a b:List Gl) (k:Int),Gl.mrks k (a++b)=Gl.mrks k a++Gl.mrks (k+Gl.mcnts a) b
 | [],b,k=>by simp [Gl.mrks,Gl.mcnts]
 | t :: a,b,k=>by
  simp only [j_,Gl.mrks,Gl.mcnts,Gl.mrks_app a b];rw [show k+(t.mcnt:Int)+(Gl.mcnts a:Int)=k+((t.mcnt+Gl.mcnts a:Nat):Int) by omega]
theorem Gl.mcnts_app:∀(a b:List Gl),Gl.mcnts (a++b)=Gl.mcnts a+Gl.mcnts b
 | [],b=>by simp [Gl.mcnts]
 | t :: a,b=>by simp only [j_,Gl.mcnts,Gl.mcnts_app a b];omega
theorem Gl.len_mcnts:∀l:List Gl,l.length<=Gl.mcnts l
 | []=>by simp
 | t :: r=>by have:=Gl.len_mcnts r;have:=Gl.mcnt_eq t;simp only [Gl.mcnts,a_];omega
theorem Gl.mcnt_wt:∀t:Gl,t.mcnt<=3+3 * wtL t.enc:=by
 intro t;induction t using Gl.ind' with
 | h t ih =>
  have key:∀(l:List Gl),(∀x,x∈l->x∈t.goals)->Gl.mcnts l<=3 * wtR (l.map Gl.enc):=by
   intro l;induction l with
   | nil=>intro _;simp [Gl.mcnts]
   | cons x r ihr =>
    intro hl;have h1:=ih x (hl x (by simp));have h2:=ihr (fun x hx=>hl x (by simp [hx]));simp only [Gl.mcnts,d_,wtR];omega
  have h1:=key t.goals (fun x hx=>hx);have h2:=Tm.mcnts_wt t.terms;rw [Gl.mcnt_eq];simp only [Gl.enc_eq t,wtL,D.wt];omega
theorem bo7 (l:List Int) (i:Nat) (n:Int):(x9 l).set i [.int .i64 n]=x9 (l.set i n):=by simp [x9,List.map_set]
attribute [go_sem] bo7
end Go.Abs
