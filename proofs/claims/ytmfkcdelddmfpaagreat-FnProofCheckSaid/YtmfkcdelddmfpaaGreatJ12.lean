import Derived.Test.YtmfkcdelddmfpaaGreatJ11
import Derived.Lib.ItoaLen
import Derived.Lib.AtoiAllCases
import Derived.KernelRfl
open Bool renaming and_eq_true->a_,true_and->p_,and_self->w_,eq_iff_iff->C_,or_eq_false_iff->N_,or_eq_true->U_,and_true->Z_,beq_eq_decide_eq->ae_,and_eq_false_imp->af_
open List renaming mem_cons->b_,length_cons->c_,all_eq_true->d_,getElem?_eq_some_iff->e_,pairwise_cons->f_,mem_map->g_,map_cons->h_,length_append->i_,getElem?_eq_getElem->j_,mem_flatMap->l_,flatMap_cons->m_,length_map->n_,cons_append->o_,mem_of_getElem?->q_,mem_append->r_,all_cons->s_,foldl_cons->t_,eq_nil_of_length_eq_zero->u_,length_nil->v_,map_nil->x_,pairwise_iff_getElem->z_,drop_eq_getElem_cons->A_,dropWhile_cons->B_,getElem?_cons_succ->D_,drop_eq_nil_of_le->E_,getElem?_of_mem->G_,append_nil->H_,getD_eq_getElem?_getD->I_,length_take->J_,take_append_drop->K_,mem_iff_getElem?->L_,length_filter_le->M_,takeWhile_cons->Q_,takeWhile_append_of_pos->S_,nil_append->T_,map_map->aa_,all_nil->ab_
open Nat renaming le_refl->k_,le_trans->y_,lt_or_ge->F_,pow_le_pow_right->O_,mul_le_mul_right->P_,pow_le_pow_left->R_,mul_le_mul->W_,succ_mul->ac_,pow_succ->ad_
open Option renaming isSome_iff_exists->V_
open Int renaming tmod_eq_emod_of_nonneg->X_,tdiv_eq_ediv_of_nonneg->Y_
set_option linter.unusedVariables false
set_option linter.unusedSimpArgs false
namespace Go.Abs
def ao8 (s:List UInt8) (i:Nat):Int:=((s[i]?.getD 0).toNat:Int)
def aM0 (s:List UInt8) (i:Nat):Bool:=
 (decide (97<=ao8 s i) && decide (ao8 s i<=122)) || (i != 0 && (ao8 s i == 45 || (decide (48<=ao8 s i) && decide (ao8 s i<=57))))
def F9 (s:List UInt8):Bool:=(List.range s.length).all (aM0 s) && decide (1<=s.length) && decide (s.length<=12)
theorem am2 {s:List UInt8} {i:Nat} (hi:i<s.length) (h:aM0 s i=false):F9 s=false:=by
 unfold F9;have:(List.range s.length).all (aM0 s)=false:=by
  rw [List.all_eq_false];exact ⟨i,by simp [hi],by simp [h]⟩
 simp [this]
theorem aB8 {s:List UInt8} (h:∀j,j<s.length->aM0 s j=true):F9 s=(decide (1<=s.length) && decide (s.length<=12)):=by
 unfold F9;rw [d_.2 (fun j hj=>h j (by simpa using hj)),p_]
theorem ac8 {s:List UInt8} (h:F9 s=true):1<=s.length/\s.length<=12:=by
 unfold F9 at h;simp at h;omega
inductive V where
 | nil
 | var (n:Int)
 | sym (s:List UInt8)
 | num (n:Int)
 | pair (a b:V)
deriving DecidableEq
namespace V
def tm:V->Tm
 | nil=>.mk 0 0 [] []
 | var n=>.mk 1 n [] []
 | sym s=>.mk 2 0 s []
 | num n=>.mk 3 n [] []
 | pair a b=>.mk 4 0 [] [a.tm,b.tm]
def size:V->Nat
 | pair a b=>1+a.size+b.size
 | _=>1
theorem size_pos:∀v:V,1<=v.size
 | nil=>k_ _
 | var _=>k_ _
 | sym _=>k_ _
 | num _=>k_ _
 | pair a b=>by simp only [size];omega
def enc (v:V):List D:=v.tm.enc
theorem enc_nil:enc nil=[.int .i64 0,.int .i64 0,.str [],.sl []]:=rfl
theorem enc_var (n:Int):enc (var n)=[.int .i64 1,.int .i64 n,.str [],.sl []]:=rfl
theorem enc_sym (s:List UInt8):enc (sym s)=[.int .i64 2,.int .i64 0,.str s,.sl []]:=rfl
theorem enc_num (n:Int):enc (num n)=[.int .i64 3,.int .i64 n,.str [],.sl []]:=rfl
theorem enc_pair (a b:V):enc (pair a b)=[.int .i64 4,.int .i64 0,.str [],.sl [a.enc,b.enc]]:=rfl
theorem enc_len (v:V):v.enc.length=4:=Tm.enc_len _
def kind:V->Int
 | nil=>0 | var _=>1 | sym _=>2 | num _=>3 | pair _ _=>4
def int:V->Int
 | var n=>n | num n=>n | _=>0
def name:V->List UInt8
 | sym s=>s | _=>[]
def kids:V->List V
 | pair a b=>[a,b] | _=>[]
theorem enc_eq (v:V):v.enc=[.int .i64 v.kind,.int .i64 v.int,.str v.name,.sl (v.kids.map enc)]:=by cases v<;>rfl
theorem enc_at0 (t:V):(V.enc t)[0]? = some (.int .i64 t.kind):=by rw [enc_eq];rfl
theorem enc_at1 (t:V):(V.enc t)[1]? = some (.int .i64 t.int):=by rw [enc_eq];rfl
theorem enc_at2 (t:V):(V.enc t)[2]? = some (.str t.name):=by rw [enc_eq];rfl
theorem enc_at3 (t:V):(V.enc t)[3]? = some (.sl (t.kids.map enc)):=by rw [enc_eq];rfl
theorem enc_pt0 (t:V):((V.enc t).drop 0).take 1=[.int .i64 t.kind]:=by rw [enc_eq];rfl
theorem enc_pt0' (t:V):(V.enc t).take 1=[.int .i64 t.kind]:=by rw [enc_eq];rfl
theorem enc_pt1 (t:V):((V.enc t).drop 1).take 1=[.int .i64 t.int]:=by rw [enc_eq];rfl
theorem enc_pt2 (t:V):((V.enc t).drop 2).take 1=[.str t.name]:=by rw [enc_eq];rfl
theorem enc_pt3 (t:V):((V.enc t).drop 3).take 1=[.sl (t.kids.map enc)]:=by rw [enc_eq];rfl
theorem encS:type_of% (And.intro enc_len <| And.intro enc_at0 <| And.intro enc_at1 <| And.intro enc_at2 <| And.intro enc_at3 <| And.intro enc_pt0 <| And.intro enc_pt0' <| And.intro enc_pt1 <| And.intro enc_pt2 <| enc_pt3):=And.intro enc_len <| And.intro enc_at0 <| And.intro enc_at1 <| And.intro enc_at2 <| And.intro enc_at3 <| And.intro enc_pt0 <| And.intro enc_pt0' <| And.intro enc_pt1 <| And.intro enc_pt2 <| enc_pt3
end V
attribute [go_sem] V.enc_len V.enc_at0 V.enc_at1 V.enc_at2 V.enc_at3 V.enc_pt0 V.enc_pt0' V.enc_pt1 V.enc_pt2 V.enc_pt3
def mkV (k i:Int) (n:List UInt8) (l:List (Option V)):Option V:=
 if k=4 then (if i=0/\n=[] then (match l with | [some a,some b]=>some (.pair a b) | _=>none) else none)
 else if l≠[] then none
 else if k=0 then (if i=0/\n=[] then some .nil else none)
 else if k=1 then (if 0<=i/\i<=100000/\n=[] then some (.var i) else none)
 else if k=2 then (if i=0/\F9 n=true then some (.sym n) else none)
 else if k=3 then (if -1000000000<=i/\i<=1000000000/\n=[] then some (.num i) else none)
 else none
mutual
def Tm.v?:Tm->Option V
 | .mk k i n az=>mkV k i n (Tm.vs? az)
def Tm.vs?:List Tm->List (Option V)
 | []=>[]
 | t :: r=>Tm.v? t :: Tm.vs? r
end
theorem Tm.vs?_eq:∀l:List Tm,Tm.vs? l=l.map Tm.v?
 | []=>by simp only [Tm.vs?,x_]
 | t :: r=>by simp only [Tm.vs?,h_,Tm.vs?_eq r]
theorem Tm.v?_mk (k i:Int) (n:List UInt8) (az:List Tm):(Tm.mk k i n az).v? = mkV k i n (az.map Tm.v?):=by
 simp only [Tm.v?,Tm.vs?_eq]
theorem aT6 {α β:Type} {f:α->β}:∀{l:List α} {a b:β},l.map f=[a,b]->∃x y,l=[x,y]/\f x=a/\f y=b
 | [],_,_,h=>by simp at h
 | [x],_,_,h=>by simp at h
 | [x,y],_,_,h=>by simp at h;exact ⟨x,y,rfl,h⟩
 | _ :: _ :: _ :: _,_,_,h=>by simp at h
theorem bA5 {k i:Int} {n:List UInt8} {az:List Tm} {v:V} (ih:∀x,x∈az->∀v,x.v? = some v->x=v.tm) (h:mkV k i n (az.map Tm.v?)=some v):Tm.mk k i n az=v.tm:=by
 unfold mkV at h;split at h
 ·rename_i hk
  split at h
  ·rename_i hin
   obtain ⟨rfl,rfl⟩:=hin;split at h
   ·rename_i a b hl
    cases h;obtain ⟨x,y,rfl,h1,h2⟩:=aT6 hl;rw [ih x (by simp) a h1,ih y (by simp) b h2,hk];rfl
   ·cases h
  ·cases h
 ·split at h
  ·cases h
  ·rename_i hl
   have:az=[]:=by cases az<;>simp_all
   subst this;split at h
   ·split at h
    ·rename_i hc;obtain ⟨rfl,rfl⟩:=hc;cases h;simp_all [V.tm]
    ·cases h
   ·split at h
    ·split at h
     ·rename_i hc;obtain ⟨_,_,rfl⟩:=hc;cases h;simp_all [V.tm]
     ·cases h
    ·split at h
     ·split at h
      ·rename_i hc;obtain ⟨rfl,_⟩:=hc;cases h;simp_all [V.tm]
      ·cases h
     ·split at h
      ·split at h
       ·rename_i hc;obtain ⟨_,_,rfl⟩:=hc;cases h;simp_all [V.tm]
       ·cases h
      ·cases h
theorem Tm.of_v?:∀(t:Tm) (v:V),t.v? = some v->t=v.tm:=by
 intro t;induction t using Tm.ind with
 | h k i n az ih =>
  intro v h;rw [Tm.v?_mk] at h;exact bA5 ih h
def V.fine:V->Bool
 | .nil=>true
 | .var n=>decide (0<=n/\n<=100000)
 | .sym s=>F9 s
 | .num n=>decide (-1000000000<=n/\n<=1000000000)
 | .pair a b=>a.fine && b.fine
theorem V.v?_tm:∀v:V,v.fine=true->v.tm.v? = some v
 | .nil,_=>by simp [V.tm,Tm.v?_mk,mkV]
 | .var n,h=>by simp [V.fine] at h;simp [V.tm,Tm.v?_mk,mkV,h]
 | .sym s,h=>by simp [V.fine] at h;simp [V.tm,Tm.v?_mk,mkV,h]
 | .num n,h=>by simp [V.fine] at h;simp [V.tm,Tm.v?_mk,mkV,h]
 | .pair a b,h=>by
  simp [V.fine] at h;simp [V.tm,Tm.v?_mk,mkV,V.v?_tm a h.1,V.v?_tm b h.2]
theorem Tm.fine_of:∀(t:Tm) (v:V),t.v? = some v->v.fine=true:=by
 intro t;induction t using Tm.ind with
 | h k i n az ih =>
  intro v h;rw [Tm.v?_mk] at h;unfold mkV at h;split at h
  ·split at h
   ·split at h
    ·rename_i a b hl
     cases h;obtain ⟨x,y,rfl,h1,h2⟩:=aT6 hl;simp [V.fine,ih x (by simp) a h1,ih y (by simp) b h2]
    ·cases h
   ·cases h
  ·split at h
   ·cases h
   ·split at h
    ·split at h
     ·cases h;rfl
     ·cases h
    ·split at h
     ·split at h
      ·rename_i hc;cases h;simp [V.fine,hc]
      ·cases h
     ·split at h
      ·split at h
       ·rename_i hc;cases h;simp [V.fine,hc]
       ·cases h
      ·split at h
       ·split at h
        ·rename_i hc;cases h;simp [V.fine,hc]
        ·cases h
       ·cases h
def nodes (t:Tm) (room:Int):Int:=match t.v? with
 | some v=>if (v.size:Int)<=room then v.size else -1
 | none=>-1
def Tm.ok? (t:Tm):Option V:=match t.v? with
 | some v=>if v.size<=5000 then some v else none
 | none=>none
def Q5 (t:Tm):Bool:=t.ok?.isSome
theorem nodes_lt {t:Tm} {room:Int} (h:room<1):nodes t room=-1:=by
 unfold nodes;split
 ·rename_i v _
  have:=v.size_pos;rw [if_neg (by omega)]
 ·rfl
theorem nodes_kids (k i:Int) (n:List UInt8) (a b:Tm) {room:Int} (hk:k=4) (hi:i=0) (hn:n=[]) (h:1<=room) :
  nodes (.mk k i n [a,b]) room=if nodes a (room - 1)<0 then -1 else if nodes b (room - 1 - nodes a (room - 1))<0 then -1 else 1+nodes a (room - 1)+nodes b (room - 1 - nodes a (room - 1)):=by
 subst hk hi hn;unfold nodes;rw [Tm.v?_mk];simp only [mkV,if_pos,and_self,h_,x_];cases ha:a.v? with
 | none=>simp
 | some x =>
  cases hb:b.v? with
  | none=>simp
  | some y =>
   have:=x.size_pos;have:=y.size_pos;simp only [V.size];repeat' split
   all_goals omega
theorem nodes_ge {t:Tm} {room:Int}:nodes t room=-1\/(1<=nodes t room/\nodes t room<=room):=by
 unfold nodes;split
 ·rename_i v _
  have:=v.size_pos;split<;>omega
 ·exact .inl rfl
theorem aj0 (c:Prop) [Decidable c] (v:V) {room:Int} (hs:v.size=1) (h:1<=room) :
  (match (if c then some v else none:Option V) with | some v=>if (v.size:Int)<=room then (v.size:Int) else -1 | none=>-1)=if c then 1 else -1:=by
 by_cases hc:c
 ·simp only [if_pos hc,hs];rw [if_pos (by omega)];rfl
 ·simp only [if_neg hc]
theorem nodes_leaf (k i:Int) (n:List UInt8) (az:List Tm) {room:Int} (hk:k≠4) (h:1<=room) :
  nodes (.mk k i n az) room=if az≠[] then -1 else if k=0 then (if i=0/\n=[] then 1 else -1) else if k=1 then (if 0<=i/\i<=100000/\n=[] then 1 else -1)
   else if k=2 then (if i=0/\F9 n=true then 1 else -1) else if k=3 then (if -1000000000<=i/\i<=1000000000/\n=[] then 1 else -1) else -1:=by
 unfold nodes;rw [Tm.v?_mk];simp only [mkV,if_neg hk];by_cases ha:az=[]
 ·subst ha
  simp only [x_,ne_eq,not_true_eq_false,if_false];by_cases h0:k=0
  ·simp only [if_pos h0];exact aj0 _ _ rfl h
  ·simp only [if_neg h0]
   by_cases h1:k=1
   ·simp only [if_pos h1];exact aj0 _ _ rfl h
   ·simp only [if_neg h1]
    by_cases h2:k=2
    ·simp only [if_pos h2];exact aj0 _ _ rfl h
    ·simp only [if_neg h2]
     by_cases h3:k=3
     ·simp only [if_pos h3];exact aj0 _ _ rfl h
     ·simp only [if_neg h3]
 ·rw [if_pos (by simpa using ha),if_pos ha]
theorem nodes_bad (k i:Int) (n:List UInt8) (az:List Tm) {room:Int} (hk:k=4) (h:i≠0\/n≠[]\/az.length≠2):nodes (.mk k i n az) room=-1:=by
 unfold nodes;rw [Tm.v?_mk];simp only [mkV,if_pos hk];have:(if i=0/\n=[] then (match az.map Tm.v? with | [some a,some b]=>some (V.pair a b) | _=>none) else none)=none:=by
  split
  ·split
   ·rename_i hl
    obtain ⟨x,y,rfl,_⟩:=aT6 hl;simp_all
   ·rfl
  ·rfl
 rw [this]
theorem Tm.ind' {Q:Tm->Prop} (h:∀t:Tm,(∀x,x∈t.args->Q x)->Q t):∀t,Q t:=by
 intro t;induction t using Tm.ind with
 | h k i n az ih=>exact h _ ih
theorem aT2 (t:Tm) {room:Int} (hk:t.kind≠4) (h:1<=room) :
  nodes t room=if t.args≠[] then -1 else if t.kind=0 then (if t.int=0/\t.name=[] then 1 else -1) else if t.kind=1 then (if 0<=t.int/\t.int<=100000/\t.name=[] then 1 else -1)
   else if t.kind=2 then (if t.int=0/\F9 t.name=true then 1 else -1) else if t.kind=3 then (if -1000000000<=t.int/\t.int<=1000000000/\t.name=[] then 1 else -1) else -1:=by
 cases t;exact nodes_leaf _ _ _ _ hk h
theorem bf1 (t:Tm) {room:Int} (hk:t.kind=4) (h:t.int≠0\/t.name≠[]\/t.args.length≠2):nodes t room=-1:=by
 cases t;exact nodes_bad _ _ _ _ hk h
theorem aT3 (t a b:Tm) (ha:t.args=[a,b]) {room:Int} (hk:t.kind=4) (hi:t.int=0) (hn:t.name=[]) (h:1<=room) :
  nodes t room=if nodes a (room - 1)<0 then -1 else if nodes b (room - 1 - nodes a (room - 1))<0 then -1 else 1+nodes a (room - 1)+nodes b (room - 1 - nodes a (room - 1)):=by
 cases t;simp only [Tm.args] at ha;subst ha;exact nodes_kids _ _ _ _ _ hk hi hn h
theorem bp6 (t:Tm):t.name.length<=wtL t.enc:=by
 rw [Tm.enc_eq];simp only [wtL,D.wt];omega
theorem bA4 (t:Tm):decide (0<nodes t 5000)=Q5 t:=by
 unfold nodes Q5 Tm.ok?;cases h:t.v? with
 | none=>simp
 | some v =>
  have:=v.size_pos;simp only;by_cases h5:v.size<=5000
  ·simp only [if_pos h5,if_pos (show (v.size:Int)<=5000 by omega)];simp;omega
  ·simp only [if_neg h5,if_neg (show ¬(v.size:Int)<=5000 by omega)];simp
mutual
def countF:Tm->Int->Int
 | .mk _ _ _ az,most=>countL az most 1
def countL:List Tm->Int->Int->Int
 | [],_,n=>n
 | t :: r,most,n=>if n > most then n else countL r most (n+countF t (most - n))
end
mutual
def Tm.cnt:Tm->Nat
 | .mk _ _ _ az=>1+Tm.cnts az
def Tm.cnts:List Tm->Nat
 | []=>0
 | t :: r=>Tm.cnt t+Tm.cnts r
end
theorem count_spec:(∀(t:Tm) (most:Int),1<=countF t most/\countF t most<=t.cnt/\((t.cnt:Int)<=most->countF t most=t.cnt)/\(most<t.cnt->most<countF t most)):=by
 intro t;induction t using Tm.ind with
 | h k i nm az ih =>
  have key:∀(l:List Tm),(∀x,x∈l->x∈az)->∀(most n:Int),n<=countL l most n/\countL l most n<=n+Tm.cnts l/\(n+Tm.cnts l<=most->countL l most n=n+Tm.cnts l)/\(most<n+Tm.cnts l->most<countL l most n):=by
   intro l;induction l with
   | nil=>intro _ most n;simp only [countL,Tm.cnts];omega
   | cons t r ihr =>
    intro hl most n;have h1:=ih t (hl t (by simp)) (most - n);have h2:=ihr (fun x hx=>hl x (by simp [hx])) most (n+countF t (most - n));simp only [countL,Tm.cnts];split<;>omega
  intro most;have:=key az (fun x hx=>hx) most 1;simp only [countF,Tm.cnt];omega
theorem cnt_of_v?:∀(t:Tm) (v:V),t.v? = some v->t.cnt=v.size:=by
 intro t v h;have:=Tm.of_v? t v h;subst this;clear h;induction v with
 | pair a b iha ihb=>simp [V.tm,Tm.cnt,Tm.cnts,V.size,iha,ihb];omega
 | _=>rfl
theorem count_ok (t:Tm):(decide (countF t 5000<=5000) && t.v?.isSome)=Q5 t:=by
 have h:=count_spec t 5000;unfold Q5 Tm.ok?;cases hv:t.v? with
 | none=>simp
 | some v =>
  have:=cnt_of_v? t v hv;simp only [Option.isSome_some,Z_];by_cases h5:v.size<=5000
  ·rw [if_pos h5];simp;omega
  ·rw [if_neg h5];simp;omega
theorem bk5:∀t:Tm,(∀n,n=t->t.cnt<=1+wtL t.enc):=by
 intro t;induction t using Tm.ind with
 | h k i n az ih =>
  intro _ _;have key:∀(l:List Tm),(∀x,x∈l->x∈az)->Tm.cnts l<=wtR (l.map Tm.enc):=by
   intro l;induction l with
   | nil=>intro _;simp [Tm.cnts,wtR]
   | cons t r ihr =>
    intro hl;have h1:=ih t (hl t (by simp)) t rfl;have h2:=ihr (fun x hx=>hl x (by simp [hx]));simp only [Tm.cnts,h_,wtR];omega
  have:=key az (fun x hx=>hx);simp only [Tm.cnt,Tm.enc_eq,wtL,D.wt,Tm.args,Tm.name];omega
theorem cnt_le_wt (t:Tm):t.cnt<=1+wtL t.enc:=bk5 t t rfl
theorem ak6 {t x:Tm} (h:x∈t.args):wtL x.enc<wtL t.enc:=by
 have:=ad6 (t.args.map Tm.enc) x.enc (g_.2 ⟨x,h,rfl⟩);simp only [Tm.enc_eq t,wtL,D.wt];omega
theorem aE7 (k i:Int) (n:List UInt8) (az:List Tm):(Tm.mk k i n az).v?.isSome =
  if k≠1/\k≠3/\i≠0\/k≠2/\n≠[]\/k≠4/\0<az.length then false
  else if k=0 then true else if k=1 then (decide (0<=i) && decide (i<=100000)) else if k=2 then F9 n
  else if k=3 then (decide (-1000000000<=i) && decide (i<=1000000000)) else if k=4 then (match az with | [a,b]=>a.v?.isSome && b.v?.isSome | _=>false) else false:=by
 rw [Tm.v?_mk];unfold mkV;by_cases h4:k=4
 ·subst h4
  simp only [if_pos];by_cases hin:i=0/\n=[]
  ·obtain ⟨rfl,rfl⟩:=hin
   simp;match az with
   | []=>rfl
   | [a]=>simp
   | [a,b]=>simp;cases a.v?<;>cases b.v?<;>simp
   | a :: b :: c :: r=>simp
  ·rw [if_neg hin,if_pos];rfl
   by_cases h0:i=0
   ·exact .inr (.inl ⟨by omega,fun h=>hin ⟨h0,h⟩⟩)
   ·exact .inl ⟨by omega,by omega,h0⟩
 ·rw [if_neg h4]
  by_cases ha:az=[]
  ·subst ha
   simp;by_cases h0:k=0
   ·subst h0;simp;split<;>simp_all
   ·by_cases h1:k=1
    ·subst h1;simp;split<;>simp_all<;>(intro h1 h2;apply Int.not_le.1;intro h3;simp_all)
    ·by_cases h2:k=2
     ·subst h2;simp;split<;>simp_all
     ·by_cases h3:k=3
      ·subst h3;simp;split<;>simp_all<;>(intro h1 h2;apply Int.not_le.1;intro h3;simp_all)
      ·simp [*]
  ·have:0<az.length:=by cases az<;>simp_all
   rw [if_pos (by simpa using ha),if_pos (.inr (.inr ⟨h4,this⟩))];rfl
theorem bn5 (t:Tm) (h:t.kind≠1/\t.kind≠3/\t.int≠0\/t.kind≠2/\t.name≠[]\/t.kind≠4/\0<t.args.length):t.v?.isSome=false:=by
 cases t;simp only [Tm.kind,Tm.int,Tm.name,Tm.args] at h;rw [aE7,if_pos h]
theorem bd7 (t:Tm) (h:¬(t.kind≠1/\t.kind≠3/\t.int≠0\/t.kind≠2/\t.name≠[]\/t.kind≠4/\0<t.args.length)) (hk:t.kind≠4) :
  t.v?.isSome=if t.kind=0 then true else if t.kind=1 then (decide (0<=t.int) && decide (t.int<=100000)) else if t.kind=2 then F9 t.name
  else if t.kind=3 then (decide (-1000000000<=t.int) && decide (t.int<=1000000000)) else false:=by
 cases t;simp only [Tm.kind,Tm.int,Tm.name,Tm.args] at h hk |-;rw [aE7,if_neg h];simp only [if_neg hk];rfl
theorem bd6 (t:Tm) (h:¬(t.kind≠1/\t.kind≠3/\t.int≠0\/t.kind≠2/\t.name≠[]\/t.kind≠4/\0<t.args.length)) (hk:t.kind=4) :
  (t.args.length≠2->t.v?.isSome=false)/\∀a b,t.args=[a,b]->t.v?.isSome=(a.v?.isSome && b.v?.isSome):=by
 cases t;simp only [Tm.kind,Tm.int,Tm.name,Tm.args] at h hk |-;rw [aE7,if_neg h];subst hk;refine ⟨fun h2=>?_,fun a b hab=>?_⟩
 ·simp
  split
  ·simp at h2
  ·rfl
 ·subst hab;simp
theorem ok?_tm {t:Tm} {v:V} (h:t.ok? = some v):t=v.tm:=by
 unfold Tm.ok? at h;cases hv:t.v? with
 | none=>simp [hv] at h
 | some v' =>
  simp only [hv] at h;split at h
  ·cases h;exact Tm.of_v? t v hv
  ·cases h
def V.ok (v:V):Bool:=v.fine && decide (v.size<=5000)
theorem ok?_ok {t:Tm} {v:V} (h:t.ok? = some v):v.ok=true:=by
 unfold Tm.ok? at h;cases hv:t.v? with
 | none=>simp [hv] at h
 | some v' =>
  simp only [hv] at h;split at h
  ·cases h;simp [V.ok,Tm.fine_of t v hv];assumption
  ·cases h
theorem bm3 {t:Tm} (h:Q5 t=true):∃v:V,t=v.tm/\v.ok=true:=by
 unfold Q5 at h;obtain ⟨v,hv⟩:=V_.1 h;exact ⟨v,ok?_tm hv,ok?_ok hv⟩
theorem bI7 {v:V} (h:v.ok=true):Q5 v.tm=true:=by
 simp [V.ok] at h;simp [Q5,Tm.ok?,V.v?_tm v h.1,h.2]
theorem D6 (vs:List V):(vs.map V.tm).map Tm.enc=vs.map V.enc:=by simp [V.enc]
def F8 (a b:Int):Int:=if a<b then -1 else if a > b then 1 else 0
def V.cmp (a b:V):Int:=
 if a.kind≠b.kind then (if a.kind<b.kind then -1 else 1)
 else if a.int≠b.int then (if a.int<b.int then -1 else 1)
 else if a.name≠b.name then (if Op.bytesLess a.name b.name then -1 else 1)
 else match a,b with
  | .pair a1 a2,.pair b1 b2=>if V.cmp a1 b1≠0 then V.cmp a1 b1 else V.cmp a2 b2
  | _,_=>0
def V.cmpL:List V->List V->Int
 | a :: r,b :: q=>if V.cmp a b≠0 then V.cmp a b else V.cmpL r q
 | l,m=>F8 l.length m.length
theorem V.pair_or (v:V):(∃x y,v=.pair x y)\/(v.kind≠4/\v.kids=[]):=by
 cases v<;>simp [V.kind,V.kids]
theorem V.cmp_pair (a1 a2 b1 b2:V):V.cmp (.pair a1 a2) (.pair b1 b2)=if V.cmp a1 b1≠0 then V.cmp a1 b1 else V.cmp a2 b2:=by
 rw [V.cmp];simp [V.kind,V.int,V.name]
theorem V.cmp_else {a b:V} (h:a.kind≠4\/b.kind≠4):V.cmp a b=if a.kind≠b.kind then (if a.kind<b.kind then -1 else 1)
 else if a.int≠b.int then (if a.int<b.int then -1 else 1)
 else if a.name≠b.name then (if Op.bytesLess a.name b.name then -1 else 1) else 0:=by
 rw [V.cmp.eq_def];congr 1;congr 1;congr 1;cases a<;>cases b<;>simp_all [V.kind]
theorem V.cmpL_nil_left (l:List V):V.cmpL [] l=F8 0 l.length:=by cases l<;>simp [V.cmpL]
theorem V.cmpL_nil_right (l:List V):V.cmpL l []=F8 l.length 0:=by cases l<;>simp [V.cmpL]
theorem V.cmpL_cons (a b:V) (r q:List V):V.cmpL (a :: r) (b :: q)=if V.cmp a b≠0 then V.cmp a b else V.cmpL r q:=by rw [V.cmpL]
def I6 (r:List UInt8) (a:List V) (q:List UInt8) (b:List V):Int:=
 if r≠q then (if Op.bytesLess r q then -1 else 1) else V.cmpL a b
def reserved:List (List UInt8):=[[116,114,117,101],[102,97,105,108],[115,121,109,98,111,108],[110,117,109,98,101,114],[97,98,115,101,110,116],[97,110,100],[111,114],[110,111,116],[100,101,102,105,110,101]]
def P5 (s:List UInt8):Bool:=!reserved.contains s && F9 s
theorem Gl.ind' {Q:Gl->Prop} (h:∀t:Gl,(∀x,x∈t.goals->Q x)->Q t):∀t,Q t:=by
 intro t;induction t using Gl.ind with
 | h a b c d ih=>exact h _ ih
theorem Gl.wt_goals {t x:Gl} (h:x∈t.goals):wtL x.enc<wtL t.enc:=by
 have:=ad6 (t.goals.map Gl.enc) x.enc (g_.2 ⟨x,h,rfl⟩);simp only [Gl.enc_eq t,wtL,D.wt];omega
theorem Gl.wt_terms {t:Gl} {x:Tm} (h:x∈t.terms):wtL x.enc<wtL t.enc:=by
 have:=ad6 (t.terms.map Tm.enc) x.enc (g_.2 ⟨x,h,rfl⟩);simp only [Gl.enc_eq t,wtL,D.wt];omega
theorem Gl.wt_name (t:Gl):t.name.length<=wtL t.enc:=by
 rw [Gl.enc_eq];simp only [wtL,D.wt];omega
mutual
def Gl.countF:Gl->Int->Int
 | .mk _ _ _ gs,most=>Gl.countL gs most 1
def Gl.countL:List Gl->Int->Int->Int
 | [],_,n=>n
 | t :: r,most,n=>if n > most then n else Gl.countL r most (n+Gl.countF t (most - n))
end
theorem Gl.countF_eq (g:Gl) (most:Int):g.countF most=Gl.countL g.goals most 1:=by cases g;simp only [Gl.countF,Gl.goals]
mutual
def Gl.cnt:Gl->Nat
 | .mk _ _ _ gs=>1+Gl.cnts gs
def Gl.cnts:List Gl->Nat
 | []=>0
 | t :: r=>Gl.cnt t+Gl.cnts r
end
theorem Gl.cnt_eq (g:Gl):g.cnt=1+Gl.cnts g.goals:=by cases g;simp only [Gl.cnt,Gl.goals]
theorem Gl.cnt_pos (g:Gl):1<=g.cnt:=by rw [Gl.cnt_eq];omega
theorem Gl.count_spec:(∀(t:Gl) (most:Int),1<=t.countF most/\t.countF most<=t.cnt/\((t.cnt:Int)<=most->t.countF most=t.cnt)/\(most<t.cnt->most<t.countF most)):=by
 intro t;induction t using Gl.ind' with
 | h t ih =>
  have key:∀(l:List Gl),(∀x,x∈l->x∈t.goals)->∀(most n:Int),n<=Gl.countL l most n/\Gl.countL l most n<=n+Gl.cnts l/\(n+Gl.cnts l<=most->Gl.countL l most n=n+Gl.cnts l)/\(most<n+Gl.cnts l->most<Gl.countL l most n):=by
   intro l;induction l with
   | nil=>intro _ most n;simp only [Gl.countL,Gl.cnts];omega
   | cons x r ihr =>
    intro hl most n;have h1:=ih x (hl x (by simp)) (most - n);have h2:=ihr (fun x hx=>hl x (by simp [hx])) most (n+x.countF (most - n));simp only [Gl.countL,Gl.cnts];split<;>omega
  intro most;have:=key t.goals (fun x hx=>hx) most 1;rw [Gl.countF_eq,Gl.cnt_eq];omega
theorem Gl.cnt_le_wt:∀t:Gl,t.cnt<=1+wtL t.enc:=by
 intro t;induction t using Gl.ind' with
 | h t ih =>
  have key:∀(l:List Gl),(∀x,x∈l->x∈t.goals)->Gl.cnts l<=wtR (l.map Gl.enc):=by
   intro l;induction l with
   | nil=>intro _;simp [Gl.cnts,wtR]
   | cons x r ihr =>
    intro hl;have h1:=ih x (hl x (by simp));have h2:=ihr (fun x hx=>hl x (by simp [hx]));simp only [Gl.cnts,h_,wtR];omega
  have:=key t.goals (fun x hx=>hx);rw [Gl.cnt_eq];simp only [Gl.enc_eq t,wtL,D.wt];omega
def y8 (k:Int):Int:=if k=2 then 2 else if k=3 then 2 else if k=4 then 1 else if k=5 then 1 else if k=6 then 2 else 0
theorem aD0 (k:Int):0<=y8 k/\y8 k<=2:=by
 unfold y8;repeat' split
 all_goals omega
theorem bk7 (k:Int) (h:7<=k):y8 k=0:=by
 unfold y8;repeat' split
 all_goals omega
def aj7 (l:List Tm):Bool:=match l with | t :: _=>t.kind == 2 | []=>false
def ab7 (l:List Gl):Bool:=match l with | g :: _=>g.kind == 9 | []=>false
theorem K4 (l:List Tm):aj7 l=match l[0]? with | some t=>t.kind == 2 | none=>false:=by cases l<;>rfl
theorem I5 (l:List Gl):ab7 l=match l[0]? with | some t=>t.kind == 9 | none=>false:=by cases l<;>rfl
def Gl.form (g:Gl):Bool:=
 if g.kind=9 then P5 g.name && decide ((g.goals.length:Int)=0) && decide ((g.terms.length:Int)<=4)
 else if 0<=g.kind/\g.kind<=6 then decide (g.name=[]) && decide ((g.goals.length:Int)=0) && decide ((g.terms.length:Int)=y8 g.kind) && (if g.kind=6 then aj7 g.terms else true)
 else if g.kind=7\/g.kind=8 then decide (g.name=[]) && decide ((g.terms.length:Int)=0) && decide ((g.goals.length:Int)<=8)
 else if g.kind=10 then decide (g.name=[]) && decide ((g.terms.length:Int)=0) && decide ((g.goals.length:Int)=1) && ab7 g.goals
 else false
theorem Gl.form_inv {g:Gl} (h:g.form=true):(g.kind=9/\P5 g.name=true/\(g.goals.length:Int)=0/\(g.terms.length:Int)<=4) \/
  (0<=g.kind/\g.kind<=6/\g.name=[]/\(g.goals.length:Int)=0/\(g.terms.length:Int)=y8 g.kind/\(g.kind=6->aj7 g.terms=true)) \/
  ((g.kind=7\/g.kind=8)/\g.name=[]/\(g.terms.length:Int)=0/\(g.goals.length:Int)<=8) \/
  (g.kind=10/\g.name=[]/\(g.terms.length:Int)=0/\(g.goals.length:Int)=1/\ab7 g.goals=true):=by
 unfold Gl.form at h;split at h
 ·rename_i hk
  simp only [a_,decide_eq_true_eq] at h;exact .inl ⟨hk,h.1.1,h.1.2,h.2⟩
 ·split at h
  ·rename_i hk
   simp only [a_,decide_eq_true_eq] at h;refine .inr (.inl ⟨hk.1,hk.2,h.1.1.1,h.1.1.2,h.1.2,fun h6=>?_⟩);have:=h.2;rw [if_pos h6] at this;exact this
  ·split at h
   ·rename_i hk
    simp only [a_,decide_eq_true_eq] at h;exact .inr (.inr (.inl ⟨hk,h.1.1,h.1.2,h.2⟩))
   ·split at h
    ·rename_i hk
     simp only [a_,decide_eq_true_eq] at h;exact .inr (.inr (.inr ⟨hk,h.1.1.1,h.1.1.2,h.1.2,h.2⟩))
    ·cases h
theorem Gl.form_simple {g:Gl} (h0:0<=g.kind) (h1:g.kind<6) (hn:g.name=[]) (hg:(g.goals.length:Int)=0) (ht:(g.terms.length:Int)=y8 g.kind):g.form=true:=by
 unfold Gl.form;rw [if_neg (by omega),if_pos ⟨h0,by omega⟩,if_neg (by omega)];simp only [hn,hg,ht,decide_true,w_]
theorem Gl.form_6 {g:Gl} (hk:g.kind=6) (hn:g.name=[]) (hg:(g.goals.length:Int)=0) (ht:(g.terms.length:Int)=2) {x:Tm} (hx:g.terms[0]? = some x):g.form=decide (x.kind=2):=by
 unfold Gl.form;rw [if_neg (by omega),if_pos ⟨by omega,by omega⟩,if_pos hk,K4,hx,hk];have:y8 6=2:=by decide
 simp only [hn,hg,ht,this,decide_true,w_,p_];exact ae_ _ _
theorem Gl.form_and {g:Gl} (hk:g.kind=7\/g.kind=8) (hn:g.name=[]) (ht:(g.terms.length:Int)=0) (hg:(g.goals.length:Int)<=8):g.form=true:=by
 unfold Gl.form;rw [if_neg (by omega),if_neg (by omega),if_pos hk];simp only [hn,hg,ht,decide_true,w_]
theorem Gl.form_10 {g:Gl} (hk:g.kind=10) (hn:g.name=[]) (ht:(g.terms.length:Int)=0) (hg:(g.goals.length:Int)=1) {x:Gl} (hx:g.goals[0]? = some x):g.form=decide (x.kind=9):=by
 unfold Gl.form;rw [if_neg (by omega),if_neg (by omega),if_neg (by omega),if_pos hk,I5,hx];simp only [hn,hg,ht,decide_true,w_,p_];exact ae_ _ _
theorem bv5 (k:Int) (h:k=6):y8 k=2:=by subst h;decide
mutual
def Gl.shape:Gl->Bool
 | .mk k n ts gs=>(Gl.mk k n ts gs).form && ts.all Q5 && Gl.shapes gs
def Gl.shapes:List Gl->Bool
 | []=>true
 | t :: r=>Gl.shape t && Gl.shapes r
end
theorem Gl.shapes_eq:∀l:List Gl,Gl.shapes l=l.all Gl.shape
 | []=>by simp only [Gl.shapes,ab_]
 | t :: r=>by simp only [Gl.shapes,s_,Gl.shapes_eq r]
theorem Gl.shape_eq (g:Gl):g.shape=(g.form && g.terms.all Q5 && g.goals.all Gl.shape):=by
 cases g;simp only [Gl.shape,Gl.shapes_eq,Gl.terms,Gl.goals]
def ak5 (g:Gl):Bool:=decide (g.cnt<=80) && g.shape
def Gl.nodes (g:Gl) (room:Int):Int:=if g.shape=true/\(g.cnt:Int)<=room then g.cnt else -1
theorem Gl.nodes_ge {g:Gl} {room:Int}:g.nodes room=-1\/(1<=g.nodes room/\g.nodes room<=room):=by
 have:=g.cnt_pos;unfold Gl.nodes;split<;>omega
theorem Gl.nodes_lt {g:Gl} {room:Int} (h:room<1):g.nodes room=-1:=by
 have:=g.cnt_pos;unfold Gl.nodes;rw [if_neg (by omega)]
theorem Gl.nodes_bad {g:Gl} {room:Int} (h:g.shape=false):g.nodes room=-1:=by
 unfold Gl.nodes;rw [if_neg (by simp [h])]
theorem Gl.nodes_leaf {g:Gl} {room:Int} (h:g.shape=true) (hg:g.goals=[]) (hr:1<=room):g.nodes room=1:=by
 have hc:=g.cnt_eq;rw [hg] at hc;simp only [Gl.cnts] at hc;unfold Gl.nodes;rw [if_pos ⟨h,by omega⟩,hc];rfl
theorem Gl.count_ok (g:Gl):(decide (g.countF 80<=80) && g.shape)=ak5 g:=by
 have h:=Gl.count_spec g 80;unfold ak5;congr 1;by_cases h5:g.cnt<=80
 ·simp [h5];omega
 ·simp [h5];omega
def Gl.nodeL:List Gl->Int->Int->Int
 | [],_,n=>n
 | g :: r,room,n=>if g.nodes (room - n)<0 then -1 else Gl.nodeL r room (n+g.nodes (room - n))
theorem Gl.nodeL_eq:∀(l:List Gl) (room n:Int),n<=room->Gl.nodeL l room n=if l.all Gl.shape=true/\n+(Gl.cnts l:Int)<=room then n+Gl.cnts l else -1
 | [],room,n,h=>by simp [Gl.nodeL,Gl.cnts,h]
 | g :: r,room,n,h=>by
  have hp:=g.cnt_pos;have e1:(g :: r).all Gl.shape=(g.shape && r.all Gl.shape):=rfl;have e2:Gl.cnts (g :: r)=g.cnt+Gl.cnts r:=by simp only [Gl.cnts]
  rw [Gl.nodeL];by_cases hs:g.shape=true
  ·by_cases hc:(g.cnt:Int)<=room - n
   ·have hn:g.nodes (room - n)=g.cnt:=by unfold Gl.nodes;rw [if_pos ⟨hs,hc⟩]
    rw [hn,if_neg (by omega),Gl.nodeL_eq r room _ (by omega)];by_cases hx:r.all Gl.shape=true/\n+(g.cnt:Int)+(Gl.cnts r:Int)<=room
    ·rw [if_pos hx,if_pos ⟨by rw [e1];simp only [hs,hx.1,w_],by rw [e2];omega⟩,e2];omega
    ·rw [if_neg hx,if_neg (fun h=>hx ⟨by have h1:=h.1;rw [e1,hs,p_] at h1;exact h1,by have h2:=h.2;rw [e2] at h2;omega⟩)]
   ·have hn:g.nodes (room - n)=-1:=by unfold Gl.nodes;rw [if_neg (by omega)]
    rw [hn,if_pos (by omega),if_neg (fun h=>by have h2:=h.2;rw [e2] at h2;omega)]
  ·have hn:g.nodes (room - n)=-1:=Gl.nodes_bad (by simpa using hs)
   rw [hn,if_pos (by omega),if_neg (fun h=>by have h1:=h.1;rw [e1] at h1;simp [hs] at h1)]
theorem Gl.nodes_kids {g:Gl} {room:Int} (hf:g.form=true) (ht:g.terms.all Q5=true) (hr:1<=room):g.nodes room=Gl.nodeL g.goals room 1:=by
 rw [Gl.nodeL_eq _ _ _ hr];unfold Gl.nodes;rw [Gl.shape_eq,hf,ht,Gl.cnt_eq];simp only [p_];split<;>split<;>simp_all<;>omega
theorem bM4 {k n:Int} (h0:0<=k) (h1:k<=10) {Q:List D->Prop} (h:Q [.int .i64 (if k=9 then n else y8 k)]) :
  idx [[.int .i64 0],[.int .i64 0],[.int .i64 2],[.int .i64 2],[.int .i64 1],[.int .i64 1],[.int .i64 2],[.int .i64 0],[.int .i64 0],[.int .i64 n],[.int .i64 0]] k.toNat Q:=by
 have hc:k=0\/k=1\/k=2\/k=3\/k=4\/k=5\/k=6\/k=7\/k=8\/k=9\/k=10:=by omega
 rcases hc with rfl | rfl | rfl | rfl | rfl | rfl | rfl | rfl | rfl | rfl | rfl<;>(intro x hx;simp at hx;subst hx;simpa [y8] using h)
def ab1:List Int->Int->List Int
 | [],n=>[n]
 | x :: r,n=>if x<n then x :: ab1 r n else if x=n then x :: r else n :: x :: r
abbrev Asc (l:List Int):Prop:=l.Pairwise (·<·)
theorem aG9 {x n:Int}:∀{l:List Int},x∈ab1 l n↔x=n\/x∈l
 | []=>by simp [ab1]
 | y :: r=>by
  have ih:=aG9 (x:=x) (n:=n) (l:=r);unfold ab1;split
  ·simp only [b_,ih];constructor<;>(rintro (h | h | h)<;>simp [h])
  ·split
   ·rename_i h;subst h;simp
   ·simp
theorem ba5 {n:Int}:∀{l:List Int},Asc l->Asc (ab1 l n)
 | [],_=>by simp [ab1,Asc]
 | y :: r,h=>by
  have h':=f_.1 h;unfold ab1;split
  ·refine f_.2 ⟨fun x hx=>?_,ba5 h'.2⟩
   rcases aG9.1 hx with rfl | hx
   ·assumption
   ·exact h'.1 x hx
  ·split
   ·exact h
   ·refine f_.2 ⟨fun x hx=>?_,h⟩
    rcases b_.1 hx with rfl | hx
    ·omega
    ·have:=h'.1 x hx;omega
theorem ba4 {n:Int}:∀{l:List Int},(ab1 l n).length<=l.length+1
 | []=>by simp [ab1]
 | y :: r=>by
  have ih:=ba4 (n:=n) (l:=r);unfold ab1;split
  ·simp only [c_];omega
  ·split<;>simp
def headA (n:Int):List Int->List Int
 | []=>[n]
 | x :: r=>if x=n then x :: r else n :: x :: r
theorem aB9 {n:Int} {b:List Int} (hb:∀x,x∈b->n<=x):∀{a:List Int},(∀x,x∈a->x<n)->ab1 (a++b) n=a++headA n b
 | [],_=>by
  cases b with
  | nil=>rfl
  | cons x r =>
   have:=hb x (by simp);simp only [T_,ab1,headA];rw [if_neg (by omega)]
 | y :: a,ha=>by
  have:=ha y (by simp);simp only [o_,ab1];rw [if_pos this,aB9 hb (fun x hx=>ha x (by simp [hx]))]
theorem aW8:∀{l l':List Int},Asc l->Asc l'->(∀x,x∈l↔x∈l')->l=l'
 | [],[],_,_,_=>rfl
 | [],y :: r,_,_,h=>by have:=(h y).2 (by simp);simp at this
 | y :: r,[],_,_,h=>by have:=(h y).1 (by simp);simp at this
 | x :: r,y :: r',h1,h2,h=>by
  have a1:=f_.1 h1;have a2:=f_.1 h2;have exy:x=y:=by
   rcases b_.1 ((h x).1 (by simp)) with e | e
   ·exact e
   ·rcases b_.1 ((h y).2 (by simp)) with e' | e'
    ·exact e'.symm
    ·have:=a2.1 x e;have:=a1.1 y e';omega
  subst exy;congr 1;refine aW8 a1.2 a2.2 (fun z=>⟨fun hz=>?_,fun hz=>?_⟩)
  ·rcases b_.1 ((h z).1 (by simp [hz])) with e | e
   ·have:=a1.1 z hz;omega
   ·exact e
  ·rcases b_.1 ((h z).2 (by simp [hz])) with e | e
   ·have:=a2.1 z hz;omega
   ·exact e
theorem bM2 {l:List Int} {n:Int} {k:Nat} (ha:Asc l) (h1:∀j x,k<=j->l[j]? = some x->n<=x) (h2:k=0\/∃x,l[k - 1]? = some x/\x<n) :
  ab1 l n=if l[k]? = some n then l else l.take k++([n]++l.drop k):=by
 have hb:∀x,x∈l.drop k->n<=x:=fun x hx=>by
  obtain ⟨j,hj⟩:=L_.1 hx;rw [List.getElem?_drop] at hj;exact h1 _ x (by omega) hj
 have hlt:∀x,x∈l.take k->x<n:=fun x hx=>by
  obtain ⟨j,hj⟩:=L_.1 hx;rw [List.getElem?_take] at hj;split at hj
  ·rename_i hjk
   rcases h2 with rfl | ⟨y,hy,hyn⟩
   ·omega
   ·by_cases e:j=k - 1
    ·rw [e,hy] at hj;cases hj;exact hyn
    ·obtain ⟨g1,g2⟩:=e_.1 hj
     obtain ⟨g3,g4⟩:=e_.1 hy;have:=z_.1 ha j (k - 1) g1 g3 (by omega);omega
  ·cases hj
 have hd:l[k]? = (l.drop k)[0]?:=by rw [List.getElem?_drop];simp
 have e:=aB9 (n:=n) hb hlt;rw [K_] at e;rw [e,hd];cases hq:l.drop k with
 | nil=>simp [headA]
 | cons x r =>
  by_cases hxn:x=n
  ·subst hxn
   simp only [headA,if_pos,List.getElem?_cons_zero];rw [<-hq,K_]
  ·simp [headA,hxn]
theorem aF9:∀(n:Nat) (l:List Nat),l.Nodup->(∀x,x∈l->x<n)->l.length<=n
 | 0,l,_,h=>by
  cases l with
  | nil=>simp
  | cons x r=>have:=h x (by simp);omega
 | n+1,l,hn,h=>by
  have ih:=aF9 n (l.erase n) (hn.erase n) (fun x hx=>by
   have h1:=(List.Nodup.mem_erase_iff hn).1 hx;have:=h x h1.2;have:=h1.1;omega)
  have:l.length<=(l.erase n).length+1:=by rw [List.length_erase];split<;>omega
  omega
def R6 (l:List Int):List Int:=l.foldl ab1 []
theorem ab6:∀{vs l:List Int},Asc l->Asc (vs.foldl ab1 l)
 | [],_,h=>h
 | v :: vs,l,h=>ab6 (vs:=vs) (ba5 h)
theorem aP2 {x:Int}:∀{vs l:List Int},x∈vs.foldl ab1 l↔x∈vs\/x∈l
 | [],l=>by simp
 | v :: vs,l=>by
  rw [t_,aP2 (vs:=vs),aG9,b_,or_left_comm,or_assoc]
theorem ab5:∀{vs l:List Int},(vs.foldl ab1 l).length<=l.length+vs.length
 | [],l=>by simp
 | v :: vs,l=>by
  have:=ab5 (vs:=vs) (l:=ab1 l v);have:=ba4 (n:=v) (l:=l);simp only [t_,c_];omega
theorem aj9 (l:List Int):Asc (R6 l):=ab6 (by simp [Asc])
theorem X9 {l:List Int} {x:Int}:x∈R6 l↔x∈l:=by unfold R6;rw [aP2];simp
theorem aQ9 {l l':List Int} (h:∀x,x∈l↔x∈l'):R6 l=R6 l':=aW8 (aj9 l) (aj9 l') (fun x=>by rw [X9,X9,h])
theorem aI5 {l:List Int}:R6 l=[]↔l=[]:=by
 constructor
 ·intro h
  cases l with
  | nil=>rfl
  | cons x r=>have:x∈R6 (x :: r):=X9.2 (by simp);rw [h] at this;simp at this
 ·rintro rfl;rfl
theorem by5 {ks:List Int} (h:ks.Nodup):(ks.mergeSort fun x y=>decide (x<=y))=R6 ks:=by
 refine aW8 ?_ (aj9 ks) (fun x=>by rw [List.mem_mergeSort,X9]);have h1:(ks.mergeSort fun x y=>decide (x<=y)).Pairwise fun a b=>decide (a<=b)=true:=
  List.pairwise_mergeSort (fun a b c h1 h2=>by simp at *;omega) (fun a b=>by simp;omega) ks
 have h2:(ks.mergeSort fun x y=>decide (x<=y)).Nodup:=(List.mergeSort_perm ks _).nodup_iff.2 h;exact (h1.and h2).imp (fun ⟨a,b⟩=>by simp at a;omega)
def ay9 (ks:List Int) (n:Int):List Int:=if n∈ks then ks else ks++[n]
def am0 (ks:List Int):List (D×D):=ks.map fun n=>(.int .i64 n,.bool true)
theorem aM4 (n:Int):∀ks:List Int,aJ1 (am0 ks) (.int .i64 n) (.bool true)=am0 (ay9 ks n)
 | []=>rfl
 | k :: r=>by
  have ih:=aM4 n r;unfold ay9 at ih |-;simp only [am0,h_,aJ1,kEq] at ih |-;by_cases h:n=k
  ·subst h;simp
  ·have h2:¬(n == k)=true:=by simpa using h
   by_cases h3:n∈r
   ·rw [if_pos h3] at ih
    rw [if_pos (by simp [h3])];simp [h,ih]
   ·rw [if_neg h3] at ih
    rw [if_neg (by simp [h,h3])];simp [h,ih]
theorem aa9 (ks:List Int):(am0 ks).length=ks.length:=by simp [am0]
theorem bE6 {ks:List Int} {n x:Int}:x∈ay9 ks n↔x=n\/x∈ks:=by
 unfold ay9;split
 ·constructor
  ·exact .inr
  ·rintro (rfl | h)
   ·assumption
   ·exact h
 ·simp [or_comm]
theorem bk9 {ks:List Int} {n:Int} (h:ks.Nodup):(ay9 ks n).Nodup:=by
 unfold ay9;split
 ·exact h
 ·rename_i hn
  rw [List.nodup_append];exact ⟨h,by simp,fun a ha b hb=>by simp at hb;subst hb;intro e;subst e;exact hn ha⟩
theorem bE7 {ks:List Int} {n:Int}:(ay9 ks n).length<=ks.length+1:=by unfold ay9;split<;>simp
theorem aP0 {x:Int}:∀{vs ks:List Int},x∈vs.foldl ay9 ks↔x∈vs\/x∈ks
 | [],l=>by simp
 | v :: vs,l=>by
  rw [t_,aP0 (vs:=vs),bE6,b_,or_left_comm,or_assoc]
theorem av5:∀{vs ks:List Int},ks.Nodup->(vs.foldl ay9 ks).Nodup
 | [],_,h=>h
 | v :: vs,l,h=>av5 (vs:=vs) (bk9 h)
theorem aP1:∀{vs ks:List Int},(vs.foldl ay9 ks).length<=ks.length+vs.length
 | [],l=>by simp
 | v :: vs,l=>by
  have:=aP1 (vs:=vs) (ks:=ay9 l v);have:=bE7 (n:=v) (ks:=l);simp only [t_,c_];omega
theorem aO2 (a b:List Int):C8 (a++b)=C8 a++C8 b:=by simp [C8]
theorem aj1 (a:List Int):(C8 a).length=a.length:=by simp [C8]
theorem br8 (n:Int):C8 [n]=[[.int .i64 n]]:=rfl
theorem bB3 {ks:List Int} {i:Nat} {p:D×D} (h:(am0 ks)[i]? = some p):∃k,ks[i]? = some k/\p=(.int .i64 k,.bool true):=by
 simp only [am0,List.getElem?_map,Option.map_eq_some_iff] at h;obtain ⟨k,h1,rfl⟩:=h;exact ⟨k,h1,rfl⟩
theorem bB7 (l:List Int) (j:Nat) (Q:List D->Prop):idx (C8 l) j Q=idx l j (fun n=>Q [.int .i64 n]):=bs0 _ _ _ _
theorem bh8 (l:List Int) (k:Nat):(C8 l).take k=C8 (l.take k):=by simp [C8]
theorem bi0 (l:List Int) (k:Nat):(C8 l).drop k=C8 (l.drop k):=by simp [C8]
theorem bh9 (l:List Int):(∀y,y∈C8 l->y.length=1)=True:=by
 simp only [eq_iff_iff,iff_true];intro y hy;obtain ⟨n,_,rfl⟩:=g_.1 hy;rfl
attribute [go_sem] bB7 bh8 bi0 bh9 aj1 aa9
theorem be9 {ks:List Int} {seen:List Nat} (hn:ks.Nodup) (h1:seen.Nodup) (h2:∀i,i∈seen->i<ks.length) (h3:∀i,i<ks.length->i∈seen) :
  (seen.map fun i=>ks.getD i 0).Nodup/\∀x,x∈(seen.map fun i=>ks.getD i 0)↔x∈ks:=by
 have hg:∀i (h:i<ks.length),ks.getD i 0=ks[i]:=fun i h=>by simp [h]
 refine ⟨?_,fun x=>⟨fun hx=>?_,fun hx=>?_⟩⟩
 ·refine List.pairwise_map.2 (List.Pairwise.imp_of_mem ?_ h1)
  intro a b ha hb hab e;rw [hg a (h2 a ha),hg b (h2 b hb)] at e;have hp:=z_.1 hn;rcases Nat.lt_trichotomy a b with h | h | h
  ·exact hp a b (h2 a ha) (h2 b hb) h e
  ·exact hab h
  ·exact hp b a (h2 b hb) (h2 a ha) h e.symm
 ·obtain ⟨i,hi,rfl⟩:=g_.1 hx
  rw [hg i (h2 i hi)];exact List.getElem_mem _
 ·obtain ⟨i,hi,rfl⟩:=List.mem_iff_getElem.1 hx
  exact g_.2 ⟨i,h3 i hi,hg i hi⟩
mutual
def Tm.vars:Tm->List Int
 | .mk k i _ az=>if k=1 then [i] else Tm.varss az
def Tm.varss:List Tm->List Int
 | []=>[]
 | t :: r=>Tm.vars t++Tm.varss r
end
theorem Tm.vars_eq (t:Tm):t.vars=if t.kind=1 then [t.int] else Tm.varss t.args:=by cases t;simp only [Tm.vars,Tm.kind,Tm.int,Tm.args];rfl
theorem Tm.varss_eq:∀l:List Tm,Tm.varss l=l.flatMap Tm.vars
 | []=>rfl
 | t :: r=>by simp only [Tm.varss,m_,Tm.varss_eq r]
def V.vars:V->List Int
 | .var n=>[n]
 | .pair a b=>a.vars++b.vars
 | _=>[]
theorem V.vars_tm:∀v:V,v.tm.vars=v.vars
 | .nil=>rfl
 | .var n=>by simp [V.tm,V.vars,Tm.vars]
 | .sym _=>by simp [V.tm,V.vars,Tm.vars,Tm.varss]
 | .num _=>by simp [V.tm,V.vars,Tm.vars,Tm.varss]
 | .pair a b=>by simp [V.tm,V.vars,Tm.vars,Tm.varss,V.vars_tm a,V.vars_tm b]
theorem Tm.vars_cnt:∀t:Tm,t.vars.length<=t.cnt:=by
 intro t;induction t using Tm.ind with
 | h k i n az ih =>
  have key:∀(l:List Tm),(∀x,x∈l->x∈az)->(Tm.varss l).length<=Tm.cnts l:=by
   intro l;induction l with
   | nil=>intro _;simp [Tm.varss]
   | cons x r ihr =>
    intro hl;have h1:=ih x (hl x (by simp));have h2:=ihr (fun x hx=>hl x (by simp [hx]));simp only [Tm.varss,Tm.cnts,i_];omega
  have:=key az (fun x hx=>hx);simp only [Tm.vars,Tm.cnt];split
  ·simp only [c_,v_];omega
  ·omega
theorem Tm.vars_wt (t:Tm):t.vars.length<=1+wtL t.enc:=y_ (Tm.vars_cnt t) (cnt_le_wt t)
theorem aX4:∀l:List Tm,(Tm.varss l).length<=wtR (l.map Tm.enc)
 | []=>by simp [Tm.varss]
 | t :: r=>by
  have:=aX4 r;have:=Tm.vars_wt t;simp only [Tm.varss,h_,wtR,i_];omega
mutual
def Gl.vars:Gl->List Int
 | .mk _ _ ts gs=>Tm.varss ts++Gl.varss gs
def Gl.varss:List Gl->List Int
 | []=>[]
 | t :: r=>Gl.vars t++Gl.varss r
end
theorem Gl.vars_eq (t:Gl):t.vars=Tm.varss t.terms++Gl.varss t.goals:=by cases t;simp only [Gl.vars,Gl.terms,Gl.goals]
theorem Gl.varss_eq:∀l:List Gl,Gl.varss l=l.flatMap Gl.vars
 | []=>rfl
 | t :: r=>by simp only [Gl.varss,m_,Gl.varss_eq r]
theorem Gl.vars_wt:∀t:Gl,t.vars.length<=wtL t.enc:=by
 intro t;induction t using Gl.ind' with
 | h t ih =>
  have key:∀(l:List Gl),(∀x,x∈l->x∈t.goals)->(Gl.varss l).length<=wtR (l.map Gl.enc):=by
   intro l;induction l with
   | nil=>intro _;simp [Gl.varss]
   | cons x r ihr =>
    intro hl;have h1:=ih x (hl x (by simp));have h2:=ihr (fun x hx=>hl x (by simp [hx]));simp only [Gl.varss,h_,wtR,i_];omega
  have:=key t.goals (fun x hx=>hx);have:=aX4 t.terms;rw [Gl.vars_eq,i_];simp only [Gl.enc_eq t,wtL,D.wt];omega
mutual
def Gl.subs:Gl->List Gl
 | .mk k n ts gs=>.mk k n ts gs :: Gl.subss gs
def Gl.subss:List Gl->List Gl
 | []=>[]
 | t :: r=>Gl.subs t++Gl.subss r
end
theorem Gl.subs_eq (t:Gl):t.subs=t :: Gl.subss t.goals:=by cases t;simp only [Gl.subs,Gl.goals]
theorem Gl.subss_eq:∀l:List Gl,Gl.subss l=l.flatMap Gl.subs
 | []=>rfl
 | t :: r=>by simp only [Gl.subss,m_,Gl.subss_eq r]
theorem Gl.subs_ind {Q:Gl->Prop} (h:∀t,Q t->∀x,x∈t.goals->Q x):∀(t:Gl),Q t->∀x,x∈t.subs->Q x:=by
 intro t;induction t using Gl.ind' with
 | h t ih =>
  intro hq x hx;rw [Gl.subs_eq,Gl.subss_eq] at hx;rcases b_.1 hx with rfl | hx
  ·exact hq
  ·obtain ⟨y,hy,hxy⟩:=l_.1 hx
   exact ih y hy (h t hq y hy) x hxy
theorem Gl.vars_subs:∀t:Gl,t.vars=t.subs.flatMap fun x=>Tm.varss x.terms:=by
 intro t;induction t using Gl.ind' with
 | h t ih =>
  rw [Gl.vars_eq,Gl.subs_eq,m_,Gl.varss_eq,Gl.subss_eq,List.flatMap_assoc];congr 1;have:∀(l:List Gl),(∀x,x∈l->x∈t.goals)->l.flatMap Gl.vars=l.flatMap fun x=>x.subs.flatMap fun x=>Tm.varss x.terms:=by
   intro l;induction l with
   | nil=>intro _;rfl
   | cons x r ihr =>
    intro hl;rw [m_,m_,ih x (hl x (by simp)),ihr (fun x hx=>hl x (by simp [hx]))]
  exact this _ (fun x hx=>hx)
theorem aj6 {α β γ:Type} (f:γ->β->γ) (g:α->List β):∀(l:List α) (c:γ),(l.flatMap g).foldl f c=l.foldl (fun c x=>(g x).foldl f c) c
 | [],_=>rfl
 | x :: r,c=>by rw [m_,List.foldl_append,aj6 f g r];rfl
theorem bm2 {t:Tm} (h:Q5 t=true):∃v:V,t=v.tm/\v.fine=true:=by
 unfold Q5 Tm.ok? at h;split at h
 ·rename_i v hv;exact ⟨v,Tm.of_v? _ _ hv,Tm.fine_of _ _ hv⟩
 ·cases h
theorem Gl.shape_sub {t:Gl} (h:t.shape=true):∀x,x∈t.subs->x.shape=true:=
 Gl.subs_ind (Q:=fun t=>t.shape=true) (fun t h x hx=>by
  rw [Gl.shape_eq] at h;simp only [a_,d_] at h;exact h.2 x hx) t h
theorem Gl.shape_terms {t:Gl} (h:t.shape=true):∀x,x∈t.terms->Q5 x=true:=by
 rw [Gl.shape_eq] at h;simp only [a_,d_] at h;exact h.1.2
def V.has (tag:List UInt8):V->Bool
 | .sym s=>decide (s=tag)
 | .pair a b=>a.has tag || b.has tag
 | _=>false
theorem V.has_eq (tag:List UInt8) (v:V):v.has tag=(v.kids.any (V.has tag) || (decide (v.kind=2) && decide (v.name=tag))):=by
 cases v<;>simp [V.has,V.kids,V.kind,V.name]<;>rfl
theorem V.ind {Q:V->Prop} (h:∀v:V,(∀x,x∈v.kids->Q x)->Q v):∀v,Q v:=by
 intro v;induction v with
 | pair a b iha ihb=>exact h _ (fun x hx=>by simp [V.kids] at hx;rcases hx with rfl | rfl<;>assumption)
 | _=>exact h _ (fun x hx=>by simp [V.kids] at hx)
def Tm.V (t:Tm):V:=t.v?.getD .nil
theorem Tm.V_of {t:Tm} (h:Q5 t=true):t=t.V.tm:=by
 obtain ⟨v,rfl,hv⟩:=bm2 h;simp [Tm.V,V.v?_tm v hv]
theorem Tm.enc_V {t:Tm} (h:Q5 t=true):t.enc=t.V.enc:=by rw [V.enc,<-Tm.V_of h]
theorem Tm.vars_V {t:Tm} (h:Q5 t=true):t.vars=t.V.vars:=by rw [<-V.vars_tm,<-Tm.V_of h]
theorem bi5 {g:Gl} (h:ak5 g=true):g.shape=true:=by unfold ak5 at h;simp at h;exact h.2
theorem bL9 {α:Type} {l:List α} (h:(l.length:Int)=2):∃a b,l=[a,b]:=by
 match l,h with
 | [a,b],_=>exact ⟨a,b,rfl⟩
 | [],h=>simp at h
 | [_],h=>simp at h
 | _ :: _ :: _ :: _,h=>simp only [c_] at h;omega
theorem bq6 {α:Type} {l:List α} (h:(l.length:Int)=1):∃a,l=[a]:=by
 match l,h with
 | [a],_=>exact ⟨a,rfl⟩
 | [],h=>simp at h
 | _ :: _ :: _,h=>simp only [c_] at h;omega
def V4:List Rl->List UInt8->Int->Int
 | [],_,_=>-1
 | r :: q,s,i=>if r.name=s then i else V4 q s (i+1)
def Pg.find (p:Pg) (s:List UInt8):Int:=V4 p.rels s 0
theorem af9:∀(l:List Rl) (s:List UInt8) (i:Int),V4 l s i=-1\/(i<=V4 l s i/\V4 l s i<i+l.length)
 | [],_,_=>.inl rfl
 | r :: q,s,i=>by
  have:=af9 q s (i+1);simp only [V4,c_];split<;>omega
theorem Pg.find_range (p:Pg) (s:List UInt8):p.find s=-1\/(0<=p.find s/\p.find s<p.rels.length):=by
 have:=af9 p.rels s 0;unfold Pg.find;omega
def Pg.fitC (p:Pg) (x:Gl):Bool:=
 !decide (x.kind=9) || match p.rels[(p.find x.name).toNat]? with
  | some r=>decide (0<=p.find x.name) && decide (r.arity=x.terms.length)
  | none=>false
theorem Pg.fitC_other {p:Pg} {x:Gl} (h:x.kind≠9):p.fitC x=true:=by simp [Pg.fitC,h]
theorem Pg.fitC_neg {p:Pg} {x:Gl} (h:x.kind=9) (hf:p.find x.name<0):p.fitC x=false:=by
 simp only [Pg.fitC,h,decide_true,Bool.not_true,Bool.false_or];split
 ·simp;omega
 ·rfl
theorem Pg.fitC_at {p:Pg} {x:Gl} (h:x.kind=9) (hf:0<=p.find x.name) {r:Rl} (hr:p.rels[(p.find x.name).toNat]? = some r):p.fitC x=decide (r.arity=x.terms.length):=by
 simp [Pg.fitC,h,hr,hf]
def Pg.callsFit (p:Pg) (g:Gl):Bool:=g.subs.all p.fitC
theorem ag7 {α β:Type} (f:α->List β) (q:β->Bool):∀l:List α,(l.flatMap f).all q=l.all fun x=>(f x).all q
 | []=>rfl
 | x :: r=>by simp only [m_,List.all_append,s_,ag7 f q r]
theorem Pg.callsFit_eq (p:Pg) (g:Gl):p.callsFit g=(p.fitC g && g.goals.all p.callsFit):=by
 unfold Pg.callsFit;rw [Gl.subs_eq,s_,Gl.subss_eq,ag7]
theorem aO9 {α:Type} (q:α->Bool):∀(l:List α) (b:Bool),l.foldl (fun b x=>b && q x) b=(b && l.all q)
 | [],b=>by simp
 | x :: r,b=>by rw [t_,aO9 q r,s_,Bool.and_assoc]
theorem aO8 {α:Type} (q:α->Bool):∀(l:List α) (b:Bool),l.foldl (fun b x=>b || q x) b=(b || l.any q)
 | [],b=>by simp
 | x :: r,b=>by rw [t_,aO8 q r,List.any_cons,Bool.or_assoc]
def Gl.varsLt (g:Gl) (n:Int):Bool:=g.vars.all fun v=>decide (v<n)
theorem aQ8 (l:List Int) (n:Int):((R6 l).all fun v=>decide (v<n))=l.all fun v=>decide (v<n):=by
 rw [C_];simp only [d_];exact ⟨fun h x hx=>h x (X9.2 hx),fun h x hx=>h x (X9.1 hx)⟩
theorem bk6 {l:List Int} (ha:Asc l) (n:Int) {m:Nat} {x:Int} (hm:m+1=l.length) (hx:l[m]? = some x):(l.all fun v=>decide (v<n))=decide (x<n):=by
 rw [C_];simp only [d_,decide_eq_true_eq];refine ⟨fun h=>h x (q_ hx),fun h y hy=>?_⟩;obtain ⟨j,hj⟩:=L_.1 hy;obtain ⟨g1,g2⟩:=e_.1 hj;obtain ⟨g3,g4⟩:=e_.1 hx;by_cases e:j=m
 ·subst e;rw [hj] at hx;cases hx;exact h
 ·have:=z_.1 ha j m g1 g3 (by omega);omega
def Pg.relOk (p:Pg) (i:Nat) (r:Rl):Bool:=
 decide (p.find r.name=i) && P5 r.name && decide (0<=r.arity/\r.arity<=4) && decide (0<=r.locals/\r.locals<=8) && decide (r.body.cnt<=60) && r.body.shape && r.body.varsLt (r.arity+r.locals) && p.callsFit r.body
def Pg.okL (p:Pg):List Rl->Bool
 | []=>true
 | r :: q=>p.relOk (p.rels.length - (q.length+1)) r && Pg.okL p q
def N9 (p:Pg):Bool:=decide (p.rels.length<=8) && p.okL p.rels
theorem ap9 {α:Type} {l r:List α} {x:α} {i:Nat} (h:l.drop i=x :: r):l.length - (r.length+1)=i:=by
 have:=congrArg List.length h;simp only [List.length_drop,c_] at this;omega
theorem af0 {p:Pg}:∀{l:List Rl},p.okL l=true->∀r,r∈l->∃i,p.relOk i r=true
 | [],_,_,h=>by simp at h
 | x :: q,ho,r,h=>by
  simp only [Pg.okL,a_] at ho;rcases b_.1 h with rfl | h
  ·exact ⟨_,ho.1⟩
  ·exact af0 ho.2 r h
theorem Rl.wt_body (r:Rl):wtL r.body.enc<=wtL r.enc/\r.name.length<=wtL r.enc:=by
 simp only [Rl.enc_eq,Gl.enc_eq,wtL,D.wt];omega
theorem Pg.wt_rels {p:Pg} {r:Rl} (h:r∈p.rels):wtL r.enc<wtL p.enc:=by
 have:=ad6 (p.rels.map Rl.enc) r.enc (g_.2 ⟨r,h,rfl⟩);simp only [Pg.enc_eq,wtL,D.wt];omega
def Pg.fits (p:Pg) (g:Gl) (n:Int):Bool:=ak5 g && g.varsLt n && p.callsFit g
def Gl.onlyK (pure:Bool) (k:Int):Bool:=decide (k≠10) && !(pure && (decide (3<=k) && decide (k<=6)))
def Gl.only (pure:Bool) (g:Gl):Bool:=g.subs.all fun x=>Gl.onlyK pure x.kind
theorem Gl.only_eq (pure:Bool) (g:Gl):g.only pure=(g.goals.all (Gl.only pure) && Gl.onlyK pure g.kind):=by
 unfold Gl.only;rw [Gl.subs_eq,s_,Gl.subss_eq,ag7,Bool.and_comm]
theorem Gl.only_neg (g:Gl):(g.subs.any fun x=>decide (x.kind=10))=!g.only false:=by
 unfold Gl.only;rw [List.not_all_eq_any_not];congr 1;funext x
 simp [Gl.onlyK]
def Pg.all (pure:Bool) (p:Pg):Bool:=N9 p && p.rels.all fun r=>r.body.only pure
def Tm.ground (t:Tm):Bool:=Q5 t && decide (t.vars=[])
def Pg.factFits (p:Pg) (f:Fc):Bool:=
 match p.rels[(p.find f.rel).toNat]? with
 | some r=>decide (0<=p.find f.rel) && decide (r.arity=f.args.length) && f.args.all Tm.ground
 | none=>false
theorem Pg.factFits_neg {p:Pg} {f:Fc} (h:p.find f.rel<0):p.factFits f=false:=by
 unfold Pg.factFits;split
 ·simp;omega
 ·rfl
theorem Pg.factFits_at {p:Pg} {f:Fc} (h:0<=p.find f.rel) {r:Rl} (hr:p.rels[(p.find f.rel).toNat]? = some r):p.factFits f=(decide (r.arity=f.args.length) && f.args.all Tm.ground):=by
 simp [Pg.factFits,h,hr]
theorem L6 {p:(Nat->Prop)->Prop} (h:∀B,p B):∀B,p B:=h
theorem br7 (l:List Int) (i:Nat) (n:Int):(C8 l).set i [.int .i64 n]=C8 (l.set i n):=by simp [C8,List.map_set]
attribute [go_sem] br7
def Y1 (l:List (List UInt8)):List (List D):=l.map encS
theorem l9 (l:List (List UInt8)):(Y1 l).length=l.length:=by simp [Y1]
theorem y5 (a b:List (List UInt8)):Y1 (a++b)=Y1 a++Y1 b:=by simp [Y1]
theorem E8 (s:List UInt8):Y1 [s]=[[.str s]]:=rfl
theorem G8 {l:List (List UInt8)} {i:Nat} {n:List UInt8} (h:l[i]? = some n):(Y1 l)[i]? = some [.str n]:=by simp [Y1,h,encS]
mutual
def Gl.callsI (neg:Bool):Gl->Bool->List (List UInt8)
 | .mk k n _ gs,ins=>(if k=9/\ins=neg then [n] else [])++Gl.callsIs neg gs (ins || decide (k=10))
def Gl.callsIs (neg:Bool):List Gl->Bool->List (List UInt8)
 | [],_=>[]
 | g :: r,ins=>Gl.callsI neg g ins++Gl.callsIs neg r ins
end
mutual
def Gl.callsS (neg:Bool):Gl->List (List UInt8)
 | .mk k n _ gs=>(if k=9/\neg=false then [n] else [])++(if k=10 then (if neg=true then ((gs.take 1).map Gl.name) else []) else Gl.callsSs neg gs)
def Gl.callsSs (neg:Bool):List Gl->List (List UInt8)
 | []=>[]
 | g :: r=>Gl.callsS neg g++Gl.callsSs neg r
end
def J7 {α:Type} (a l:List (List α)):List (List α):=a.flatMap fun x=>l.map fun y=>x++y
theorem ai2 {α:Type} (a l:List (List α)):(J7 a l).length=a.length * l.length:=by
 induction a with
 | nil=>simp [J7]
 | cons x r ih=>simp only [J7,m_,i_,n_,c_] at ih |-;rw [ih,ac_];omega
mutual
def Gl.clsI:Gl->Option (List (List Gl))
 | .mk k n ts gs=>if k=0 then some [[]] else if k=1 then some [] else if k=8 then Gl.orI gs [] else if k=7 then Gl.andI gs [[]] else some [[.mk k n ts gs]]
def Gl.orI:List Gl->List (List Gl)->Option (List (List Gl))
 | [],a=>some a
 | g :: r,a=>match Gl.clsI g with
  | none=>none
  | some l=>if 64<(a++l).length then none else Gl.orI r (a++l)
def Gl.andI:List Gl->List (List Gl)->Option (List (List Gl))
 | [],a=>some a
 | g :: r,a=>match Gl.clsI g with
  | none=>none
  | some l=>if 64<(J7 a l).length then none else Gl.andI r (J7 a l)
end
theorem Gl.clsI_eq (g:Gl):g.clsI=if g.kind=0 then some [[]] else if g.kind=1 then some [] else if g.kind=8 then Gl.orI g.goals [] else if g.kind=7 then Gl.andI g.goals [[]] else some [[g]]:=by
 cases g;simp only [Gl.clsI,Gl.kind,Gl.goals];rfl
mutual
def Gl.clsS:Gl->List (List Gl)
 | .mk k n ts gs=>if k=0 then [[]] else if k=1 then [] else if k=8 then Gl.orS gs [] else if k=7 then Gl.andS gs [[]] else [[.mk k n ts gs]]
def Gl.orS:List Gl->List (List Gl)->List (List Gl)
 | [],a=>a
 | g :: r,a=>if 64<(Gl.clsS g).length then Gl.clsS g else Gl.orS r (a++Gl.clsS g)
def Gl.andS:List Gl->List (List Gl)->List (List Gl)
 | [],a=>a
 | g :: r,a=>if 64<(Gl.clsS g).length then Gl.clsS g else if 64<(J7 a (Gl.clsS g)).length then J7 a (Gl.clsS g) else Gl.andS r (J7 a (Gl.clsS g))
end
theorem Gl.clsS_eq (g:Gl):g.clsS=if g.kind=0 then [[]] else if g.kind=1 then [] else if g.kind=8 then Gl.orS g.goals [] else if g.kind=7 then Gl.andS g.goals [[]] else [[g]]:=by
 cases g;simp only [Gl.clsS,Gl.kind,Gl.goals];rfl
theorem Gl.orS_big:∀(r:List Gl) (a:List (List Gl)),64<a.length->64<(Gl.orS r a).length
 | [],a,h=>by simpa [Gl.orS] using h
 | g :: r,a,h=>by
  simp only [Gl.orS];split
  ·assumption
  ·exact Gl.orS_big r _ (by simp;omega)
theorem Gl.cls_same:∀g:Gl,g.clsI=if g.clsS.length<=64 then some g.clsS else none:=by
 intro g;induction g using Gl.ind' with
 | h t ih =>
  have key8:∀(l:List Gl) (a:List (List Gl)),(∀x,x∈l->x∈t.goals)->a.length<=64->Gl.orI l a=if (Gl.orS l a).length<=64 then some (Gl.orS l a) else none:=by
   intro l;induction l with
   | nil=>intro a _ ha;simp [Gl.orI,Gl.orS,ha]
   | cons x r ihr =>
    intro a hl ha;by_cases h1:64<x.clsS.length
    ·have e:Gl.orS (x :: r) a=x.clsS:=by simp only [Gl.orS,if_pos h1]
     simp only [Gl.orI];rw [e,ih x (hl x (by simp)),if_neg (by omega)]
    ·have e:Gl.orS (x :: r) a=Gl.orS r (a++x.clsS):=by simp only [Gl.orS,if_neg h1]
     simp only [Gl.orI];rw [e,ih x (hl x (by simp)),if_pos (by omega)];dsimp only;by_cases h2:64<(a++x.clsS).length
     ·rw [if_pos h2]
      have:=Gl.orS_big r _ h2;rw [if_neg (by omega)]
     ·rw [if_neg h2]
      exact ihr _ (fun y hy=>hl y (by simp [hy])) (by omega)
  have key7:∀(l:List Gl) (a:List (List Gl)),(∀x,x∈l->x∈t.goals)->a.length<=64->Gl.andI l a=if (Gl.andS l a).length<=64 then some (Gl.andS l a) else none:=by
   intro l;induction l with
   | nil=>intro a _ ha;simp [Gl.andI,Gl.andS,ha]
   | cons x r ihr =>
    intro a hl ha;by_cases h1:64<x.clsS.length
    ·have e:Gl.andS (x :: r) a=x.clsS:=by simp only [Gl.andS,if_pos h1]
     simp only [Gl.andI];rw [e,ih x (hl x (by simp)),if_neg (by omega)]
    ·have e:Gl.andS (x :: r) a=if 64<(J7 a x.clsS).length then J7 a x.clsS else Gl.andS r (J7 a x.clsS):=by simp only [Gl.andS,if_neg h1]
     simp only [Gl.andI];rw [e,ih x (hl x (by simp)),if_pos (by omega)];dsimp only;by_cases h2:64<(J7 a x.clsS).length
     ·rw [if_pos h2,if_pos h2,if_neg (by omega)]
     ·rw [if_neg h2,if_neg h2]
      exact ihr _ (fun y hy=>hl y (by simp [hy])) (by omega)
  rw [Gl.clsI_eq,Gl.clsS_eq];by_cases h0:t.kind=0
  ·simp [h0]
  ·simp only [if_neg h0]
   by_cases h1:t.kind=1
   ·simp [h1]
   ·simp only [if_neg h1]
    by_cases h8:t.kind=8
    ·simp only [if_pos h8];exact key8 t.goals [] (fun x hx=>hx) (by simp)
    ·simp only [if_neg h8]
     by_cases h7:t.kind=7
     ·simp only [if_pos h7];exact key7 t.goals [[]] (fun x hx=>hx) (by simp)
     ·simp [h7]
theorem Gl.clsS_len:∀g:Gl,g.clsS.length<=4096+64 * g.cnt:=by
 intro g;induction g using Gl.ind' with
 | h t ih =>
  have hb:∀x,x∈t.goals->x.cnt<=Gl.cnts t.goals:=by
   intro x hx;obtain ⟨a,b,hab⟩:=List.append_of_mem hx;rw [hab];clear hab hx ih;induction a with
   | nil=>simp [Gl.cnts]
   | cons y a iha=>simp only [o_,Gl.cnts];omega
  have key8:∀(l:List Gl) (a:List (List Gl)),(∀x,x∈l->x∈t.goals)->a.length+64 * Gl.cnts l<=64 * Gl.cnts t.goals->(Gl.orS l a).length<=4096+64 * Gl.cnts t.goals:=by
   intro l;induction l with
   | nil=>intro a _ ha;simp only [Gl.orS,Gl.cnts] at ha |-;omega
   | cons x r ihr =>
    intro a hl ha;have h1:=ih x (hl x (by simp));have h2:=hb x (hl x (by simp));have h3:=x.cnt_pos;simp only [Gl.orS,Gl.cnts] at ha |-;split
    ·omega
    ·refine ihr _ (fun y hy=>hl y (by simp [hy])) ?_
     rw [i_];omega
  have key7:∀(l:List Gl) (a:List (List Gl)),(∀x,x∈l->x∈t.goals)->a.length<=64->(Gl.andS l a).length<=4096+64 * Gl.cnts t.goals:=by
   intro l;induction l with
   | nil=>intro a _ ha;simp only [Gl.andS];omega
   | cons x r ihr =>
    intro a hl ha;have h1:=ih x (hl x (by simp));have h2:=hb x (hl x (by simp));simp only [Gl.andS];split
    ·omega
    ·split
     ·rw [ai2]
      have:a.length * x.clsS.length<=64 * 64:=W_ ha (by omega);omega
     ·exact ihr _ (fun y hy=>hl y (by simp [hy])) (by omega)
  rw [Gl.clsS_eq,Gl.cnt_eq];split
  ·simp;omega
  ·split
   ·simp
   ·split
    ·have:=key8 t.goals [] (fun x hx=>hx) (by simp);omega
    ·split
     ·have:=key7 t.goals [[]] (fun x hx=>hx) (by simp);omega
     ·simp;omega
theorem at7 {α:Type} {a l:List (List α)} {c:List α} (h:c∈J7 a l):∃x y,x∈a/\y∈l/\c=x++y:=by
 simp only [J7,l_,g_] at h;obtain ⟨x,hx,y,hy,e⟩:=h;exact ⟨x,y,hx,hy,e.symm⟩
theorem Gl.clsS_row:∀g:Gl,∀c,c∈g.clsS->c.length<=g.cnt/\∀x,x∈c->x∈g.subs:=by
 intro g;induction g using Gl.ind' with
 | h t ih =>
  have hb:∀x,x∈t.goals->x.cnt<=Gl.cnts t.goals:=by
   intro x hx;obtain ⟨a,b,hab⟩:=List.append_of_mem hx;rw [hab];clear hab hx ih;induction a with
   | nil=>simp [Gl.cnts]
   | cons y a iha=>simp only [o_,Gl.cnts];omega
  have hsub:∀x,x∈t.goals->∀y,y∈x.subs->y∈t.subs:=by
   intro x hx y hy;rw [Gl.subs_eq,Gl.subss_eq];exact List.mem_cons_of_mem _ (l_.2 ⟨x,hx,hy⟩)
  have key8:∀(l:List Gl) (a:List (List Gl)),(∀x,x∈l->x∈t.goals)->(∀c,c∈a->c.length<=Gl.cnts t.goals/\∀x,x∈c->x∈t.subs)->∀c,c∈Gl.orS l a->c.length<=Gl.cnts t.goals/\∀x,x∈c->x∈t.subs:=by
   intro l;induction l with
   | nil=>intro a _ ha;simpa only [Gl.orS] using ha
   | cons x r ihr =>
    intro a hl ha;have h1:=ih x (hl x (by simp));have h2:=hb x (hl x (by simp));have h3:∀c,c∈x.clsS->c.length<=Gl.cnts t.goals/\∀x,x∈c->x∈t.subs:=fun c hc=>⟨by have:=(h1 c hc).1;omega,fun y hy=>hsub x (hl x (by simp)) y ((h1 c hc).2 y hy)⟩;simp only [Gl.orS];split
    ·exact h3
    ·refine ihr _ (fun y hy=>hl y (by simp [hy])) fun c hc=>?_
     rcases r_.1 hc with h | h
     ·exact ha c h
     ·exact h3 c h
  have key7:∀(l:List Gl) (a:List (List Gl)) (m:Nat),(∀x,x∈l->x∈t.goals)->m+Gl.cnts l<=Gl.cnts t.goals->(∀c,c∈a->c.length<=m/\∀x,x∈c->x∈t.subs)->∀c,c∈Gl.andS l a->c.length<=Gl.cnts t.goals/\∀x,x∈c->x∈t.subs:=by
   intro l;induction l with
   | nil=>intro a m _ hm ha c hc;simp only [Gl.andS] at hc;have:=ha c hc;simp only [Gl.cnts] at hm;exact ⟨by omega,this.2⟩
   | cons x r ihr =>
    intro a m hl hm ha;have h1:=ih x (hl x (by simp));have h2:=hb x (hl x (by simp));simp only [Gl.cnts] at hm;have h3:∀c,c∈x.clsS->c.length<=x.cnt/\∀x,x∈c->x∈t.subs:=fun c hc=>⟨(h1 c hc).1,fun y hy=>hsub x (hl x (by simp)) y ((h1 c hc).2 y hy)⟩;have h4:∀c,c∈J7 a x.clsS->c.length<=m+x.cnt/\∀x,x∈c->x∈t.subs:=by
     intro c hc;obtain ⟨u,v,hu,hv,rfl⟩:=at7 hc;have k1:=ha u hu;have k2:=h3 v hv;refine ⟨by rw [i_];omega,fun y hy=>?_⟩;rcases r_.1 hy with h | h
     ·exact k1.2 y h
     ·exact k2.2 y h
    simp only [Gl.andS];split
    ·exact fun c hc=>⟨by have:=(h3 c hc).1;omega,(h3 c hc).2⟩
    ·split
     ·exact fun c hc=>⟨by have:=(h4 c hc).1;omega,(h4 c hc).2⟩
     ·exact ihr _ (m+x.cnt) (fun y hy=>hl y (by simp [hy])) (by omega) h4
  rw [Gl.clsS_eq,Gl.cnt_eq];intro c hc;split at hc
  ·simp at hc;subst hc;simp
  ·split at hc
   ·simp at hc
   ·split at hc
    ·have:=key8 t.goals [] (fun x hx=>hx) (by simp) c hc;exact ⟨by omega,this.2⟩
    ·split at hc
     ·have:=key7 t.goals [[]] 0 (fun x hx=>hx) (by omega) (by simp) c hc;exact ⟨by omega,this.2⟩
     ·simp at hc;subst hc
      refine ⟨by simp,fun x hx=>?_⟩;simp at hx;subst hx;rw [Gl.subs_eq];simp
def Gl.nI (g:Gl):Nat:=(g.clsI.getD []).length
def i64 (n:Int):Int:=IntKind.i64.wrap n
mutual
def Gl.leadI:Gl->List Int->Int×List Int
 | .mk k _ _ gs,cs=>if k=1 then (-1,cs) else if k=8 then
   (match cs with
   | []=>(-1,[])
   | c :: r=>if c<0\/(gs.length:Int)<=c then (-1,r) else Gl.leadAt gs c.toNat 0 r)
  else if k=7 then Gl.leadL gs 0 cs else (0,cs)
def Gl.leadAt:List Gl->Nat->Int->List Int->Int×List Int
 | [],_,_,cs=>(-1,cs)
 | g :: _,0,n,cs=>if (Gl.leadI g cs).1<0 then (-1,(Gl.leadI g cs).2) else (i64 (n+(Gl.leadI g cs).1),(Gl.leadI g cs).2)
 | g :: r,i+1,n,cs=>Gl.leadAt r i (i64 (n+g.nI)) cs
def Gl.leadL:List Gl->Int->List Int->Int×List Int
 | [],n,cs=>(n,cs)
 | g :: r,n,cs=>if (Gl.leadI g cs).1<0 then (-1,(Gl.leadI g cs).2) else Gl.leadL r (i64 (i64 (n * g.nI)+(Gl.leadI g cs).1)) (Gl.leadI g cs).2
end
mutual
def Gl.idxS (cs:List Int):Gl->Nat->Bool->Int×Nat×Bool
 | .mk k _ _ gs,u,ok=>if k=1 then (0,u,false) else if k=8 then
   (match cs[u]? with
   | none=>(0,u,false)
   | some c=>if 0<=c/\c<=(gs.length:Int) - 1 then Gl.idxAt cs gs c.toNat [] (u+1) ok else (0,u,false))
  else if k=7 then Gl.idxL cs gs 0 u ok else (0,u,ok)
def Gl.idxAt (cs:List Int):List Gl->Nat->List Gl->Nat->Bool->Int×Nat×Bool
 | [],_,_,u,ok=>(0,u,ok)
 | g :: _,0,before,u,ok=>(before.foldl (fun k x=>i64 (k+x.clsS.length)) (Gl.idxS cs g u ok).1,(Gl.idxS cs g u ok).2)
 | g :: r,i+1,before,u,ok=>Gl.idxAt cs r i (before++[g]) u ok
def Gl.idxL (cs:List Int):List Gl->Int->Nat->Bool->Int×Nat×Bool
 | [],n,u,ok=>(n,u,ok)
 | g :: r,n,u,ok=>Gl.idxL cs r (i64 (i64 (n * g.clsS.length)+(Gl.idxS cs g u ok).1)) (Gl.idxS cs g u ok).2.1 (Gl.idxS cs g u ok).2.2
end
def Gl.prd:List Gl->Nat
 | []=>1
 | g :: r=>g.clsS.length * Gl.prd r
def V.sub (f:Int->V):V->V
 | .var n=>f n
 | .pair a b=>.pair (a.sub f) (b.sub f)
 | v=>v
def o6 (vs:List V) (n:Int):V:=vs.getD n.toNat .nil
theorem aX5 {vs:List V} {n:Int} (h0:0<=n) (h1:n<vs.length):vs[n.toNat]? = some (o6 vs n):=by
 have h:n.toNat<vs.length:=by omega
 rw [o6,I_,j_ h];rfl
abbrev FcV:=List UInt8×List V
def FcV.fc (f:FcV):Fc:=⟨f.1,f.2.map V.tm⟩
def Gl.testV (f:Int->V) (g:Gl):Bool:=
 match g.kind,g.terms with
 | 0,_=>true
 | 2,[a,b]=>decide ((a.V.sub f).cmp (b.V.sub f)=0)
 | 3,[a,b]=>!decide ((a.V.sub f).cmp (b.V.sub f)=0)
 | 4,[a]=>decide ((a.V.sub f).kind=2)
 | 5,[a]=>decide ((a.V.sub f).kind=3)
 | 6,[a,b]=>!(b.V.sub f).has (a.V.sub f).name
 | _,_=>false
def Gl.callV (f:Int->V) (g:Gl):FcV:=(g.name,g.terms.map fun t=>t.V.sub f)
def FcV.eq (a b:FcV):Bool:=decide (I6 a.1 a.2 b.1 b.2=0)
def J6 (f:Int->V):List Gl->List (Bool×FcV)->Bool
 | [],ks=>ks.isEmpty
 | g :: r,ks=>if g.kind=10 then false else if g.kind=9 then
   (match ks with
   | []=>false
   | k :: ks=>k.1 && k.2.eq (g.callV f) && J6 f r ks)
  else g.testV f && J6 f r ks
def q8 (f:Int->V) (c:List Gl):Bool:=c.all fun g=>decide (g.kind=9) || decide (g.kind=10) || g.testV f
def u7 (f:Int->V) (c:List Gl):List FcV:=(c.filter fun g=>decide (g.kind=9)).map (Gl.callV f)
def r9 (f:Int->V) (c:List Gl):List FcV:=((c.filter fun g=>decide (g.kind=10)).filterMap fun g=>g.goals.head?).map (Gl.callV f)
def af6:List (Bool×FcV)->List FcV->Bool
 | k :: ks,x :: xs=>k.1 && k.2.eq x && af6 ks xs
 | _,_=>true
theorem ao5 (f:Int->V):∀(c:List Gl) (ks:List (Bool×FcV)),(∀g,g∈c->g.kind=10->g.goals≠[]) ->
  J6 f c ks=(q8 f c && (decide (r9 f c=[]) && (decide ((u7 f c).length=ks.length) && af6 ks (u7 f c))))
 | [],ks,_=>by
  cases ks with
  | nil=>simp [J6,q8,r9,u7,af6]
  | cons k r=>simp [J6,q8,r9,u7]
 | g :: r,ks,hn=>by
  have ih:=fun ks=>ao5 f r ks (fun x hx=>hn x (by simp [hx]));have hg:=hn g (by simp);unfold J6;by_cases h10:g.kind=10
  ·obtain ⟨x,q,hx⟩:∃x q,g.goals=x :: q:=by
    cases hgl:g.goals with
    | nil=>exact absurd hgl (hg h10)
    | cons x q=>exact ⟨x,q,rfl⟩
   simp [h10,r9,hx]
  ·rw [if_neg h10]
   by_cases h9:g.kind=9
   ·rw [if_pos h9]
    have e1:q8 f (g :: r)=q8 f r:=by simp [q8,h9]
    have e2:r9 f (g :: r)=r9 f r:=by simp [r9,h9]
    have e3:u7 f (g :: r)=g.callV f :: u7 f r:=by simp [u7,h9]
    rw [e1,e2,e3];cases ks with
    | nil=>simp
    | cons k ks =>
     dsimp only;rw [ih ks];simp only [c_,af6];have e4:decide ((u7 f r).length+1=ks.length+1)=decide ((u7 f r).length=ks.length):=by simp
     rw [e4];cases k.1<;>cases k.2.eq (g.callV f)<;>cases q8 f r<;>cases decide (r9 f r=[])<;>cases decide ((u7 f r).length=ks.length)<;>simp
   ·rw [if_neg h9,ih ks]
    have e1:q8 f (g :: r)=(g.testV f && q8 f r):=by simp [q8,h9,h10]
    have e2:r9 f (g :: r)=r9 f r:=by simp [r9,h10]
    have e3:u7 f (g :: r)=u7 f r:=by simp [u7,h9]
    rw [e1,e2,e3,Bool.and_assoc]
def Pg.headV (p:Pg) (rel:List UInt8) (vals:List Tm):FcV:=(rel,(vals.map Tm.V).take (match p.rels[(p.find rel).toNat]? with | some r=>r.arity.toNat | none=>0))
def Pg.prfAt (p:Pg) (rel:List UInt8) (cl:Int) (vals:List Tm) (ks:List (Bool×FcV)):Bool:=
 decide (0<=p.find rel) && (match p.rels[(p.find rel).toNat]? with
  | none=>false
  | some r=>decide ((vals.length:Int)=r.arity+r.locals) && (vals.all Tm.ground && (decide (r.body.clsS.length<=64) && (decide (0<=cl) && (match r.body.clsS[cl.toNat]? with
   | none=>false
   | some c=>J6 (o6 (vals.map Tm.V)) c ks)))))
mutual
def Pg.prf (p:Pg):Pf->Bool
 | .mk rel cl vals kids=>p.prfAt rel cl vals (Pg.prfs p kids)
def Pg.prfs (p:Pg):List Pf->List (Bool×FcV)
 | []=>[]
 | k :: r=>(p.prf k,p.headV k.rel k.values) :: p.prfs r
end
theorem Pg.prf_eq (p:Pg) (t:Pf):p.prf t=p.prfAt t.rel t.clause t.values (p.prfs t.kids):=by
 cases t;simp only [Pg.prf,Pf.rel,Pf.clause,Pf.values,Pf.kids]
theorem Pg.prfs_eq (p:Pg):∀l:List Pf,p.prfs l=l.map fun k=>(p.prf k,p.headV k.rel k.values)
 | []=>rfl
 | k :: r=>by simp only [Pg.prfs,h_,Pg.prfs_eq p r]
theorem Pg.prfAt_neg {p:Pg} {rel:List UInt8} {cl:Int} {vals:List Tm} {ks:List (Bool×FcV)} (h:p.find rel<0):p.prfAt rel cl vals ks=false:=by
 unfold Pg.prfAt;rw [decide_eq_false (by omega),Bool.false_and]
theorem Pg.prfAt_at {p:Pg} {rel:List UInt8} {cl:Int} {vals:List Tm} {ks:List (Bool×FcV)} (h:0<=p.find rel) {r:Rl} (hr:p.rels[(p.find rel).toNat]? = some r) :
  p.prfAt rel cl vals ks=(decide ((vals.length:Int)=r.arity+r.locals) && (vals.all Tm.ground && (decide (r.body.clsS.length<=64) && (decide (0<=cl) && (match r.body.clsS[cl.toNat]? with
   | none=>false
   | some c=>J6 (o6 (vals.map Tm.V)) c ks))))):=by
 unfold Pg.prfAt;rw [decide_eq_true h,p_,hr]
theorem Pg.prf_head {p:Pg} {t:Pf} (h:p.prf t=true):0<=p.find t.rel/\∃r,p.rels[(p.find t.rel).toNat]? = some r/\(t.values.length:Int)=r.arity+r.locals/\t.values.all Tm.ground=true/\p.headV t.rel t.values=(t.rel,(t.values.map Tm.V).take r.arity.toNat):=by
 rw [Pg.prf_eq] at h;unfold Pg.prfAt at h;simp only [a_,decide_eq_true_eq] at h;obtain ⟨h0,h1⟩:=h;refine ⟨h0,?_⟩;split at h1
 ·exact absurd h1 (by simp)
 ·rename_i r hr
  simp only [a_,decide_eq_true_eq] at h1;exact ⟨r,hr,h1.1,h1.2.1,by unfold Pg.headV;rw [hr]⟩
theorem G5 {t:Tm} (h:t.ground=true):Q5 t=true:=by unfold Tm.ground at h;simp only [a_] at h;exact h.1
theorem ab4 {l:List Tm} (h:l.all Tm.ground=true):l=(l.map Tm.V).map V.tm:=by
 rw [aa_];conv=>lhs;rw [<-List.map_id l]
 refine List.map_congr_left fun t ht=>?_;exact Tm.V_of (G5 (d_.1 h t ht))
theorem Pf.ind' {Q:Pf->Prop} (h:∀t:Pf,(∀x,x∈t.kids->Q x)->Q t):∀t,Q t:=by
 intro t;induction t using Pf.ind with
 | h a0 a1 a2 a3 ih=>exact h _ ih
theorem Pf.wt_kids {t x:Pf} (h:x∈t.kids):wtL x.enc<wtL t.enc:=by
 have:=ad6 (t.kids.map Pf.enc) x.enc (g_.2 ⟨x,h,rfl⟩);simp only [Pf.enc_eq t,wtL,D.wt];omega
theorem Pf.wt_values {t:Pf} {x:Tm} (h:x∈t.values):wtL x.enc<wtL t.enc:=by
 have:=ad6 (t.values.map Tm.enc) x.enc (g_.2 ⟨x,h,rfl⟩);simp only [Pf.enc_eq t,wtL,D.wt];omega
mutual
def Pf.cnt:Pf->Nat
 | .mk _ _ _ ks=>1+Pf.cnts ks
def Pf.cnts:List Pf->Nat
 | []=>0
 | k :: r=>k.cnt+Pf.cnts r
end
theorem Pf.cnt_eq (t:Pf):t.cnt=1+Pf.cnts t.kids:=by cases t;simp only [Pf.cnt,Pf.kids]
theorem Pf.cnt_pos (t:Pf):1<=t.cnt:=by rw [Pf.cnt_eq];omega
mutual
def Pf.countF:Pf->Int->Int
 | .mk _ _ _ ks,most=>Pf.countL ks most 1
def Pf.countL:List Pf->Int->Int->Int
 | [],_,n=>n
 | k :: r,most,n=>if n > most then n else Pf.countL r most (n+k.countF (most - n))
end
theorem Pf.countF_eq (t:Pf) (most:Int):t.countF most=Pf.countL t.kids most 1:=by cases t;simp only [Pf.countF,Pf.kids]
theorem Pf.count_spec:∀(t:Pf) (most:Int),1<=t.countF most/\t.countF most<=t.cnt/\((t.cnt:Int)<=most->t.countF most=t.cnt)/\(most<t.cnt->most<t.countF most):=by
 intro t;induction t using Pf.ind' with
 | h t ih =>
  have key:∀(l:List Pf),(∀x,x∈l->x∈t.kids)->∀(most n:Int),n<=Pf.countL l most n/\Pf.countL l most n<=n+Pf.cnts l/\(n+(Pf.cnts l:Int)<=most->Pf.countL l most n=n+Pf.cnts l)/\(most<n+Pf.cnts l->most<Pf.countL l most n):=by
   intro l;induction l with
   | nil=>intro _ most n;simp only [Pf.countL,Pf.cnts];omega
   | cons k r ihl =>
    intro hl most n;obtain ⟨i1,i2,i3,i4⟩:=ih k (hl k (by simp)) (most - n);obtain ⟨j1,j2,j3,j4⟩:=ihl (fun x hx=>hl x (by simp [hx])) most (n+k.countF (most - n));simp only [Pf.countL,Pf.cnts];have hp:=Pf.cnt_pos k;split
    ·omega
    ·refine ⟨by omega,by omega,fun h=>?_,fun h=>?_⟩
     ·have:=i3 (by omega);rw [j3 (by omega)];omega
     ·by_cases hk:(k.cnt:Int)<=most - n
      ·have:=i3 hk;exact j4 (by omega)
      ·have:=i4 (by omega);omega
  intro most;have:=key t.kids (fun x hx=>hx) most 1;rw [Pf.countF_eq,Pf.cnt_eq];omega
def bp7 (a b:Int):Int:=if a<b then b else a
mutual
def Pf.mea:Pf->Int->Int×Int
 | .mk _ _ _ ks,c=>Pf.meas ks 0 (c+1)
def Pf.meas:List Pf->Int->Int->Int×Int
 | [],h,c=>(h+1,c)
 | k :: r,h,c=>if c > 200 then (0,c) else Pf.meas r (bp7 h (k.mea c).1) (k.mea c).2
end
theorem Pf.mea_eq (t:Pf) (c:Int):t.mea c=Pf.meas t.kids 0 (c+1):=by cases t;simp only [Pf.mea,Pf.kids]
theorem Pf.mea_spec:∀(t:Pf) (c:Int),0<=(t.mea c).1/\(t.mea c).1<=t.cnt/\c<=(t.mea c).2/\(t.mea c).2<=c+t.cnt/\(c+t.cnt<=200->(t.mea c).2=c+t.cnt)/\(200<c+t.cnt->200<(t.mea c).2):=by
 intro t;induction t using Pf.ind' with
 | h t ih =>
  have key:∀(l:List Pf),(∀x,x∈l->x∈t.kids)->∀(h c:Int),0<=h->0<=(Pf.meas l h c).1/\(Pf.meas l h c).1<=h+1+Pf.cnts l/\c<=(Pf.meas l h c).2/\(Pf.meas l h c).2<=c+Pf.cnts l/\(c+(Pf.cnts l:Int)<=200->(Pf.meas l h c).2=c+Pf.cnts l)/\(200<c+Pf.cnts l->200<(Pf.meas l h c).2):=by
   intro l;induction l with
   | nil=>intro _ h c h0;simp only [Pf.meas,Pf.cnts];omega
   | cons k r ihl =>
    intro hl h c h0;have i:=ih k (hl k (by simp)) c;have hm:0<=bp7 h (k.mea c).1/\bp7 h (k.mea c).1<=h+k.cnt:=by unfold bp7;split<;>omega
    have j:=ihl (fun x hx=>hl x (by simp [hx])) (bp7 h (k.mea c).1) (k.mea c).2 hm.1;simp only [Pf.meas,Pf.cnts];have hp:=Pf.cnt_pos k;split
    ·dsimp only;omega
    ·obtain ⟨i1,i2,i3,i4,i5,i6⟩:=i
     obtain ⟨j1,j2,j3,j4,j5,j6⟩:=j;refine ⟨by omega,by omega,by omega,by omega,fun h=>?_,fun h=>?_⟩
     ·have:=i5 (by omega);rw [j5 (by omega)];omega
     ·by_cases hk:c+(k.cnt:Int)<=200
      ·have:=i5 hk;exact j6 (by omega)
      ·have:=i6 (by omega);omega
  intro c;have:=key t.kids (fun x hx=>hx) 0 (c+1) (by omega);rw [Pf.mea_eq,Pf.cnt_eq];omega
theorem Pf.cnt_le_wt:∀t:Pf,t.cnt<=1+wtL t.enc:=by
 intro t;induction t using Pf.ind' with
 | h t ih =>
  have key:∀(l:List Pf),(∀x,x∈l->x∈t.kids)->Pf.cnts l<=wtR (l.map Pf.enc):=by
   intro l;induction l with
   | nil=>intro _;simp [Pf.cnts]
   | cons k r ihl =>
    intro hl;have:=ih k (hl k (by simp));have:=ihl (fun x hx=>hl x (by simp [hx]));simp only [Pf.cnts,h_,wtR];omega
  have:=key t.kids (fun x hx=>hx);rw [Pf.cnt_eq,Pf.enc_eq];simp only [wtL,D.wt];omega
def Pf.sizeI (t:Pf):Int:=if t.cnt<=200 then t.cnt else 0
theorem Pf.size_count (t:Pf):t.sizeI=if t.countF 200 > 200 then 0 else t.countF 200:=by
 have:=Pf.count_spec t 200;unfold Pf.sizeI;split<;>split<;>omega
theorem Pf.size_mea (t:Pf):t.sizeI=if (t.mea 0).2 > 200 then 0 else (t.mea 0).2:=by
 have:=Pf.mea_spec t 0;unfold Pf.sizeI;split<;>split<;>omega
def Pg.prfOk (p:Pg) (t:Pf):Bool:=N9 p && (decide (t.cnt<=200) && p.prf t)
def ax9:Nat->List V->List Bd
 | _,[]=>[]
 | k,v :: r=>⟨k,v.tm⟩ :: ax9 (k+1) r
theorem ad4:∀(l:List V) (k:Nat),(ax9 k l).length=l.length
 | [],_=>rfl
 | v :: r,k=>by simp [ax9,ad4 r (k+1)]
theorem bv2:∀(l:List V) (k i:Nat) (v:V),l[i]? = some v->(ax9 k l)[i]? = some ⟨((k+i:Nat):Int),v.tm⟩
 | [],_,_,_,h=>by simp at h
 | v :: r,k,0,w,h=>by simp at h;subst h;rfl
 | v :: r,k,i+1,w,h=>by
  simp only [D_] at h;have:=bv2 r (k+1) i w h;simp only [ax9,D_,this];rw [show k+1+i=k+(i+1) by omega]
theorem bE2 {l:List V} {k i:Nat} {b:Bd} (h:(ax9 k l)[i]? = some b):∃v,l[i]? = some v/\b=⟨((k+i:Nat):Int),v.tm⟩:=by
 have hl:i<l.length:=by rw [<-ad4 l k];exact (e_.1 h).1
 have hv:l[i]? = some l[i]:=j_ hl;rw [bv2 l k i _ hv] at h;cases h;exact ⟨_,hv,rfl⟩
theorem aw9:∀(l:List V) (k:Nat) (v:V),ax9 k (l++[v])=ax9 k l++[⟨((k+l.length:Nat):Int),v.tm⟩]
 | [],k,v=>by simp [ax9]
 | w :: r,k,v=>by simp only [o_,ax9,aw9 r (k+1) v,c_,show k+1+r.length=k+(r.length+1) by omega]
mutual
def Gl.ins (f:Int->V):Gl->Gl
 | .mk k n ts gs=>.mk k n (ts.map fun t=>(t.V.sub f).tm) (Gl.inss f gs)
def Gl.inss (f:Int->V):List Gl->List Gl
 | []=>[]
 | g :: r=>g.ins f :: Gl.inss f r
end
theorem Gl.inss_eq (f:Int->V):∀l:List Gl,Gl.inss f l=l.map (Gl.ins f)
 | []=>rfl
 | g :: r=>by simp only [Gl.inss,h_,Gl.inss_eq f r]
theorem Gl.ins_eq (f:Int->V) (g:Gl):g.ins f=.mk g.kind g.name (g.terms.map fun t=>(t.V.sub f).tm) (g.goals.map (Gl.ins f)):=by
 cases g;simp only [Gl.ins,Gl.inss_eq,Gl.kind,Gl.name,Gl.terms,Gl.goals]
theorem V.fine_vars:∀v:V,v.fine=true->∀n,n∈v.vars->0<=n/\n<=100000
 | .nil,_,n,hn=>by simp [V.vars] at hn
 | .var m,h,n,hn=>by simp [V.vars] at hn;subst hn;simpa [V.fine] using h
 | .sym _,_,n,hn=>by simp [V.vars] at hn
 | .num _,_,n,hn=>by simp [V.vars] at hn
 | .pair a b,h,n,hn=>by
  simp only [V.fine,a_] at h;simp only [V.vars,r_] at hn;rcases hn with hn | hn
  ·exact V.fine_vars a h.1 n hn
  ·exact V.fine_vars b h.2 n hn
theorem bm1 {t:Tm} (h:Q5 t=true):∀n,n∈t.vars->0<=n/\n<=100000:=by
 obtain ⟨v,rfl,hv⟩:=bm2 h;rw [V.vars_tm];exact V.fine_vars v hv
theorem Gl.vars_terms {t:Gl} {x:Tm} (h:x∈t.terms):∀n,n∈x.vars->n∈t.vars:=fun n hn=>by
 rw [Gl.vars_eq,Tm.varss_eq];exact List.mem_append_left _ (l_.2 ⟨x,h,hn⟩)
theorem Gl.vars_goals {t x:Gl} (h:x∈t.goals):∀n,n∈x.vars->n∈t.vars:=fun n hn=>by
 rw [Gl.vars_eq,Gl.varss_eq];exact List.mem_append_right _ (l_.2 ⟨x,h,hn⟩)
theorem Gl.vars_sub {t:Gl}:∀x,x∈t.subs->∀n,n∈x.vars->n∈t.vars:=
 Gl.subs_ind (Q:=fun y=>∀n,n∈y.vars->n∈t.vars) (fun y h x hx n hn=>h n (Gl.vars_goals hx n hn)) t (fun _ h=>h)
def Gl.inst (m:Nat) (g:Gl):Prop:=g.shape=true/\∀n,n∈g.vars->0<=n/\n<m
theorem Gl.inst_terms {m:Nat} {g:Gl} (h:g.inst m):∀t,t∈g.terms->t.enc=t.V.enc/\∀n,n∈t.V.vars->0<=n/\n<m:=fun t ht=>by
 have hok:=Gl.shape_terms h.1 t ht;refine ⟨Tm.enc_V hok,fun n hn=>?_⟩;rw [<-Tm.vars_V hok] at hn;exact h.2 n (Gl.vars_terms ht n hn)
theorem Gl.inst_goals {m:Nat} {g:Gl} (h:g.inst m):∀x,x∈g.goals->x.inst m:=fun x hx=>by
 have hs:=h.1;rw [Gl.shape_eq] at hs;simp only [a_,d_] at hs;exact ⟨hs.2 x hx,fun n hn=>h.2 n (Gl.vars_goals hx n hn)⟩
theorem Gl.inst_sub {m:Nat} {g:Gl} (h:g.inst m):∀x,x∈g.subs->x.inst m:=fun x hx=>⟨Gl.shape_sub h.1 x hx,fun n hn=>h.2 n (Gl.vars_sub x hx n hn)⟩
theorem Gl.vars_nonneg {g:Gl} (h:g.shape=true):∀n,n∈g.vars->0<=n:=fun n hn=>by
 rw [Gl.vars_subs] at hn;obtain ⟨x,hx,hn⟩:=l_.1 hn;rw [Tm.varss_eq] at hn;obtain ⟨t,ht,hn⟩:=l_.1 hn;exact (bm1 (Gl.shape_terms (Gl.shape_sub h x hx) t ht) n hn).1
theorem Pg.body_inst {p:Pg} (h:N9 p=true) {r:Rl} (hr:r∈p.rels) {m:Nat} (hm:(m:Int)=r.arity+r.locals):r.body.inst m/\0<=r.arity/\0<=r.locals/\r.arity<=4/\r.locals<=8/\r.body.cnt<=60:=by
 unfold N9 at h;simp only [a_] at h;obtain ⟨i,hi⟩:=af0 h.2 r hr;unfold Pg.relOk at hi;simp only [a_,decide_eq_true_eq] at hi;obtain ⟨⟨⟨⟨⟨⟨⟨_,_⟩,ha⟩,hl⟩,hc⟩,hs⟩,hv⟩,_⟩:=hi;unfold Gl.varsLt at hv;simp only [d_,decide_eq_true_eq] at hv;exact ⟨⟨hs,fun n hn=>⟨Gl.vars_nonneg hs n hn,by have:=hv n hn;omega⟩⟩,ha.1,hl.1,ha.2,hl.2,hc⟩
theorem Gl.shape_cases {g:Gl} (h:g.shape=true) :
  ((g.kind=0\/g.kind=1)/\g.terms=[])\/((g.kind=2\/g.kind=3\/g.kind=6)/\∃a b,g.terms=[a,b]/\Q5 a=true/\Q5 b=true)\/((g.kind=4\/g.kind=5)/\∃a,g.terms=[a]/\Q5 a=true)\/7<=g.kind:=by
 have ht:=Gl.shape_terms h;have hs:=h;rw [Gl.shape_eq] at hs;simp only [a_] at hs;have hf:=Gl.form_inv hs.1.1;by_cases h7:7<=g.kind
 ·exact .inr (.inr (.inr h7))
 have h0:(g.kind=0\/g.kind=1)->(g.terms.length:Int)=0:=fun hk=>by
  have e:y8 g.kind=0:=by rcases hk with hk | hk<;>rw [hk]<;>rfl
  rw [e] at hf;omega
 have h2:(g.kind=2\/g.kind=3\/g.kind=6)->(g.terms.length:Int)=2:=fun hk=>by
  have e:y8 g.kind=2:=by rcases hk with hk | hk | hk<;>rw [hk]<;>rfl
  rw [e] at hf;omega
 have h1:(g.kind=4\/g.kind=5)->(g.terms.length:Int)=1:=fun hk=>by
  have e:y8 g.kind=1:=by rcases hk with hk | hk<;>rw [hk]<;>rfl
  rw [e] at hf;omega
 by_cases c0:g.kind=0\/g.kind=1
 ·exact .inl ⟨c0,u_ (by have:=h0 c0;omega)⟩
 ·by_cases c1:g.kind=4\/g.kind=5
  ·obtain ⟨a,e⟩:=bq6 (h1 c1)
   exact .inr (.inr (.inl ⟨c1,a,e,ht a (by simp [e])⟩))
  ·have c2:g.kind=2\/g.kind=3\/g.kind=6:=by omega
   obtain ⟨a,b,e⟩:=bL9 (h2 c2);exact .inr (.inl ⟨c2,a,b,e,ht a (by simp [e]),ht b (by simp [e])⟩)
theorem Gl.shape_len {g:Gl} (h:g.shape=true):g.terms.length<=4/\g.goals.length<=8:=by
 have hs:=h;rw [Gl.shape_eq] at hs;simp only [a_] at hs;have hf:=Gl.form_inv hs.1.1;have:=aD0 g.kind;omega
theorem Gl.shape_not {g:Gl} (h:g.shape=true) (hk:g.kind=10):∃x,g.goals=[x]:=by
 have hs:=h;rw [Gl.shape_eq] at hs;simp only [a_] at hs;have hf:=Gl.form_inv hs.1.1;exact bq6 (by omega)
theorem bv1:∀(l:List V) (k:Nat),(ax9 k l).map Bd.to=l.map V.tm
 | [],_=>rfl
 | v :: r,k=>by simp [ax9,bv1 r (k+1)]
def U6 (f:Int->V) (g:Gl):Bool:=decide (g.kind=9) || decide (g.kind=10) || g.testV f
def aj8 (f:Int->V) (c:List Gl):List Gl:=c.takeWhile (U6 f)
theorem aW2 {f:Int->V} {d s:List Gl} {g:Gl} (hd:d.all (U6 f)=true) (hg:U6 f g=false):aj8 f (d++g :: s)=d/\q8 f (d++g :: s)=false:=by
 constructor
 ·unfold aj8
  rw [S_ (fun x hx=>d_.1 hd x hx),List.takeWhile_cons_of_neg (by rw [hg];simp),H_]
 ·unfold q8
  rw [List.all_append,s_];have:(decide (g.kind=9) || decide (g.kind=10) || g.testV f)=false:=hg;rw [this];simp
theorem am7 {f:Int->V} {d:List Gl} (hd:d.all (U6 f)=true):aj8 f d=d/\q8 f d=true:=by
 refine ⟨?_,hd⟩;have:=S_ (p:=U6 f) (l₁:=d) (l₂:=[]) (fun x hx=>d_.1 hd x hx);simpa [aj8] using this
theorem aw6 (f:Int->V) (d:List Gl) (g:Gl):u7 f (d++[g])=u7 f d++(if g.kind=9 then [g.callV f] else []):=by
 unfold u7;by_cases h:g.kind=9<;>simp [h]
theorem aw7 (f:Int->V) (d:List Gl) (g:Gl):r9 f (d++[g])=r9 f d++(if g.kind=10 then (g.goals.head?.toList.map (Gl.callV f)) else []):=by
 unfold r9;by_cases h:g.kind=10
 ·cases hh:g.goals.head?<;>simp [h,hh]
 ·simp [h]
def bP9 (r:Rl) (i:Int) (vs:List V) (d:List Gl):Ru:=⟨⟨r.name,(vs.map V.tm).take r.arity.toNat⟩,i,vs.map V.tm,(u7 (o6 vs) d).map FcV.fc,(r9 (o6 vs) d).map FcV.fc⟩
theorem ad3 (f:Int->V) (d:List Gl):(u7 f d).length<=d.length:=by unfold u7;rw [n_];exact M_ _ _
theorem am8 (f:Int->V) (d:List Gl):(r9 f d).length<=d.length:=by
 unfold r9;rw [n_];exact y_ (List.length_filterMap_le _ _) (M_ _ _)
mutual
def Gl.cn:Gl->Nat->List (List UInt8)
 | .mk k n _ gs,i=>if k=8 then Gl.cnOr gs i else if k=7 then Gl.cnAnd gs i else if k=9 then [n] else []
def Gl.cnOr:List Gl->Nat->List (List UInt8)
 | [],_=>[]
 | g :: r,i=>if i<g.clsS.length then Gl.cn g i else Gl.cnOr r (i - g.clsS.length)
def Gl.cnAnd:List Gl->Nat->List (List UInt8)
 | [],_=>[]
 | g :: r,i=>Gl.cn g (i / Gl.prd r % g.clsS.length)++Gl.cnAnd r i
end
def dec (n:Int):List UInt8:=Lib.itoa n
theorem am6 {n:Int} (h0:-1000000000<=n) (h1:n<=1000000000):(dec n).length<=21:=Lib.itoa_length_le n (by omega) (by omega)
theorem aI0 {n:Int} (h:0<=n):dec n=Lib.decDigits n.toNat:=by unfold dec Lib.itoa;rw [if_neg (by omega)]
theorem am5 {n:Int} (h:n<0):dec n=45 :: Lib.decDigits n.natAbs:=by unfold dec Lib.itoa;rw [if_pos h]
theorem bN4 {n:Int} (h:n<0) (h9:-10<n):dec n=[45,UInt8.ofNat (48 - n).toNat]:=by
 rw [am5 h,Lib.decDigits,dif_pos (by omega)];congr 3;omega
theorem bD3 {n:Int} (h:n<0) (h9:n<=-10):dec n=dec (n.tdiv 10)++[UInt8.ofNat (48 - n.tmod 10).toNat]:=by
 obtain ⟨m,rfl⟩:∃m:Nat,n=-(m:Int):=⟨n.natAbs,by omega⟩;have e1:(-(m:Int)).tdiv 10=-((m / 10:Nat):Int):=by rw [Int.neg_tdiv,Y_ (by omega)];omega
 have e2:(-(m:Int)).tmod 10=-((m % 10:Nat):Int):=by rw [Int.neg_tmod,X_ (by omega)];omega
 rw [e1,e2,am5 h,am5 (n:=-((m / 10:Nat):Int)) (by omega),Lib.decDigits,dif_neg (by omega)];have e3:(-(m:Int)).natAbs=m:=by omega
 have e4:(-((m / 10:Nat):Int)).natAbs=m / 10:=by omega
 rw [e3,e4,o_];congr 4;omega
def bM0 (by_:List UInt8):List (List UInt8)->List UInt8
 | []=>[]
 | x :: r=>x++r.flatMap fun y=>by_++y
namespace V
def txs:V->List UInt8×List UInt8
 | nil=>([40,41],[41])
 | var n=>(63 :: dec n,[32,46,32]++(63 :: dec n)++[41])
 | sym s=>(s,[32,46,32]++s++[41])
 | num n=>(dec n,[32,46,32]++dec n++[41])
 | pair a b=>(40 :: (a.txs.1++b.txs.2),32 :: (a.txs.1++b.txs.2))
def txt (v:V):List UInt8:=v.txs.1
end V
def aj4 (k:Int):List UInt8:=
 if k=0 then [116,114,117,101] else if k=1 then [102,97,105,108] else if k=2 then [61] else if k=3 then [47,61] else if k=4 then [115,121,109,98,111,108] else
 if k=5 then [110,117,109,98,101,114] else if k=6 then [97,98,115,101,110,116] else if k=7 then [97,110,100] else if k=8 then [111,114] else if k=10 then [110,111,116] else []
mutual
def Gl.txt:Gl->List UInt8
 | .mk k n ts gs=>if k<=1 then aj4 k++n else 40 :: (bM0 [32] ((aj4 k++n) :: (ts.map (fun t=>t.V.txt)++Gl.txts gs))++[41])
def Gl.txts:List Gl->List (List UInt8)
 | []=>[]
 | g :: r=>Gl.txt g :: Gl.txts r
end
def Fc.gl (f:Fc):Gl:=.mk 9 f.rel f.args []
def Fc.txt (f:Fc):List UInt8:=if ak5 f.gl=true/\f.gl.vars=[] then f.gl.txt else []
def Rl.hdW (r:Rl) (i:Nat):List (List UInt8):=r.name :: (List.range i).map fun k:Nat=>63 :: dec k
def Rl.txt (r:Rl):List UInt8:=[40,100,101,102,105,110,101,32,40]++bM0 [32] (r.hdW r.arity.toNat)++[41,32]++r.body.txt++[41,10]
def Pg.txt (p:Pg):List UInt8:=p.rels.flatMap Rl.txt
def grp (l:List (List UInt8)):List UInt8:=40 :: (bM0 [32] l++[41])
mutual
def Pf.txt:Pf->List UInt8
 | .mk rel cl vals kids=>grp (rel :: dec cl :: grp (vals.map fun t=>t.V.txt) :: Pf.txts kids)
def Pf.txts:List Pf->List (List UInt8)
 | []=>[]
 | k :: r=>Pf.txt k :: Pf.txts r
end
theorem bl0 {l:List (List D)} {x:List D} (h:x∈l):1+wtL x<=wtR l:=by
 induction l with
 | nil=>simp at h
 | cons y r ih =>
  simp only [wtR];rcases b_.1 h with rfl | h
  ·omega
  ·have:=ih h;omega
def V.sh (n:Int) (v:V):V:=v.sub fun k=>.var (k+n)
def Tm.sh (n:Int) (t:Tm):Tm:=(t.V.sh n).tm
mutual
def Gl.sh (n:Int):Gl->Gl
 | .mk k s ts gs=>.mk k s (ts.map (Tm.sh n)) (Gl.shs n gs)
def Gl.shs (n:Int):List Gl->List Gl
 | []=>[]
 | t :: r=>Gl.sh n t :: Gl.shs n r
end
def okB (c:UInt8):Bool:=c == 10 || (decide (32<=c.toNat) && decide (c.toNat<=126))
def bQ0 (c:UInt8):Bool:=c == 32 || c == 10 || c == 40 || c == 41 || c == 59
def aG0 (c:UInt8):Bool:=!bQ0 c
def bf3 (c:UInt8):Bool:=c != 10
theorem F6 {α:Type} (p:α->Bool):∀l:List α,(l.dropWhile p).length<=l.length
 | []=>k_ _
 | a :: r=>by
  simp only [B_];split
  ·have:=F6 p r;simp;omega
  ·exact k_ _
def toks:List UInt8->List (List UInt8)
 | []=>[]
 | c :: r =>
  if c=32\/c=10 then toks r
  else if c=59 then toks (r.dropWhile bf3)
  else if c=40\/c=41 then [c] :: toks r
  else (c :: r.takeWhile aG0) :: toks (r.dropWhile aG0)
termination_by l=>l.length
decreasing_by
 ·simp
 ·have:=F6 bf3 r;simp;omega
 ·simp
 ·have:=F6 aG0 r;simp;omega
theorem ah1:toks []=[]:=by rw [toks]
theorem V7 (c:UInt8) (r:List UInt8):toks (c :: r)=if c=32\/c=10 then toks r
  else if c=59 then toks (r.dropWhile bf3)
  else if c=40\/c=41 then [c] :: toks r
  else (c :: r.takeWhile aG0) :: toks (r.dropWhile aG0):=by rw [toks]
theorem ah3:∀(n:Nat) (l:List UInt8),l.length<=n->(toks l).length<=l.length
 | 0,l,h=>by
  obtain rfl:=u_ (by omega:l.length=0);rw [ah1];simp
 | n+1,[],h=>by rw [ah1];simp
 | n+1,c :: r,h=>by
  rw [V7];simp only [c_] at h;have h1:=ah3 n r (by omega);have h2:=ah3 n (r.dropWhile bf3) (by have:=F6 bf3 r;omega);have h3:=ah3 n (r.dropWhile aG0) (by have:=F6 aG0 r;omega);have h4:=F6 bf3 r;have h5:=F6 aG0 r;split
  ·simp;omega
  ·split
   ·simp;omega
   ·split
    ·simp;omega
    ·simp;omega
def aD9 (s:List UInt8):Option (List (List UInt8)):=if s.length<=100000/\s.all okB=true/\(toks s).length<=20000 then some (toks s) else none
theorem bI3 {α:Type} {p:α->Bool} {s:List α}:∀(d i k:Nat),k=i+d->k<=s.length->(∀j,i<=j->j<k->∀c,s[j]? = some c->p c=true) ->
  (s.drop i).takeWhile p=(s.take k).drop i++(s.drop k).takeWhile p/\(s.drop i).dropWhile p=(s.drop k).dropWhile p
 | 0,i,k,hk,hl,h=>by
  obtain rfl:k=i:=by omega
  have h0:(s.take k).drop k=[]:=E_ (by rw [J_];omega);rw [h0];exact ⟨rfl,rfl⟩
 | d+1,i,k,hk,hl,h=>by
  have hi:i<s.length:=by omega
  have hc:s[i]? = some s[i]:=j_ hi;have hp:=h i (k_ _) (by omega) _ hc;obtain ⟨h1,h2⟩:=bI3 d (i+1) k (by omega) hl (fun j a b c hc=>h j (by omega) b c hc);have hd:s.drop i=s[i] :: s.drop (i+1):=A_ hi;have ht:(s.take k).drop i=s[i] :: (s.take k).drop (i+1):=by
   have hi':i<(s.take k).length:=by rw [J_];omega
   rw [A_ hi'];congr 1;exact List.getElem_take
  rw [hd,Q_,B_,hp,ht];simp only [if_true];exact ⟨by rw [h1];rfl,h2⟩
theorem bF3 {α:Type} {p:α->Bool} {s:List α} {k:Nat} (h:∀c,s[k]? = some c->p c=false):(s.drop k).takeWhile p=[]/\(s.drop k).dropWhile p=s.drop k:=by
 by_cases hk:k<s.length
 ·have hd:s.drop k=s[k] :: s.drop (k+1):=A_ hk
  have:=h _ (j_ hk);rw [hd,Q_,B_,this];exact ⟨rfl,rfl⟩
 ·rw [E_ (by omega)];exact ⟨rfl,rfl⟩
theorem drop_at {s:List UInt8} {i:Nat} {c:UInt8} (h:s[i]? = some c):s.drop i=c :: s.drop (i+1):=by
 obtain ⟨h1,h2⟩:=e_.1 h;rw [<-h2];exact A_ h1
theorem bI6 {s:List UInt8} {i:Nat} {c:UInt8} (h:s[i]? = some c) (hc:c=32\/c=10):toks (s.drop i)=toks (s.drop (i+1)):=by
 rw [drop_at h,V7,if_pos hc]
theorem bx5 {s:List UInt8} {i:Nat} {c:UInt8} (h:s[i]? = some c) (hc:c=40\/c=41):toks (s.drop i)=[c] :: toks (s.drop (i+1)):=by
 rw [drop_at h,V7,if_neg (by rcases hc with rfl | rfl<;>decide),if_neg (by rcases hc with rfl | rfl<;>decide),if_pos hc]
theorem bx6 {s:List UInt8} {i k:Nat} (h:s[i]? = some 59) (hik:i<=k) (hk:k<=s.length) (hall:∀j,i<=j->j<k->∀c,s[j]? = some c->bf3 c=true) (hend:∀c,s[k]? = some c->bf3 c=false):toks (s.drop i)=toks (s.drop k):=by
 have h1:=(bI3 (k - i) i k (by omega) hk hall).2;rw [(bF3 hend).2,drop_at h,B_,if_pos (by decide)] at h1;rw [drop_at h,V7,if_neg (by decide),if_pos rfl,h1]
theorem bl8 {s:List UInt8} {i k:Nat} {c:UInt8} (h:s[i]? = some c) (hc:bQ0 c=false) (hik:i<k) (hk:k<=s.length) (hall:∀j,i<=j->j<k->∀c,s[j]? = some c->aG0 c=true) (hend:∀c,s[k]? = some c->aG0 c=false):toks (s.drop i)=(s.take k).drop i :: toks (s.drop k):=by
 obtain ⟨h1,h2⟩:=bI3 (k - i) i k (by omega) hk hall;obtain ⟨h3,h4⟩:=bF3 hend;have hp:aG0 c=true:=by unfold aG0;rw [hc];rfl
 rw [h3,H_,drop_at h,Q_,if_pos hp] at h1;rw [h4,drop_at h,B_,if_pos hp] at h2;unfold bQ0 at hc;simp only [N_,beq_eq_false_iff_ne,ne_eq] at hc;rw [drop_at h,V7,if_neg (fun h=>h.elim hc.1.1.1.1 hc.1.1.1.2),if_neg hc.2,if_neg (fun h=>h.elim hc.1.1.2 hc.1.2),h1,h2]
theorem bl9 {s:List UInt8} {i:Nat} (h:s.length<=i):toks (s.drop i)=[]:=by
 rw [E_ h,ah1]
theorem ap1 {c:UInt8} {n:Nat} (hn:n<256):c=UInt8.ofNat n↔(c.toNat:Int)=n:=by
 constructor
 ·rintro rfl
  simp only [UInt8.toNat_ofNat'];omega
 ·intro h
  apply UInt8.toNat_inj.1;simp only [UInt8.toNat_ofNat'];omega
def brI (b:Int):Bool:=decide (b=32) || decide (b=10) || decide (b=40) || decide (b=41) || decide (b=59)
theorem bu5 (c:UInt8):brI c.toNat=bQ0 c:=by
 unfold brI bQ0;have h:∀n:Nat,n<256->decide ((c.toNat:Int)=n)=(c == UInt8.ofNat n):=fun n hn=>by
  rw [C_,decide_eq_true_eq,beq_iff_eq];exact (ap1 hn).symm
 rw [show ((32:Int))=((32:Nat):Int) from rfl,show ((10:Int))=((10:Nat):Int) from rfl,show ((40:Int))=((40:Nat):Int) from rfl,show ((41:Int))=((41:Nat):Int) from rfl,show ((59:Int))=((59:Nat):Int) from rfl,h 32 (by omega),h 10 (by omega),h 40 (by omega),h 41 (by omega),h 59 (by omega)];rfl
theorem byte_at {s:List UInt8} {i:Nat} (h:i<s.length):∃c:UInt8,s[i]? = some c/\((s[i]?.getD 0).toNat:Int)=c.toNat:=⟨s[i],j_ h,by rw [j_ h];rfl⟩
theorem bT2 {c:UInt8}:bf3 c=!decide ((c.toNat:Int)=10):=by
 unfold bf3;rw [show ((10:Int))=((10:Nat):Int) from rfl,C_];simp only [bne_iff_ne,ne_eq,Bool.not_eq_true',decide_eq_false_iff_not];exact not_congr (ap1 (c:=c) (n:=10) (by omega))
theorem ch4 {c:UInt8}:okB c=(decide ((c.toNat:Int)=10) || (decide ((32:Int)<=c.toNat) && decide ((c.toNat:Int)<=126))):=by
 unfold okB;have h:(c == 10)=decide ((c.toNat:Int)=10):=by
  rw [C_,decide_eq_true_eq,beq_iff_eq];exact ap1 (c:=c) (n:=10) (by omega)
 rw [h];congr 1;congr 1<;>(rw [C_,decide_eq_true_eq,decide_eq_true_eq];omega)
theorem bO4 {s:List UInt8} (h:∀j,j<s.length->∀c,s[j]? = some c->okB c=true):s.all okB=true:=by
 rw [d_];intro c hc;obtain ⟨j,hj⟩:=G_ hc;exact h j (e_.1 hj).1 c hj
theorem bO2 {s:List UInt8} {j:Nat} {c:UInt8} (hj:s[j]? = some c) (h:okB c=false):s.all okB=false:=by
 rw [List.all_eq_false];exact ⟨c,q_ hj,by simp [h]⟩
theorem bT0 {s:List UInt8} {i:Nat} {c:UInt8} (h:s[i]? = some c):(s.take (i+1)).drop i=[c]:=by
 obtain ⟨h1,h2⟩:=e_.1 h;rw [List.take_add_one,h];simp only [Option.toList_some];rw [List.drop_append_of_le_length (by rw [J_];omega),E_ (by rw [J_];omega)];rfl
def tkC (o:Option (List (List UInt8))):C:=match o with
 | some T=>.tup [.d (.sl (Y1 T)),.d (.bool true)]
 | none=>.tup [.d (.sl []),.d (.bool false)]
open Go
theorem aA8:∀(l r:List UInt8) (acc a:Nat),Lib.parseUint10 acc l=.ok a->Lib.parseUint10 acc (l++r)=Lib.parseUint10 a r
 | [],r,acc,a,h=>by
  simp only [Lib.parseUint10,Lib.NumEnd.ok.injEq] at h;subst h;rfl
 | c :: l,r,acc,a,h=>by
  simp only [o_,Lib.parseUint10] at h |-;split
  ·rename_i hc
   rw [if_pos hc] at h;split
   ·rename_i h1;rw [if_pos h1] at h;cases h
   ·rename_i h1
    rw [if_neg h1] at h;split
    ·rename_i h2;rw [if_pos h2] at h;cases h
    ·rename_i h2
     rw [if_neg h2] at h;exact aA8 l r _ a h
  ·rename_i hc;rw [if_neg hc] at h;cases h
theorem K6 {d:Nat} (hd:d<10):(UInt8.ofNat (48+d)).toNat=48+d:=by
 simp only [UInt8.toNat_ofNat'];omega
theorem al5:∀(n u:Nat),u<=n->u<18446744073709551616->Lib.parseUint10 0 (Lib.decDigits u)=.ok u
 | n,u,hn,hu=>by
  rw [Lib.decDigits];split
  ·rename_i h
   have e:=K6 (d:=u) (by omega);simp only [Lib.parseUint10,e];rw [if_pos (by omega),if_neg (by omega),if_neg (by omega)];simp
  ·rename_i h
   match n,hn with
   | 0,hn=>omega
   | n+1,hn =>
    rw [aA8 _ _ _ _ (al5 n (u / 10) (by omega) (by omega))];have e:=K6 (d:=u % 10) (by omega);simp only [Lib.parseUint10,e];rw [if_pos (by omega),if_neg (by omega),if_neg (by omega)];congr 1;omega
theorem K7:∀(n u:Nat),u<=n->∃c r,Lib.decDigits u=c :: r/\48<=c.toNat/\c.toNat<=57
 | n,u,hn=>by
  rw [Lib.decDigits];split
  ·rename_i h
   have e:=K6 (d:=u) (by omega);exact ⟨_,[],rfl,by omega,by omega⟩
  ·rename_i h
   match n,hn with
   | 0,hn=>omega
   | n+1,hn =>
    obtain ⟨c,r,h1,h2,h3⟩:=K7 n (u / 10) (by omega);exact ⟨c,r++[UInt8.ofNat (48+u % 10)],by rw [h1];rfl,h2,h3⟩
theorem bE3 {n:Int} (h0:-9223372036854775808<=n) (h1:n<=9223372036854775807):Lib.atoiAll (dec n)=.ok n:=by
 by_cases h:n<0
 ·rw [am5 h,Lib.atoiAll_minus]
  obtain ⟨c,r,e1,e2,e3⟩:=K7 n.natAbs n.natAbs (k_ _);have hp:Lib.parseMag (Lib.decDigits n.natAbs)=.ok n.natAbs:=by
   unfold Lib.parseMag;rw [if_neg (by rw [e1];simp),al5 _ _ (k_ _) (by omega)]
  rw [hp];simp only [Lib.signed];rw [if_neg (by omega)];congr 1;omega
 ·rw [aI0 (by omega)]
  obtain ⟨c,r,e1,e2,e3⟩:=K7 n.toNat n.toNat (k_ _);have hp:Lib.parseMag (Lib.decDigits n.toNat)=.ok n.toNat:=by
   unfold Lib.parseMag;rw [if_neg (by rw [e1];simp),al5 _ _ (k_ _) (by omega)]
  rw [e1] at hp |-;rw [Lib.atoiAll_plain c r (by omega) (by omega),hp];simp only [Lib.signless];rw [if_neg (by omega)];congr 1;omega
def U3 (s:List UInt8):Option Int:=match Lib.atoiAll s with
 | .ok v=>if dec v=s then some v else none
 | _=>none
theorem ba0 {n:Int} (h0:-9223372036854775808<=n) (h1:n<=9223372036854775807):U3 (dec n)=some n:=by
 unfold U3;rw [bE3 h0 h1];simp
theorem O0 {s:List UInt8} {n:Int} (h:U3 s=some n):dec n=s/\-9223372036854775808<=n/\n<=9223372036854775807:=by
 unfold U3 at h;split at h
 ·rename_i v hv
  split at h
  ·rename_i he
   cases h;have:=Lib.atoiAll_bounds hv;exact ⟨he,this.1,this.2⟩
  ·cases h
 ·cases h
def bb6 (l:List UInt8):Nat:=l.foldl (fun a c=>a * 10+(c.toNat - 48)) 0
theorem aw3 (l:List UInt8) (c:UInt8):bb6 (l++[c])=bb6 l * 10+(c.toNat - 48):=by unfold bb6;rw [List.foldl_append];rfl
theorem aH9:∀(n u:Nat),u<=n->bb6 (Lib.decDigits u)=u
 | n,u,hn=>by
  rw [Lib.decDigits];split
  ·rename_i h
   have e:=K6 (d:=u) (by omega);simp [bb6,e];omega
  ·rename_i h
   match n,hn with
   | 0,hn=>omega
   | n+1,hn =>
    have e:=K6 (d:=u % 10) (by omega);rw [aw3,aH9 n (u / 10) (by omega),e];omega
theorem bu2:∀(n u:Nat),u<=n->∀c,c∈Lib.decDigits u->48<=c.toNat/\c.toNat<=57
 | n,u,hn=>by
  rw [Lib.decDigits];split
  ·rename_i h
   have e:=K6 (d:=u) (by omega);intro c hc;simp at hc;subst hc;have e:(48+UInt8.ofNat u).toNat=48+u:=by
    have:=K6 (d:=u) (by omega);simpa using this
   omega
  ·rename_i h
   match n,hn with
   | 0,hn=>omega
   | n+1,hn =>
    intro c hc;rcases r_.1 hc with hc | hc
    ·exact bu2 n (u / 10) (by omega) c hc
    ·have e:=K6 (d:=u % 10) (by omega)
     rw [List.mem_singleton] at hc;subst hc;omega
theorem aQ1:∀(l r:List UInt8),bb6 l<=bb6 (l++r)
 | l,[]=>by simp
 | l,c :: r=>by
  have h1:=aQ1 (l++[c]) r;rw [aw3,List.append_assoc] at h1;have h2:l++([c]++r)=l++c :: r:=rfl;rw [h2] at h1;omega
def atom (big:Bool) (t:List UInt8):Option V:=
 if F9 t=true then some (.sym t)
 else if t.head? = some 63 then (match U3 t.tail with | some n=>if 0<=n/\n<=100000 then some (.var n) else none | none=>none)
 else match U3 t with | some n=>if big=true\/(-1000000000<=n/\n<=1000000000) then some (.num n) else none | none=>none
def lst (l:List V) (t:V):V:=l.foldr .pair t
mutual
def rdT (big:Bool) (T:List (List UInt8)):Nat->Nat->Option (V×Nat)
 | 0,_=>none
 | n+1,i=>match T[i]? with
  | none=>none
  | some t=>if t=[41]\/t=[46] then none else if t=[40] then rdL big T n (i+1) [] else match atom big t with | some v=>some (v,i+1) | none=>none
def rdL (big:Bool) (T:List (List UInt8)):Nat->Nat->List V->Option (V×Nat)
 | 0,_,_=>none
 | n+1,i,acc=>match T[i]? with
  | none=>none
  | some t=>if t=[41] then some (lst acc .nil,i+1)
   else if t=[46] then (match rdT big T n (i+1) with | some (v,j)=>if acc≠[]/\T[j]? = some [41] then some (lst acc v,j+1) else none | none=>none)
   else match rdT big T n i with | some (v,j)=>rdL big T n j (acc++[v]) | none=>none
end
theorem bz7 {big:Bool} {T:List (List UInt8)} {n i:Nat} (h:T[i]? = none):rdT big T (n+1) i=none:=by rw [rdT,h]
theorem bo7 {big:Bool} {T:List (List UInt8)} {n i:Nat} {t:List UInt8} (h:T[i]? = some t) (ht:t=[41]\/t=[46]):rdT big T (n+1) i=none:=by
 rw [rdT,h];simp only [if_pos ht]
theorem bz6 {big:Bool} {T:List (List UInt8)} {n i:Nat} (h:T[i]? = some [40]):rdT big T (n+1) i=rdL big T n (i+1) []:=by
 rw [rdT,h];simp
theorem bz8 {big:Bool} {T:List (List UInt8)} {n i:Nat} {t:List UInt8} (h:T[i]? = some t) (h1:¬(t=[41]\/t=[46])) (h2:t≠[40]):rdT big T (n+1) i=match atom big t with | some v=>some (v,i+1) | none=>none:=by
 rw [rdT,h];simp only [if_neg h1,if_neg h2]
theorem bz9 {big:Bool} {T:List (List UInt8)} {n i:Nat} {acc:List V} (h:T[i]? = none):rdL big T (n+1) i acc=none:=by rw [rdL,h]
theorem bJ7 {big:Bool} {T:List (List UInt8)} {n i:Nat} {acc:List V} (h:T[i]? = some [41]):rdL big T (n+1) i acc=some (lst acc .nil,i+1):=by rw [rdL,h];simp
theorem bJ8 {big:Bool} {T:List (List UInt8)} {n i:Nat} {acc:List V} (h:T[i]? = some [46]):rdL big T (n+1) i acc=match rdT big T n (i+1) with | some (v,j)=>if acc≠[]/\T[j]? = some [41] then some (lst acc v,j+1) else none | none=>none:=by
 rw [rdL,h];simp
theorem bA0 {big:Bool} {T:List (List UInt8)} {n i:Nat} {acc:List V} {t:List UInt8} (h:T[i]? = some t) (h1:t≠[41]) (h2:t≠[46]):rdL big T (n+1) i acc=match rdT big T n i with | some (v,j)=>rdL big T n j (acc++[v]) | none=>none:=by
 rw [rdL,h];simp only [if_neg h1,if_neg h2]
def lsz:List V->Nat
 | []=>0
 | v :: r=>1+v.size+lsz r
theorem bp9:∀a b:List V,lsz (a++b)=lsz a+lsz b
 | [],b=>by simp [lsz]
 | v :: a,b=>by simp only [o_,lsz,bp9 a b];omega
theorem aG1:∀(l:List V) (t:V),(lst l t).size=lsz l+t.size
 | [],t=>by simp [lst,lsz]
 | v :: r,t=>by
  have:=aG1 r t;show (V.pair v (lst r t)).size=_;simp only [V.size,lsz,this];omega
theorem aL4 (big:Bool) (T:List (List UInt8)):∀n:Nat,(∀i v j,rdT big T n i=some (v,j)->i<j/\j<=T.length/\v.size+1<=2 * (j - i))/\(∀i acc v j,rdL big T n i acc=some (v,j)->i<j/\j<=T.length/\v.size+1<=lsz acc+2 * (j - i))
 | 0=>⟨fun i v j h=>(by rw [rdT] at h;cases h),fun i acc v j h=>(by rw [rdL] at h;cases h)⟩
 | n + 1 => by
  obtain ⟨ih1,ih2⟩:=aL4 big T n;refine ⟨fun i v j h=>?_,fun i acc v j h=>?_⟩
  ·rw [rdT] at h
   cases hT:T[i]? with
   | none=>rw [hT] at h;cases h
   | some t =>
    have hi:=(e_.1 hT).1;rw [hT] at h;dsimp only at h;split at h
    ·cases h
    ·split at h
     ·have:=ih2 _ _ _ _ h
      simp only [lsz] at this;omega
     ·unfold atom at h
      split at h
      ·rename_i v' hv
       cases h;have h1:v.size=1:=by
        split at hv
        ·cases hv;rfl
        ·split at hv
         ·split at hv
          ·split at hv
           ·cases hv;rfl
           ·cases hv
          ·cases hv
         ·split at hv
          ·split at hv
           ·cases hv;rfl
           ·cases hv
          ·cases hv
       omega
      ·cases h
  ·rw [rdL] at h
   cases hT:T[i]? with
   | none=>rw [hT] at h;cases h
   | some t =>
    have hi:=(e_.1 hT).1;rw [hT] at h;dsimp only at h;split at h
    ·cases h
     rw [aG1];simp only [V.size];omega
    ·split at h
     ·split at h
      ·rename_i v1 j1 h1
       split at h
       ·rename_i hc
        cases h;have h2:=ih1 _ _ _ h1;have h3:=(e_.1 hc.2).1;rw [aG1];omega
       ·cases h
      ·cases h
     ·split at h
      ·rename_i v1 j1 h1
       have h2:=ih1 _ _ _ h1;have h3:=ih2 _ _ _ _ h;rw [bp9] at h3;simp only [lsz] at h3;omega
      ·cases h
def V.low:V->Bool
 | .sym s=>decide (s.length<=12)
 | .pair a b=>a.low && b.low
 | _=>true
theorem V.wt_low:∀v:V,v.low=true->wtL v.enc<=16 * v.size
 | .nil,_=>by simp [V.enc_nil,wtL,D.wt,wtR,V.size]
 | .var _,_=>by simp [V.enc_var,wtL,D.wt,wtR,V.size]
 | .num _,_=>by simp [V.enc_num,wtL,D.wt,wtR,V.size]
 | .sym s,h=>by
  simp only [V.low,decide_eq_true_eq] at h;simp only [V.enc_sym,wtL,D.wt,wtR,V.size];omega
 | .pair a b,h=>by
  simp only [V.low,a_] at h;have h1:=V.wt_low a h.1;have h2:=V.wt_low b h.2;simp only [V.enc_pair,wtL,D.wt,wtR,V.size,v_];omega
theorem bm0:∀a b:V,a.tm=b.tm->a=b
 | .nil,b,h=>by cases b<;>simp [V.tm] at h |-
 | .var _,b,h=>by cases b<;>simp [V.tm] at h |-;exact h
 | .sym _,b,h=>by cases b<;>simp [V.tm] at h |-;exact h
 | .num _,b,h=>by cases b<;>simp [V.tm] at h |-;exact h
 | .pair x y,b,h=>by
  cases b with
  | pair x' y' =>
   simp [V.tm] at h;rw [bm0 x x' h.1,bm0 y y' h.2]
  | _=>simp [V.tm] at h
theorem bm4 (v:V):Q5 v.tm=v.ok:=by
 by_cases h:v.ok=true
 ·rw [h];exact bI7 h
 ·rw [Bool.not_eq_true] at h
  rw [h];by_cases h2:Q5 v.tm=true
  ·obtain ⟨v',e,hv'⟩:=bm3 h2
   rw [bm0 _ _ e,hv'] at h;cases h
  ·simpa using h2
def rdO (big:Bool) (T:List (List UInt8)) (i:Nat):Option (V×Nat):=match rdT big T (2 * T.length+1) i with
 | some (v,j)=>if v.ok=true then some (v,j) else none
 | none=>none
theorem ah2:∀(n:Nat) (l:List UInt8),l.length<=n->∀t,t∈toks l->t≠[]/\t.length<=l.length
 | 0,l,h=>by
  obtain rfl:=u_ (by omega:l.length=0);rw [ah1];simp
 | n+1,[],h=>by rw [ah1];simp
 | n + 1,c :: r,h=>by
  intro t ht;rw [V7] at ht;simp only [c_] at h |-;have h4:=F6 bf3 r;have h5:=F6 aG0 r;split at ht
  ·have:=ah2 n r (by omega) t ht;exact ⟨this.1,by omega⟩
  ·split at ht
   ·have:=ah2 n _ (by omega) t ht;exact ⟨this.1,by omega⟩
   ·split at ht
    ·rcases b_.1 ht with rfl | ht
     ·simp
     ·have:=ah2 n r (by omega) t ht;exact ⟨this.1,by omega⟩
    ·rcases b_.1 ht with rfl | ht
     ·have:=(List.takeWhile_prefix (p:=aG0) (l:=r)).length_le
      simp;omega
     ·have:=ah2 n _ (by omega) t ht;exact ⟨this.1,by omega⟩
theorem bx7 {s:List UInt8} {T:List (List UInt8)} (h:aD9 s=some T):T.length<=20000/\∀t,t∈T->t≠[]/\t.length<=100000:=by
 unfold aD9 at h;split at h
 ·rename_i hc
  cases h;exact ⟨hc.2.2,fun t ht=>by have:=ah2 _ _ (k_ _) t ht;exact ⟨this.1,by omega⟩⟩
 ·cases h
theorem aQ2 {n:Int} (h0:-9223372036854775808<=n) (h1:n<=9223372036854775807):(dec n).length<=21:=Lib.itoa_length_le n (by omega) (by omega)
theorem aL9 {l T:List UInt8} (h:l=45 :: T) {n:Int} (hp:U3 l=some n):n<0/\T=Lib.decDigits n.natAbs:=by
 obtain ⟨e,h0,h1⟩:=O0 hp;by_cases hn:n<0
 ·rw [am5 hn,h] at e
  exact ⟨hn,(List.cons.inj e).2.symm⟩
 ·exfalso
  rw [aI0 (by omega),h] at e;obtain ⟨c,r,e1,e2,e3⟩:=K7 _ n.toNat (k_ _);rw [e1] at e;have:=(List.cons.inj e).1;rw [this] at e2;have h45:(45:UInt8).toNat=45:=rfl;omega
theorem aL8 {l:List UInt8} (h:∀T,l≠45 :: T) {n:Int} (hp:U3 l=some n):0<=n/\l=Lib.decDigits n.natAbs:=by
 obtain ⟨e,h0,h1⟩:=O0 hp;by_cases hn:n<0
 ·rw [am5 hn] at e
  exact absurd e.symm (h _)
 ·rw [aI0 (by omega)] at e
  refine ⟨by omega,?_⟩;rw [<-e];congr 1;omega
theorem aQ0:∀(k u:Nat),u<10 ^ (k+1)->1<=(Lib.decDigits u).length/\(Lib.decDigits u).length<=k+1
 | 0,u,h=>by
  rw [Lib.decDigits,dif_pos (by omega)];simp
 | k+1,u,h=>by
  rw [Lib.decDigits];split
  ·simp
  ·have:=aQ0 k (u / 10) (by rw [ad_] at h;omega)
   simp only [i_,c_,v_];omega
theorem bb4 {u:Nat} (h:u<=9223372036854775808):1<=(Lib.decDigits u).length/\(Lib.decDigits u).length<=19:=aQ0 18 u (by omega)
theorem bm6 {α:Type} {T:List α} {i:Nat} {c:α} (h:T[i]? = some c):T.take (i+1)=T.take i++[c]:=by
 rw [List.take_add_one,h];rfl
theorem bb5 {T:List UInt8} {u:Nat} (hT:T=Lib.decDigits u) {i:Nat} {c:UInt8} (hc:T[i]? = some c):48<=c.toNat/\c.toNat<=57/\bb6 (T.take (i+1))=bb6 (T.take i) * 10+(c.toNat - 48)/\bb6 (T.take (i+1))<=u:=by
 have h1:=bu2 u u (k_ _) c (by rw [<-hT];exact q_ hc);refine ⟨h1.1,h1.2,by rw [bm6 hc,aw3],?_⟩;have h2:=aQ1 (T.take (i+1)) (T.drop (i+1));rw [K_,hT,aH9 u u (k_ _),<-hT] at h2;exact h2
theorem aF7 {x:Int} (h:x<=0):x.tdiv 10=-((-x) / 10):=by
 obtain ⟨m,rfl⟩:∃m:Nat,x=-(m:Int):=⟨x.natAbs,by omega⟩;rw [Int.neg_tdiv,Y_ (by omega)];simp
structure Rdg (l T:List UInt8) (i:Nat) (acc:Int):Prop where
 lo:-9223372036854775808<=acc
 hi:acc<=0
 is:∀n,U3 l=some n->acc=-(bb6 (T.take i):Int)
theorem Rdg.bad {l T:List UInt8} {i:Nat} {acc:Int} (h:Rdg l T i acc) (hT:∀n,U3 l=some n->T=Lib.decDigits n.natAbs) {c:UInt8} (hc:T[i]? = some c)
  (hb:¬((0:Int)<=(c.toNat:Int) - 48/\(c.toNat:Int) - 48<=9)\/acc<(-9223372036854775808+((c.toNat:Int) - 48)).tdiv 10):U3 l=none:=by
 cases hp:U3 l with
 | none=>rfl
 | some n =>
  exfalso;obtain ⟨_,b0,b1⟩:=O0 hp;obtain ⟨h1,h2,h3,h4⟩:=bb5 (hT n hp) hc;have h5:=h.is n hp;rcases hb with hb | hb
  ·omega
  ·rw [aF7 (by omega)] at hb
   omega
theorem Rdg.next {l T:List UInt8} {i:Nat} {acc:Int} (h:Rdg l T i acc) (hT:∀n,U3 l=some n->T=Lib.decDigits n.natAbs) {c:UInt8} (hc:T[i]? = some c)
  (h0:(0:Int)<=(c.toNat:Int) - 48) (h9:(c.toNat:Int) - 48<=9) (hq:¬acc<(-9223372036854775808+((c.toNat:Int) - 48)).tdiv 10) :
  Rdg l T (i+1) (acc * 10 - ((c.toNat:Int) - 48)):=by
 have hlo:=h.lo;have hhi:=h.hi;rw [aF7 (by omega)] at hq;refine ⟨by omega,by omega,fun n hp=>?_⟩;obtain ⟨h1,h2,h3,h4⟩:=bb5 (hT n hp) hc;have h5:=h.is n hp;rw [h3,h5];omega
theorem Rdg.done {l T:List UInt8} {acc:Int} (h:Rdg l T T.length acc) (hT:∀n,U3 l=some n->T=Lib.decDigits n.natAbs):∀n,U3 l=some n->acc=-(n.natAbs:Int):=fun n hp=>by
 have h1:=h.is n hp;rw [List.take_length] at h1;have h2:=hT n hp;rw [h1];have h3:bb6 T=n.natAbs:=by rw [h2,aH9 _ _ (k_ _)]
 rw [h3]
@[go_sem] theorem bZ7:(([40]:List UInt8)=[41])=False:=by simp
@[go_sem] theorem bZ6:(([40]:List UInt8)=[46])=False:=by simp
@[go_sem] theorem bZ5:(([41]:List UInt8)=[46])=False:=by simp
@[go_sem] theorem bZ4:(([46]:List UInt8)=[41])=False:=by simp
namespace V
def wd:V->List UInt8
 | var n=>63 :: dec n
 | sym s=>s
 | num n=>dec n
 | _=>[]
end V
theorem bE4 (a:Int) (n:Nat) (hn:n<4294967296):0<=andI .i64 a n/\andI .i64 a n<=n:=by
 unfold andI;have h1:(BitVec.ofInt IntKind.i64.bits a &&& BitVec.ofInt IntKind.i64.bits (n:Int)).toNat<=n:=by
  rw [BitVec.toNat_and];refine y_ Nat.and_le_right ?_;rw [BitVec.toNat_ofInt];have:IntKind.i64.bits=64:=rfl;rw [this];omega
 rw [l6 (by omega) (by omega)];omega
theorem bH0 (a:Int):0<=andI .i64 a 255/\andI .i64 a 255<=255:=bE4 a 255 (by decide)
theorem aQ7 {x n:Int} (h0:0<=x) (hn:0<n):0<=x.tmod n/\x.tmod n<n:=by
 rw [X_ h0];exact ⟨Int.emod_nonneg _ (by omega),Int.emod_lt_of_pos _ hn⟩
def V.vbelow (n:Int):V->Bool
 | .var i=>decide (0<=i) && decide (i<n)
 | .pair a b=>a.vbelow n && b.vbelow n
 | _=>true
def drawn (m:Nat) (n:Int) (v:V):Prop:=v.fine=true/\v.size<=m/\v.vbelow n=true
def ay7 (s:Nat):Nat:=if s<=2 then 1 else 2 * s - 1
theorem bk0 {s:Nat} (h:2<s):1+ay7 (s / 2)+ay7 (s / 2)<=ay7 s:=by
 unfold ay7;split<;>split<;>omega
theorem bu1 (s:Nat):1<=ay7 s:=by unfold ay7;split<;>omega
theorem bj9 {m:Nat} {n:Int} {a b:V} {k:Nat} (ha:drawn m n a) (hb:drawn m n b) (h:1+m+m<=k):drawn k n (.pair a b):=by
 obtain ⟨a1,a2,a3⟩:=ha;obtain ⟨b1,b2,b3⟩:=hb;exact ⟨by simp only [V.fine,a1,b1,w_],by simp only [V.size];omega,by simp only [V.vbelow,a3,b3,w_]⟩
theorem ad2 {m k:Nat} {n:Int} {v:V} (h:drawn m n v) (hk:m<=k):drawn k n v:=⟨h.1,y_ h.2.1 hk,h.2.2⟩
theorem aP8 {k:Nat} {n i:Int} (h0:0<=i) (h1:i<n) (hn:n<=100) (hk:1<=k):drawn k n (.var i):=by
 refine ⟨?_,hk,?_⟩
 ·simp [V.fine];omega
 ·simp [V.vbelow];omega
theorem bu0 {k:Nat} {n:Int} (hk:1<=k):drawn k n .nil:=⟨rfl,hk,rfl⟩
theorem aP9 {k:Nat} {n i:Int} (h0:0<=i) (h1:i<=255) (hk:1<=k):drawn k n (.num i):=by
 refine ⟨?_,hk,rfl⟩;simp [V.fine];omega
theorem bD1 {m:Nat} {n:Int} {v:V} (h:drawn m n v) (hm:m<=200):v.ok=true:=by
 unfold V.ok;simp only [h.1,p_,decide_eq_true_eq];have:=h.2.1;omega
theorem V.fineLow:∀v:V,v.fine=true->v.low=true
 | .nil,_=>rfl
 | .var _,_=>rfl
 | .num _,_=>rfl
 | .sym s,h=>by simp [V.low,(ac8 h).2]
 | .pair a b,h=>by
  simp only [V.fine,a_] at h;simp only [V.low,a_];exact ⟨V.fineLow a h.1,V.fineLow b h.2⟩
theorem bT1 {v:V} (h:v.ok=true):wtL v.enc<=80000:=by
 unfold V.ok at h;simp only [a_,decide_eq_true_eq] at h;have:=V.wt_low v (V.fineLow v h.1);omega
theorem bK4:∀(l:List V),l.all V.ok=true->wtR (l.map V.enc)<=80001 * l.length
 | [],_=>by simp [wtR]
 | v :: r,h=>by
  simp only [s_,a_] at h;have h1:=bT1 h.1;have h2:=bK4 r h.2;simp only [h_,wtR,c_];omega
def aK4 (p:Nat->Bool) (n:Nat):Nat:=(List.range n).findIdx p
theorem bJ3 {p:Nat->Bool} {n k:Nat} (hk:k<=n) (h1:∀i,i<k->p i=false) (h2:k<n->p k=true):aK4 p n=k:=by
 unfold aK4;rcases F_ k n with h | h
 ·rw [List.findIdx_eq (by simpa using h)]
  simp only [List.getElem_range];exact ⟨h2 h,h1⟩
 ·obtain rfl:k=n:=by omega
  have:=List.findIdx_eq_length_of_false (p:=p) (xs:=List.range k) (fun x hx=>h1 x (List.mem_range.1 hx));simpa using this
def bound (s:List Bd) (v:Int):Bool:=s.any (fun b=>b.var == v)
theorem ah4 {p:Nat->Bool} {n:Nat}:aK4 p n<=n/\(∀i,i<aK4 p n->p i=false)/\(aK4 p n<n->p (aK4 p n)=true):=by
 unfold aK4;have hl:(List.range n).findIdx p<=(List.range n).length:=List.findIdx_le_length;rw [List.length_range] at hl;refine ⟨hl,fun i hi=>?_,fun h=>?_⟩
 ·have:=List.not_of_lt_findIdx hi
  simpa using this
 ·have:=List.findIdx_getElem (w:=by simpa using h) (p:=p) (xs:=List.range n)
  simpa using this
structure Lin {α:Type} (c:α->α->Int):Prop where
 zero:∀a b,c a b=0↔a=b
 neg:∀a b,c a b<0↔0<c b a
 tr:∀a b d,c a b<0->c b d<0->c a d<0
theorem aw8:∀a b:List UInt8,Op.bytesLess a b=true->Op.bytesLess b a=false
 | _,[],h=>by simp [Op.bytesLess] at h
 | [],_ :: _,_=>rfl
 | a :: r,b :: q,h=>by
  simp only [Op.bytesLess,U_,decide_eq_true_eq,a_,beq_iff_eq,N_,decide_eq_false_iff_not,af_] at h |-;rcases h with h | ⟨h,h2⟩
  ·exact ⟨fun h'=>by rw [UInt8.lt_iff_toNat_lt] at h h';omega,fun e=>by subst e;exact absurd h (by rw [UInt8.lt_iff_toNat_lt];omega)⟩
  ·subst h
   exact ⟨by rw [UInt8.lt_iff_toNat_lt];omega,fun _=>aw8 r q h2⟩
theorem bu9:∀a b:List UInt8,a≠b->Op.bytesLess a b=false->Op.bytesLess b a=true
 | [],[],h,_=>absurd rfl h
 | _ :: _,[],_,_=>rfl
 | [],_ :: _,_,h=>by simp [Op.bytesLess] at h
 | a :: r,b :: q,h,h2=>by
  simp only [Op.bytesLess,U_,decide_eq_true_eq,a_,beq_iff_eq,N_,decide_eq_false_iff_not,af_] at h2 |-;by_cases e:a=b
  ·subst e
   exact .inr ⟨rfl,bu9 r q (fun e=>h (by rw [e])) (h2.2 rfl)⟩
  ·left
   have h1:=h2.1;rw [UInt8.lt_iff_toNat_lt] at h1 |-;have:a.toNat≠b.toNat:=fun e'=>e (UInt8.toNat_inj.1 e');omega
theorem bO0:∀a b c:List UInt8,Op.bytesLess a b=true->Op.bytesLess b c=true->Op.bytesLess a c=true
 | _,[],_,h,_=>by simp [Op.bytesLess] at h
 | _,_ :: _,[],_,h=>by simp [Op.bytesLess] at h
 | [],_ :: _,_ :: _,_,_=>rfl
 | a :: r,b :: q,c :: s,h1,h2=>by
  simp only [Op.bytesLess,U_,decide_eq_true_eq,a_,beq_iff_eq] at h1 h2 |-;rcases h1 with h1 | ⟨e1,h1⟩<;>rcases h2 with h2 | ⟨e2,h2⟩
  ·left;rw [UInt8.lt_iff_toNat_lt] at h1 h2 |-;omega
  ·subst e2;exact .inl h1
  ·subst e1;exact .inl h2
  ·subst e1;subst e2;exact .inr ⟨rfl,bO0 r q s h1 h2⟩
def V.k3 (a b:V):Int:=if a.kind≠b.kind then (if a.kind<b.kind then -1 else 1) else if a.int≠b.int then (if a.int<b.int then -1 else 1) else if a.name≠b.name then (if Op.bytesLess a.name b.name then -1 else 1) else 0
def V.r3:V->V->Int
 | .pair a1 a2,.pair b1 b2=>if V.cmp a1 b1≠0 then V.cmp a1 b1 else V.cmp a2 b2
 | _,_=>0
theorem V.cmp_k3 (a b:V):V.cmp a b=if V.k3 a b≠0 then V.k3 a b else V.r3 a b:=by
 rw [V.cmp.eq_def];unfold V.k3 V.r3;by_cases h1:a.kind=b.kind
 ·by_cases h2:a.int=b.int
  ·by_cases h3:a.name=b.name
   ·simp only [h1,h2,h3,ne_eq,not_true,if_false,reduceIte]
    all_goals rfl
   ·simp only [h1,h2,h3,ne_eq,not_true,not_false_eq_true,if_false,if_true,reduceIte]
    split<;>simp
  ·simp only [h1,h2,ne_eq,not_true,not_false_eq_true,if_false,if_true,reduceIte]
   split<;>simp
 ·simp only [h1,ne_eq,not_false_eq_true,if_true,reduceIte]
  split<;>simp
theorem V.k3_zero (a b:V):V.k3 a b=0↔a.kind=b.kind/\a.int=b.int/\a.name=b.name:=by
 unfold V.k3;by_cases h1:a.kind=b.kind
 ·by_cases h2:a.int=b.int
  ·by_cases h3:a.name=b.name
   ·simp [h1,h2,h3]
   ·simp only [h1,h2,h3,ne_eq,not_true,not_false_eq_true,if_false,if_true,reduceIte]
    split<;>simp
  ·simp only [h1,h2,ne_eq,not_true,not_false_eq_true,if_false,if_true,reduceIte]
   split<;>simp
 ·simp only [h1,ne_eq,not_false_eq_true,if_true,reduceIte]
  split<;>simp
theorem V.k3_neg (a b:V):V.k3 a b<0↔a.kind<b.kind\/(a.kind=b.kind/\(a.int<b.int\/(a.int=b.int/\a.name≠b.name/\Op.bytesLess a.name b.name=true))):=by
 unfold V.k3;repeat' split
 all_goals simp_all
 all_goals omega
theorem V.k3_pos (a b:V):0<V.k3 a b↔b.kind<a.kind\/(a.kind=b.kind/\(b.int<a.int\/(a.int=b.int/\a.name≠b.name/\Op.bytesLess a.name b.name=false))):=by
 unfold V.k3;repeat' split
 all_goals simp_all
 all_goals omega
theorem V.k3_lin (a b:V):V.k3 a b<0↔0<V.k3 b a:=by
 rw [V.k3_neg,V.k3_pos];constructor
 ·rintro (h | ⟨h1,h | ⟨h2,h3,h4⟩⟩)
  ·exact .inl h
  ·exact .inr ⟨h1.symm,.inl h⟩
  ·exact .inr ⟨h1.symm,.inr ⟨h2.symm,fun e=>h3 e.symm,aw8 _ _ h4⟩⟩
 ·rintro (h | ⟨h1,h | ⟨h2,h3,h4⟩⟩)
  ·exact .inl h
  ·exact .inr ⟨h1.symm,.inl h⟩
  ·exact .inr ⟨h1.symm,.inr ⟨h2.symm,fun e=>h3 e.symm,bu9 _ _ h3 h4⟩⟩
theorem V.k3_tr (a b d:V) (h1:V.k3 a b<0) (h2:V.k3 b d<0):V.k3 a d<0:=by
 rw [V.k3_neg] at h1 h2 |-;rcases h1 with h1 | ⟨e1,h1 | ⟨f1,g1,h1⟩⟩<;>rcases h2 with h2 | ⟨e2,h2 | ⟨f2,g2,h2⟩⟩
 all_goals first
  | (left;omega)
  | (right;refine ⟨by omega,?_⟩;left;omega)
  | skip
 refine .inr ⟨by omega,.inr ⟨by omega,fun e=>?_,bO0 _ _ _ h1 h2⟩⟩;rw [<-e] at h2;rw [aw8 _ _ h1] at h2;cases h2
theorem V.k3_eq {a b:V} (h:V.k3 a b=0) (d:V):V.k3 a d=V.k3 b d/\V.k3 d a=V.k3 d b:=by
 obtain ⟨h1,h2,h3⟩:=(V.k3_zero a b).1 h;unfold V.k3;rw [h1,h2,h3];exact ⟨rfl,rfl⟩
theorem V.cmp_zero:∀a b:V,V.cmp a b=0↔a=b:=by
 intro a;induction a with
 | pair a1 a2 ih1 ih2 =>
  intro b;rw [V.cmp_k3];by_cases hk:V.k3 (.pair a1 a2) b=0
  ·rw [if_neg (by simpa using hk)]
   obtain ⟨h1,_,_⟩:=(V.k3_zero _ _).1 hk;cases b with
   | pair b1 b2 =>
    simp only [V.r3];by_cases h:V.cmp a1 b1=0
    ·rw [if_neg (by simpa using h),ih2 b2]
     have:=(ih1 b1).1 h;subst this;simp
    ·rw [if_pos h]
     have:¬a1=b1:=fun e=>h ((ih1 b1).2 e);simp [h,this]
   | _=>simp [V.kind] at h1
  ·rw [if_pos hk]
   refine ⟨fun h=>absurd h hk,fun e=>?_⟩;subst e;exact absurd ((V.k3_zero _ _).2 ⟨rfl,rfl,rfl⟩) hk
 | _ =>
  intro b;rw [V.cmp_k3];split
  ·rename_i hk
   refine ⟨fun h=>absurd h hk,fun e=>?_⟩;subst e;exact absurd ((V.k3_zero _ _).2 ⟨rfl,rfl,rfl⟩) hk
  ·rename_i hk
   have hk:=(V.k3_zero _ _).1 (Decidable.not_not.1 hk);cases b<;>simp_all [V.kind,V.int,V.name,V.r3]
theorem V.cmp_neg:∀a b:V,V.cmp a b<0↔0<V.cmp b a:=by
 intro a;induction a with
 | pair a1 a2 ih1 ih2 =>
  intro b;rw [V.cmp_k3,V.cmp_k3 b];have hl:=V.k3_lin (.pair a1 a2) b;have hl2:=V.k3_lin b (.pair a1 a2);by_cases hk:V.k3 (.pair a1 a2) b=0
  ·have hk2:V.k3 b (.pair a1 a2)=0:=by omega
   rw [if_neg (by simpa using hk),if_neg (by simpa using hk2)];obtain ⟨h1,_,_⟩:=(V.k3_zero _ _).1 hk;cases b with
   | pair b1 b2 =>
    simp only [V.r3];have i1:=ih1 b1;have i2:=ih2 b2;by_cases h:V.cmp a1 b1=0
    ·have e:=(V.cmp_zero _ _).1 h
     subst e;rw [if_neg (by simpa using h),if_neg (by simpa using h)];exact i2
    ·have h':V.cmp b1 a1≠0:=fun e=>h ((V.cmp_zero _ _).2 ((V.cmp_zero _ _).1 e).symm)
     rw [if_pos h,if_pos h'];exact i1
   | _=>simp [V.kind] at h1
  ·have hk2:V.k3 b (.pair a1 a2)≠0:=by omega
   rw [if_pos hk,if_pos hk2];exact hl
 | _ =>
  intro b;rw [V.cmp_k3,V.cmp_k3 b]
  first
   | (have hl:=V.k3_lin V.nil b;have hl2:=V.k3_lin b V.nil)
   | skip
  split
  ·rename_i hk
   rw [if_pos (by have h1:=(V.k3_lin b);intro e;have:=(V.k3_zero _ _).1 e;exact hk ((V.k3_zero _ _).2 ⟨this.1.symm,this.2.1.symm,this.2.2.symm⟩))];exact V.k3_lin _ _
  ·rename_i hk
   have hk:=(V.k3_zero _ _).1 (Decidable.not_not.1 hk);rw [if_neg (by have:=(V.k3_zero b _).2 ⟨hk.1.symm,hk.2.1.symm,hk.2.2.symm⟩;simpa using this)];cases b<;>simp_all [V.kind,V.int,V.name,V.r3]
theorem V.cmp_tr:∀a b d:V,V.cmp a b<0->V.cmp b d<0->V.cmp a d<0:=by
 intro a;induction a with
 | pair a1 a2 ih1 ih2 =>
  intro b d h1 h2;rw [V.cmp_k3] at h1 h2 |-;by_cases k1:V.k3 (.pair a1 a2) b=0
  ·rw [if_neg (by simpa using k1)] at h1
   rw [(V.k3_eq k1 d).1];by_cases k2:V.k3 b d=0
   ·rw [if_neg (by simpa using k2)] at h2 |-
    obtain ⟨e1,_,_⟩:=(V.k3_zero _ _).1 k1;obtain ⟨e2,_,_⟩:=(V.k3_zero _ _).1 k2;cases b with
    | pair b1 b2 =>
     cases d with
     | pair d1 d2 =>
      simp only [V.r3] at h1 h2 |-;by_cases c1:V.cmp a1 b1=0
      ·have:=(V.cmp_zero _ _).1 c1
       subst this;rw [if_neg (by simpa using c1)] at h1;by_cases c2:V.cmp a1 d1=0
       ·rw [if_neg (by simpa using c2)] at h2 |-
        exact ih2 _ _ h1 h2
       ·rw [if_pos c2] at h2 |-;exact h2
      ·rw [if_pos c1] at h1
       by_cases c2:V.cmp b1 d1=0
       ·have:=(V.cmp_zero _ _).1 c2
        subst this;rw [if_pos c1];exact h1
       ·rw [if_pos c2] at h2
        have h3:=ih1 _ _ h1 h2;rw [if_pos (by omega)];exact h3
     | _=>simp [V.kind] at e2
    | _=>simp [V.kind] at e1
   ·rw [if_pos k2] at h2 |-;exact h2
  ·rw [if_pos k1] at h1
   by_cases k2:V.k3 b d=0
   ·rw [<-(V.k3_eq k2 (.pair a1 a2)).2,if_pos k1];exact h1
   ·rw [if_pos k2] at h2
    have h3:=V.k3_tr _ _ _ h1 h2;rw [if_pos (by omega)];exact h3
 | _ =>
  intro b d h1 h2;rw [V.cmp_k3] at h1 h2 |-;split at h1
  ·rename_i k1
   split at h2
   ·rename_i k2
    have h3:=V.k3_tr _ _ _ h1 h2;rw [if_pos (by omega)];exact h3
   ·rename_i k2
    have k2:=Decidable.not_not.1 k2;rw [<-(V.k3_eq k2 _).2,if_pos k1];exact h1
  ·rename_i k1
   have hk:=(V.k3_zero _ _).1 (Decidable.not_not.1 k1);cases b<;>simp_all [V.kind,V.int,V.name,V.r3]
theorem V.cmp_lin:Lin V.cmp:=⟨V.cmp_zero,V.cmp_neg,V.cmp_tr⟩
theorem V.cmpL_lin:Lin V.cmpL:=by
 have z:∀a b:List V,V.cmpL a b=0↔a=b:=by
  intro a;induction a with
  | nil =>
   intro b;rw [V.cmpL_nil_left];unfold F8;cases b with
   | nil=>simp
   | cons x r=>simp
  | cons x r ih =>
   intro b;cases b with
   | nil=>rw [V.cmpL_nil_right];unfold F8;simp;split<;>omega
   | cons y q =>
    rw [V.cmpL_cons];by_cases h:V.cmp x y=0
    ·have:=(V.cmp_zero _ _).1 h
     subst this;rw [if_neg (by simpa using h),ih q];simp
    ·rw [if_pos h]
     have:¬x=y:=fun e=>h ((V.cmp_zero _ _).2 e);simp [h,this]
 refine ⟨z,?_,?_⟩
 ·intro a
  induction a with
  | nil =>
   intro b;rw [V.cmpL_nil_left,V.cmpL_nil_right];unfold F8;repeat' split
   all_goals omega
  | cons x r ih =>
   intro b;cases b with
   | nil =>
    rw [V.cmpL_nil_left,V.cmpL_nil_right];unfold F8;repeat' split
    all_goals omega
   | cons y q =>
    rw [V.cmpL_cons,V.cmpL_cons];by_cases h:V.cmp x y=0
    ·have:=(V.cmp_zero _ _).1 h
     subst this;rw [if_neg (by simpa using h),if_neg (by simpa using h)];exact ih q
    ·have h':V.cmp y x≠0:=fun e=>h ((V.cmp_zero _ _).2 ((V.cmp_zero _ _).1 e).symm)
     rw [if_pos h,if_pos h'];exact V.cmp_neg x y
 ·intro a
  induction a with
  | nil =>
   intro b d h1 h2;rw [V.cmpL_nil_left] at h1 |-;cases d with
   | nil =>
    rw [V.cmpL_nil_right] at h2;unfold F8 at h1 h2;exfalso;revert h1 h2
    repeat' split
    all_goals omega
   | cons=>unfold F8;rw [if_pos (by simp)];omega
  | cons x r ih =>
   intro b d h1 h2;cases b with
   | nil =>
    rw [V.cmpL_nil_right] at h1;exfalso;revert h1;unfold F8;repeat' split
    all_goals simp_all
    all_goals omega
   | cons y q =>
    cases d with
    | nil =>
     rw [V.cmpL_nil_right] at h2;exfalso;revert h2;unfold F8;repeat' split
     all_goals simp_all
     all_goals omega
    | cons w s =>
     rw [V.cmpL_cons] at h1 h2 |-;by_cases c1:V.cmp x y=0
     ·have:=(V.cmp_zero _ _).1 c1
      subst this;rw [if_neg (by simpa using c1)] at h1;by_cases c2:V.cmp x w=0
      ·rw [if_neg (by simpa using c2)] at h2 |-
       exact ih _ _ h1 h2
      ·rw [if_pos c2] at h2 |-;exact h2
     ·rw [if_pos c1] at h1
      by_cases c2:V.cmp y w=0
      ·have:=(V.cmp_zero _ _).1 c2
       subst this;rw [if_pos c1];exact h1
      ·rw [if_pos c2] at h2
       have h3:=V.cmp_tr _ _ _ h1 h2;rw [if_pos (by omega)];exact h3
def FcV.cmp (a b:FcV):Int:=I6 a.1 a.2 b.1 b.2
theorem FcV.cmp_lin:Lin FcV.cmp:=by
 have hL:=V.cmpL_lin;refine ⟨fun a b=>?_,fun a b=>?_,fun a b d h1 h2=>?_⟩
 ·obtain ⟨r,l⟩:=a
  obtain ⟨q,m⟩:=b;unfold FcV.cmp I6;by_cases h:r=q
  ·subst h
   simp [hL.zero]
  ·rw [if_pos h]
   simp only [Prod.mk.injEq,h,false_and,iff_false];split<;>omega
 ·obtain ⟨r,l⟩:=a
  obtain ⟨q,m⟩:=b;unfold FcV.cmp I6;by_cases h:r=q
  ·subst h
   simp only [ne_eq,not_true,if_false,reduceIte];exact hL.neg l m
  ·rw [if_pos h,if_pos (fun e=>h e.symm)]
   dsimp only;cases hb:Op.bytesLess r q with
   | true=>rw [aw8 _ _ hb];simp
   | false=>rw [bu9 _ _ h hb];simp
 ·obtain ⟨r,l⟩:=a
  obtain ⟨q,m⟩:=b;obtain ⟨s,k⟩:=d;unfold FcV.cmp I6 at *;by_cases e1:r=q
  ·subst e1
   by_cases e2:r=s
   ·subst e2
    simp only [ne_eq,not_true,if_false,reduceIte] at *;exact hL.tr _ _ _ h1 h2
   ·rw [if_pos e2] at h2 |-;exact h2
  ·rw [if_pos e1] at h1
   by_cases e2:q=s
   ·subst e2;rw [if_pos e1];exact h1
   ·rw [if_pos e2] at h2
    have b1:Op.bytesLess r q=true:=by
     cases hb:Op.bytesLess r q with
     | true=>rfl
     | false=>rw [hb] at h1;simp at h1
    have b2:Op.bytesLess q s=true:=by
     cases hb:Op.bytesLess q s with
     | true=>rfl
     | false=>rw [hb] at h2;simp at h2
    have b3:=bO0 _ _ _ b1 b2;have e3:r≠s:=fun e=>by subst e;rw [aw8 _ _ b1] at b2;cases b2
    rw [if_pos e3,b3];simp
section
variable {α:Type} {c:α->α->Int}
theorem Lin.irr (h:Lin c) (a:α):c a a=0:=(h.zero a a).2 rfl
theorem Lin.pos (h:Lin c) {a b:α}:0<c a b↔c b a<0:=(h.neg b a).symm
theorem Lin.wk (h:Lin c):Wk (fun a b=>decide (c a b<0)):=by
 refine ⟨fun a b hab=>?_,fun a b d h1 h2=>?_⟩
 ·simp only [decide_eq_true_eq,decide_eq_false_iff_not] at hab |-
  have:=(h.neg a b).1 hab;omega
 ·simp only [decide_eq_false_iff_not] at h1 h2 |-
  intro h3;by_cases e:c b a=0
  ·have:=(h.zero _ _).1 e;subst this;exact h2 h3
  ·by_cases e2:c d b=0
   ·have:=(h.zero _ _).1 e2;subst this;exact h1 h3
   ·have k1:c a b<0:=(h.neg a b).2 (by omega)
    have k2:c b d<0:=(h.neg b d).2 (by omega);have k3:=h.tr _ _ _ k1 k2;have:=(h.neg a d).1 k3;omega
def ak1 (c:α->α->Int) (l:List α):Prop:=l.Pairwise fun a b=>c a b<0
def ae0 (c:α->α->Int):List α->α->List α
 | [],x=>[x]
 | y :: r,x=>if c y x<0 then y :: ae0 c r x else if c y x=0 then y :: r else x :: y :: r
def al2 (c:α->α->Int) (l:List α):List α:=l.foldl (ae0 c) []
theorem aj2 (h:Lin c):∀(l:List α) (x z:α),z∈ae0 c l x↔z=x\/z∈l
 | [],x,z=>by simp [ae0]
 | y :: r,x,z=>by
  unfold ae0;split
  ·simp only [b_,aj2 h r x z]
   constructor
   ·rintro (h | h | h)<;>simp [h]
   ·rintro (h | h | h)<;>simp [h]
  ·split
   ·rename_i e
    have:=(h.zero _ _).1 e;subst this;simp
   ·simp
theorem aG8 (h:Lin c):∀(l:List α) (x:α),ak1 c l->ak1 c (ae0 c l x)
 | [],x,_=>List.pairwise_singleton _ _
 | y :: r,x,ha=>by
  unfold ak1 at ha |-;rw [f_] at ha;unfold ae0;split
  ·rename_i hy
   rw [f_];refine ⟨fun z hz=>?_,aG8 h r x ha.2⟩;rcases (aj2 h r x z).1 hz with rfl | hz
   ·exact hy
   ·exact ha.1 z hz
  ·split
   ·exact f_.2 ha
   ·rename_i h1 h2
    have hxy:c x y<0:=(h.neg x y).2 (by omega);rw [f_];refine ⟨fun z hz=>?_,f_.2 ha⟩;rcases b_.1 hz with rfl | hz
    ·exact hxy
    ·exact h.tr _ _ _ hxy (ha.1 z hz)
theorem am4 (h:Lin c):∀(l acc:List α),ak1 c acc->ak1 c (l.foldl (ae0 c) acc)/\∀z,z∈l.foldl (ae0 c) acc↔z∈acc\/z∈l
 | [],acc,ha=>⟨ha,fun z=>by simp⟩
 | x :: r,acc,ha=>by
  obtain ⟨h1,h2⟩:=am4 h r (ae0 c acc x) (aG8 h acc x ha);refine ⟨h1,fun z=>?_⟩;rw [t_,h2,aj2 h];simp only [b_];constructor
  ·rintro ((h | h) | h)<;>simp [h]
  ·rintro (h | h | h)<;>simp [h]
theorem ah6 (h:Lin c) (l:List α):ak1 c (al2 c l):=(am4 h l [] List.Pairwise.nil).1
theorem ar5 (h:Lin c) (l:List α) (z:α):z∈al2 c l↔z∈l:=by
 have:=(am4 h l [] List.Pairwise.nil).2 z;unfold al2;simpa using this
theorem bc5 (h:Lin c):∀(l m:List α),ak1 c l->ak1 c m->(∀z,z∈l↔z∈m)->l=m
 | [],[],_,_,_=>rfl
 | [],y :: q,_,_,he=>by have:=(he y).2 (by simp);simp at this
 | x :: r,[],_,_,he=>by have:=(he x).1 (by simp);simp at this
 | x :: r,y :: q,hl,hm,he=>by
  unfold ak1 at hl hm;rw [f_] at hl hm;have hxy:x=y:=by
   rcases b_.1 ((he x).1 (by simp)) with e | e
   ·exact e
   ·rcases b_.1 ((he y).2 (by simp)) with e' | e'
    ·exact e'.symm
    ·have h1:=hm.1 x e
     have h2:=hl.1 y e';have:=(h.neg x y).1 h2;omega
  subst hxy;congr 1;refine bc5 h r q hl.2 hm.2 (fun z=>⟨fun hz=>?_,fun hz=>?_⟩)
  ·rcases b_.1 ((he z).1 (by simp [hz])) with e | e
   ·subst e;have:=hl.1 z hz;rw [h.irr] at this;omega
   ·exact e
  ·rcases b_.1 ((he z).2 (by simp [hz])) with e | e
   ·subst e;have:=hm.1 z hz;rw [h.irr] at this;omega
   ·exact e
def ddC (c:α->α->Int):Option α->List α->List α
 | _,[]=>[]
 | none,x :: r=>x :: ddC c (some x) r
 | some y,x :: r=>if c y x=0 then ddC c (some x) r else x :: ddC c (some x) r
theorem aI1 (h:Lin c):∀(l:List α) (y:α),l.Pairwise (fun a b=>¬c b a<0)->(∀z,z∈l->¬c z y<0)->ak1 c (ddC c (some y) l)/\(∀z,z∈ddC c (some y) l->c y z<0)/\∀z,z∈ddC c (some y) l\/z=y↔z∈l\/z=y
 | [],y,_,_=>⟨List.Pairwise.nil,fun z hz=>by simp [ddC] at hz,fun z=>by simp [ddC]⟩
 | x :: r,y,hp,hy=>by
  rw [f_] at hp;have hyx:=hy x (by simp);obtain ⟨i1,i2,i3⟩:=aI1 h r x hp.2 hp.1;unfold ddC;split
  ·rename_i e
   have:=(h.zero _ _).1 e;subst this;refine ⟨i1,i2,fun z=>?_⟩;rw [i3 z];simp only [b_];constructor
   ·rintro (h | h)<;>simp [h]
   ·rintro ((h | h) | h)<;>simp [h]
  ·rename_i e
   have hlt:c y x<0:=by
    have:=(h.neg x y);have:=(h.pos (a:=y) (b:=x));omega
   refine ⟨f_.2 ⟨i2,i1⟩,fun z hz=>?_,fun z=>?_⟩
   ·rcases b_.1 hz with rfl | hz
    ·exact hlt
    ·exact h.tr _ _ _ hlt (i2 z hz)
   ·have:=i3 z
    simp only [b_];constructor
    ·rintro ((e | e) | e)
     ·exact .inl (.inl e)
     ·rcases this.1 (.inl e) with e' | e'
      ·exact .inl (.inr e')
      ·exact .inl (.inl e')
     ·exact .inr e
    ·rintro ((e | e) | e)
     ·exact .inl (.inl e)
     ·rcases this.2 (.inl e) with e' | e'
      ·exact .inl (.inr e')
      ·exact .inl (.inl e')
     ·exact .inr e
theorem bD4 (h:Lin c) {l s:List α} (hm:∀z,z∈s↔z∈l) (hs:s.Pairwise (fun a b=>¬c b a<0)):ddC c none s=al2 c l:=by
 refine bc5 h _ _ ?_ (ah6 h l) (fun z=>?_)
 ·cases s with
  | nil=>exact List.Pairwise.nil
  | cons x r =>
   rw [f_] at hs;obtain ⟨i1,i2,_⟩:=aI1 h r x hs.2 hs.1;exact f_.2 ⟨i2,i1⟩
 ·rw [ar5 h,<-hm z]
  cases s with
  | nil=>simp [ddC]
  | cons x r =>
   rw [f_] at hs;obtain ⟨_,_,i3⟩:=aI1 h r x hs.2 hs.1;have:=i3 z;show z∈x :: ddC c (some x) r↔_;simp only [b_];constructor
   ·rintro (e | e)
    ·exact .inl e
    ·rcases this.1 (.inl e) with e' | e'
     ·exact .inr e'
     ·exact .inl e'
   ·rintro (e | e)
    ·exact .inl e
    ·rcases this.2 (.inl e) with e' | e'
     ·exact .inr e'
     ·exact .inl e'
theorem bD5 (l:List α) (p:Option α) (x:α):ddC c p (l++[x])=ddC c p l++(match (p.toList++l).getLast? with | some y=>if c y x=0 then [] else [x] | none=>[x]):=by
 induction l generalizing p with
 | nil=>cases p with
  | none=>rfl
  | some y=>simp only [T_,ddC,Option.toList_some,H_,List.getLast?_singleton]
 | cons y r ih =>
  have hl:((some y).toList++r).getLast? = (p.toList++y :: r).getLast?:=by
   cases p with
   | none=>rfl
   | some w=>exact (List.getLast?_cons_cons ..).symm
  cases p with
  | none =>
   simp only [o_,ddC];rw [ih (some y),hl];try simp
  | some w =>
   simp only [o_,ddC];split
   ·rw [ih (some y),hl]
   ·rw [ih (some y),hl]
    rfl
def geC (c:α->α->Int) (l:List α) (f:α) (i:Nat):Bool:=match l[i]? with | some x=>decide (0<=c x f) | none=>false
theorem aI6 {l:List α} (ha:ak1 c l) {i j:Nat} {a b:α} (hij:i<j) (h1:l[i]? = some a) (h2:l[j]? = some b):c a b<0:=by
 obtain ⟨k1,rfl⟩:=e_.1 h1;obtain ⟨k2,rfl⟩:=e_.1 h2;exact z_.1 ha i j k1 k2 hij
theorem bC0 (h:Lin c) {l:List α} (ha:ak1 c l) (f:α):∀i j,i<=j->j<l.length->geC c l f i=true->geC c l f j=true:=by
 intro i j hij hj hi;unfold geC at hi |-;have hbj:l[j]? = some l[j]:=j_ hj;have hbi:l[i]? = some (l[i]'(by omega)):=j_ (by omega);rw [hbi] at hi;rw [hbj];simp only [decide_eq_true_eq] at hi |-;rcases F_ i j with k | k
 ·have h1:=aI6 ha k hbi hbj
  rcases Int.lt_or_le (c l[j] f) 0 with h2 | h2
  ·have:=h.tr _ _ _ h1 h2;omega
  ·exact h2
 ·obtain rfl:i=j:=by omega
  exact hi
theorem by4 (h:Lin c) {l:List α} (ha:ak1 c l) (f:α):(match l[aK4 (geC c l f) l.length]? with | some x=>c x f=0 | none=>False)↔f∈l:=by
 obtain ⟨k1,k2,k3⟩:=ah4 (p:=geC c l f) (n:=l.length);generalize aK4 (geC c l f) l.length=k at k1 k2 k3;constructor
 ·intro hh
  split at hh
  ·rename_i x hx
   rw [<-(h.zero _ _).1 hh];exact q_ hx
  ·exact hh.elim
 ·intro hf
  obtain ⟨j,hj⟩:=G_ hf;have hjl:=(e_.1 hj).1;have hgj:geC c l f j=true:=by unfold geC;rw [hj];simp [h.irr]
  have hkj:k<=j:=by
   rcases F_ j k with e | e
   ·rw [k2 j e] at hgj;cases hgj
   ·exact e
  have hkl:k<l.length:=by omega
  have hbk:l[k]? = some l[k]:=j_ hkl;have hgk:=k3 hkl;unfold geC at hgk;rw [hbk] at hgk |-;simp only [decide_eq_true_eq] at hgk;dsimp only;rcases F_ k j with e | e
  ·have:=aI6 ha e hbk hj;omega
  ·obtain rfl:k=j:=by omega
   rw [hj] at hbk;cases hbk;exact h.irr _
def ae2 (c:α->α->Int) (l:List α) (k:Nat) (x:α):Bool:=match l[k]? with | some y=>decide (c y x=0) | none=>false
theorem aU7 (h:Lin c):∀(l:List α) (x:α) (k:Nat),ak1 c l->k<=l.length->(∀i y,i<k->l[i]? = some y->c y x<0)->(∀i y,k<=i->l[i]? = some y->¬c y x<0) ->
  ae0 c l x=if ae2 c l k x then l else l.take k++x :: l.drop k
 | [],x,k,_,hk,_,_=>by
  have:k=0:=by simpa using hk
  subst this;simp [ae0,ae2]
 | y :: r,x,0,ha,hk,h1,h2=>by
  have:=h2 0 y (k_ _) rfl;unfold ae0;rw [if_neg this];simp [ae2]
 | y :: r,x,k+1,ha,hk,h1,h2=>by
  have hy:=h1 0 y (by omega) rfl;unfold ae0;rw [if_pos hy];unfold ak1 at ha;rw [f_] at ha;rw [aU7 h r x k ha.2 (by simpa using hk) (fun i z hi hz=>h1 (i+1) z (by omega) (by simpa using hz)) (fun i z hi hz=>h2 (i+1) z (by omega) (by simpa using hz))];have e:ae2 c (y :: r) (k+1) x=ae2 c r k x:=rfl;rw [e];cases ae2 c r k x<;>rfl
end
def ap0:Option V->List Tm->Bool
 | _,[]=>true
 | p,t :: r=>t.ground && (match p with | some q=>decide (q.cmp t.V<0) | none=>true) && ap0 (some t.V) r
def U7 (u:List Tm):Bool:=decide (1<=u.length) && decide (u.length<=8) && ap0 none u
theorem aX6:∀(u:List Tm) (p:Option V),ap0 p u=true->ak1 V.cmp (u.map Tm.V)/\(∀q,p=some q->∀t,t∈u->q.cmp t.V<0)/\u.all Tm.ground=true
 | [],_,_=>⟨List.Pairwise.nil,fun _ _ t ht=>by simp at ht,rfl⟩
 | t :: r,p,h=>by
  simp only [ap0,a_] at h;obtain ⟨i1,i2,i3⟩:=aX6 r _ h.2;refine ⟨f_.2 ⟨fun z hz=>?_,i1⟩,fun q hq x hx=>?_,by simp [h.1.1,i3]⟩
  ·obtain ⟨x,hx,rfl⟩:=g_.1 hz
   exact i2 _ rfl x hx
  ·subst hq
   have h0:=h.1.2;simp only [decide_eq_true_eq] at h0;rcases b_.1 hx with rfl | hx
   ·exact h0
   ·exact V.cmp_tr _ _ _ h0 (i2 _ rfl x hx)
structure Uni (u:List V):Prop where
 pos:1<=u.length
 le:u.length<=8
 ok:∀v,v∈u->v.ok=true
 gr:∀v,v∈u->v.vars=[]
 asc:ak1 V.cmp u
theorem Uni.of {u:List Tm} (h:U7 u=true):Uni (u.map Tm.V)/\u=(u.map Tm.V).map V.tm:=by
 unfold U7 at h;simp only [a_,decide_eq_true_eq] at h;obtain ⟨h1,_,h3⟩:=aX6 u none h.2;have hg:∀t,t∈u->t.ground=true:=d_.1 h3;refine ⟨⟨by simpa using h.1.1,by simpa using h.1.2,fun v hv=>?_,fun v hv=>?_,h1⟩,ab4 h3⟩
 ·obtain ⟨t,ht,rfl⟩:=g_.1 hv
  obtain ⟨v,e1,e2⟩:=bm3 (G5 (hg t ht));rw [e1];have:(V.tm v).V=v:=by
   unfold V.ok at e2;rw [a_] at e2;simp [Tm.V,V.v?_tm v e2.1]
  rw [this];exact e2
 ·obtain ⟨t,ht,rfl⟩:=g_.1 hv
  have hk:=G5 (hg t ht);have h4:=hg t ht;unfold Tm.ground at h4;simp only [a_,decide_eq_true_eq] at h4;rw [<-Tm.vars_V hk];exact h4.2
structure RV where
 head:FcV
 clause:Int
 values:List V
 pos:List FcV
 neg:List FcV
def RV.ru (r:RV):Ru:=⟨r.head.fc,r.clause,r.values.map V.tm,r.pos.map FcV.fc,r.neg.map FcV.fc⟩
def G6 (u:List V):Nat->Nat->List V
 | 0,_=>[]
 | n+1,k=>u.getD (k % u.length) .nil :: G6 u n (k / u.length)
theorem R4 (u:List V):∀n k,(G6 u n k).length=n
 | 0,_=>rfl
 | n+1,k=>by simp [G6,R4 u n]
theorem X7 {u:List V} (h:1<=u.length):∀n k v,v∈G6 u n k->v∈u
 | 0,_,_,hv=>by simp [G6] at hv
 | n+1,k,v,hv=>by
  rcases b_.1 hv with rfl | hv
  ·have hlt:k % u.length<u.length:=Nat.mod_lt _ (by omega)
   rw [I_,j_ hlt];exact List.getElem_mem _
  ·exact X7 h n _ v hv
def aH0 (u:List V) (f:FcV):Bool:=f.2.all fun t=>decide (t∈u)
def aL0 (r:Rl) (i:Int) (c:List Gl) (vs:List V):RV:=⟨(r.name,vs.take r.arity.toNat),i,vs,u7 (o6 vs) c,r9 (o6 vs) c⟩
theorem bJ6 (r:Rl) (i:Int) (c:List Gl) (vs:List V):(aL0 r i c vs).ru=bP9 r i vs c:=by
 unfold aL0 RV.ru bP9 FcV.fc;simp [List.map_take]
def Z4 (u:List V) (c:List Gl) (vs:List V):Bool:=q8 (o6 vs) c && (u7 (o6 vs) c).all (aH0 u) && (r9 (o6 vs) c).all (aH0 u)
def rvK (u:List V) (r:Rl) (i:Int) (c:List Gl) (k:Nat):Option RV:=
 if Z4 u c (G6 u (r.arity+r.locals).toNat k)=true then some (aL0 r i c (G6 u (r.arity+r.locals).toNat k)) else none
def aJ0 (u:List V) (r:Rl) (i:Int) (c:List Gl):Nat->Nat->List RV
 | _,0=>[]
 | k,m+1=>(rvK u r i c k).toList++aJ0 u r i c (k+1) m
def as1 (u:List V) (r:Rl) (n:Nat):Int->List (List Gl)->List RV
 | _,[]=>[]
 | i,c :: cs=>aJ0 u r i c 0 n++as1 u r n (i+1) cs
def Rl.ways (u:List V) (r:Rl):Nat:=u.length ^ (r.arity+r.locals).toNat
def Pg.gnd (u:List V):List Rl->List RV
 | []=>[]
 | r :: rs=>as1 u r (r.ways u) 0 r.body.clsS++Pg.gnd u rs
def Rl.gOk (u:List V) (r:Rl):Bool:=decide (r.body.clsS.length<=64) && decide (r.ways u<=4096)
def Pg.gr (p:Pg) (u:List V):Option (List RV):=if p.rels.all (Rl.gOk u)=true/\(Pg.gnd u p.rels).length<=2000 then some (Pg.gnd u p.rels) else none
def RV.fires (F G:List FcV) (r:RV):Bool:=r.pos.all (fun f=>decide (f∈F)) && r.neg.all fun f=>!decide (f∈G)
def R7 (rs:List RV) (F G:List FcV):List FcV:=al2 FcV.cmp ((rs.filter (RV.fires F G)).map RV.head)
theorem aa4 {rs:List RV} {F G:List FcV} {f:FcV}:f∈R7 rs F G↔∃r,r∈rs/\r.fires F G=true/\r.head=f:=by
 unfold R7;rw [ar5 FcV.cmp_lin,g_];constructor
 ·rintro ⟨r,h1,h2⟩
  rw [List.mem_filter] at h1;exact ⟨r,h1.1,h1.2,h2⟩
 ·rintro ⟨r,h1,h2,h3⟩
  exact ⟨r,List.mem_filter.2 ⟨h1,h2⟩,h3⟩
theorem bp5 (rs:List RV) (F G:List FcV):ak1 FcV.cmp (R7 rs F G):=ah6 FcV.cmp_lin _
theorem bp3 {rs:List RV} {F F':List FcV} (h:∀f,f∈F->f∈F'):∀f,f∈R7 rs F []->f∈R7 rs F' []:=fun f hf=>by
 rw [aa4] at hf |-;obtain ⟨r,h1,h2,h3⟩:=hf;refine ⟨r,h1,?_,h3⟩;unfold RV.fires at h2 |-;simp only [a_,d_,decide_eq_true_eq] at h2 |-;exact ⟨fun x hx=>h x (h2.1 x hx),h2.2⟩
theorem ar6 {α:Type} {c:α->α->Int} (l:List α):(al2 c l).length<=l.length:=by
 have ins:∀(l:List α) (x:α),(ae0 c l x).length<=l.length+1:=fun l x=>by
  induction l with
  | nil=>simp [ae0]
  | cons y r ih =>
   unfold ae0;split
   ·simp only [c_];omega
   ·split<;>simp
 have key:∀(l acc:List α),(l.foldl (ae0 c) acc).length<=acc.length+l.length:=fun l=>by
  induction l with
  | nil=>simp
  | cons x r ih =>
   intro acc;have h1:=ih (ae0 c acc x);have h2:=ins acc x;simp only [t_,c_];omega
 have:=key l [];simpa [al2] using this
theorem bp4 (rs:List RV) (F G:List FcV):(R7 rs F G).length<=rs.length:=by
 have h1:=ar6 (c:=FcV.cmp) ((rs.filter (RV.fires F G)).map RV.head);rw [n_] at h1;exact y_ h1 (M_ _ _)
theorem ak0 {α:Type} {c:α->α->Int} (h:Lin c):∀(l m:List α),ak1 c l->ak1 c m->(∀z,z∈l->z∈m)->l.length<=m.length/\(l.length=m.length->l=m)
 | [],m,_,_,_=>⟨by simp,fun e=>by cases m with | nil=>rfl | cons=>simp at e⟩
 | x :: r,[],_,_,hs=>by have:=hs x (by simp);simp at this
 | x :: r,y :: q,hl,hm,hs=>by
  have hl':=hl;have hm':=hm;unfold ak1 at hl' hm';rw [f_] at hl' hm';rcases b_.1 (hs x (by simp)) with e | e
  ·subst e
   obtain ⟨i1,i2⟩:=ak0 h r q hl'.2 hm'.2 (fun z hz=>by
    rcases b_.1 (hs z (by simp [hz])) with e | e
    ·subst e;have:=hl'.1 z hz;rw [h.irr] at this;omega
    ·exact e)
   exact ⟨by simp only [c_];omega,fun e=>by rw [i2 (by simpa using e)]⟩
  ·have h1:=hm'.1 x e
   obtain ⟨i1,i2⟩:=ak0 h (x :: r) q hl hm'.2 (fun z hz=>by
    rcases b_.1 (hs z hz) with e' | e'
    ·subst e'
     rcases b_.1 hz with e2 | e2
     ·subst e2;rw [h.irr] at h1;omega
     ·have h2:=hl'.1 z e2
      have:=h.tr _ _ _ h1 h2;rw [h.irr] at this;omega
    ·exact e')
   refine ⟨by simp only [c_] at i1 |-;omega,fun e'=>?_⟩;exfalso;simp only [c_] at i1 e';omega
def stg (rs:List RV):Nat->List FcV
 | 0=>[]
 | k+1=>R7 rs (stg rs k) []
theorem al0 (rs:List RV):∀k,ak1 FcV.cmp (stg rs k)
 | 0=>List.Pairwise.nil
 | k+1=>bp5 _ _ _
theorem aE3 (rs:List RV):∀k f,f∈stg rs k->f∈stg rs (k+1)
 | 0,f,h=>by simp [stg] at h
 | k+1,f,h=>bp3 (aE3 rs k) f h
theorem bn0 (rs:List RV) {j k:Nat} (h:j<=k):∀f,f∈stg rs j->f∈stg rs k:=by
 induction h with
 | refl=>exact fun f hf=>hf
 | step _ ih=>exact fun f hf=>aE3 rs _ f (ih f hf)
theorem U9 (rs:List RV) (k:Nat):(stg rs k).length<=rs.length:=by
 cases k with
 | zero=>simp [stg]
 | succ k=>exact bp4 _ _ _
theorem by2 {rs:List RV} {k:Nat} (h:stg rs (k+1)=stg rs k):∀j,k<=j->stg rs j=stg rs k:=by
 intro j hj;induction hj with
 | refl=>rfl
 | step _ ih=>show R7 rs (stg rs _) []=_;rw [ih];exact h
theorem aA1 {rs:List RV} {k:Nat}:(stg rs (k+1)).length=(stg rs k).length↔stg rs (k+1)=stg rs k:=
 ⟨fun h=>((ak0 FcV.cmp_lin _ _ (al0 rs k) (al0 rs (k+1)) (aE3 rs k)).2 h.symm).symm,fun h=>by rw [h]⟩
theorem aY0 {rs:List RV} {k:Nat} (h:stg rs (k+1)≠stg rs k):(stg rs k).length<(stg rs (k+1)).length:=by
 have h1:=(ak0 FcV.cmp_lin _ _ (al0 rs k) (al0 rs (k+1)) (aE3 rs k)).1;have h2:(stg rs (k+1)).length≠(stg rs k).length:=fun e=>h (aA1.1 e);omega
def top (rs:List RV):Nat:=aK4 (fun k=>decide (stg rs (k+1)=stg rs k)) (rs.length+1)
theorem O8 (rs:List RV):top rs<=rs.length/\stg rs (top rs+1)=stg rs (top rs)/\∀k,k<top rs->stg rs (k+1)≠stg rs k:=by
 obtain ⟨k1,k2,k3⟩:=ah4 (p:=fun k=>decide (stg rs (k+1)=stg rs k)) (n:=rs.length+1);have h2:∀k,k<top rs->stg rs (k+1)≠stg rs k:=fun k hk=>by have:=k2 k hk;simpa using this
 have h4:∀k,k<=top rs->k<=(stg rs k).length:=fun k=>by
  induction k with
  | zero=>intro _;omega
  | succ k ih =>
   intro hk;have h5:=aY0 (h2 k (by omega));have h6:=ih (by omega);omega
 have h5:=h4 (top rs) (k_ _);have h6:=U9 rs (top rs);have h7:top rs<rs.length+1:=by omega
 refine ⟨by omega,?_,h2⟩;have:=k3 h7;exact of_decide_eq_true this
theorem bF4 {rs:List RV} {k:Nat} (h:stg rs (k+1)=stg rs k) (hb:∀j,j<k->stg rs (j+1)≠stg rs j):k=top rs:=by
 obtain ⟨_,t2,t3⟩:=O8 rs;rcases Nat.lt_trichotomy k (top rs) with e | e | e
 ·exact absurd h (t3 k e)
 ·exact e
 ·exact absurd t2 (hb _ e)
theorem bm9 (rs:List RV) (n:Nat):stg rs (min n (top rs))=stg rs n:=by
 rcases Nat.le_total n (top rs) with h | h
 ·rw [Nat.min_eq_left h]
 ·rw [Nat.min_eq_right h];exact (by2 (O8 rs).2.1 n h).symm
def hgt (rs:List RV) (f:FcV):Int:=
 if f∈stg rs (top rs) then (aK4 (fun k=>decide (f∈stg rs k)) (top rs+1):Int) else -1
def I7 (b L:Nat):Nat->Nat->Nat
 | 0,k=>k
 | n+1,k=>if k<=L then I7 b L n (k * b) else k
theorem aA0 {b L:Nat} (hb:1<=b):∀n k,(k * b ^ n<=L->I7 b L n k=k * b ^ n)/\(L<k * b ^ n->L<I7 b L n k)
 | 0,k=>by simp [I7]
 | n+1,k=>by
  have e:k * b ^ (n+1)=k * b * b ^ n:=by rw [ad_,Nat.mul_comm (b ^ n) b,Nat.mul_assoc]
  obtain ⟨h1,h2⟩:=aA0 (L:=L) hb n (k * b);have hp:1<=b ^ (n+1):=Nat.one_le_pow _ _ hb;have hk:k<=k * b ^ (n+1):=Nat.le_mul_of_pos_right _ hp;unfold I7;rw [e] at hk |-;split
  ·exact ⟨h1,h2⟩
  ·exact ⟨fun h=>by omega,fun h=>by omega⟩
theorem aX8 {b L n k:Nat} (h:¬k<=L):I7 b L n k=k:=by
 cases n with
 | zero=>rfl
 | succ n=>unfold I7;rw [if_neg h]
theorem aR9 {b L n:Nat} (hb:1<=b):(b ^ n<=L↔I7 b L n 1<=L)/\(b ^ n<=L->I7 b L n 1=b ^ n):=by
 obtain ⟨h1,h2⟩:=aA0 (L:=L) hb n 1;rw [Nat.one_mul] at h1 h2;refine ⟨⟨fun h=>by rw [h1 h];exact h,fun h=>?_⟩,h1⟩;rcases F_ L (b ^ n) with h3 | h3
 ·have:=h2 h3;omega
 ·exact h3
def okG (u vs:List V) (g:Gl):Bool:=
 if g.kind=9 then aH0 u (g.callV (o6 vs)) else if g.kind=10 then (match g.goals.head? with | some x=>aH0 u (x.callV (o6 vs)) | none=>true) else g.testV (o6 vs)
theorem aA2 (u vs:List V):∀c:List Gl,Z4 u c vs=c.all (okG u vs)
 | []=>rfl
 | g :: r=>by
  have ih:=aA2 u vs r;unfold Z4 at ih |-;rw [s_,<-ih];unfold okG;by_cases h9:g.kind=9
  ·have e1:q8 (o6 vs) (g :: r)=q8 (o6 vs) r:=by simp [q8,h9]
   have e2:r9 (o6 vs) (g :: r)=r9 (o6 vs) r:=by simp [r9,h9]
   have e3:u7 (o6 vs) (g :: r)=g.callV (o6 vs) :: u7 (o6 vs) r:=by simp [u7,h9]
   rw [e1,e2,e3,if_pos h9,s_];cases aH0 u (g.callV (o6 vs))<;>simp
  ·rw [if_neg h9]
   by_cases h10:g.kind=10
   ·have e1:q8 (o6 vs) (g :: r)=q8 (o6 vs) r:=by simp [q8,h10]
    have e3:u7 (o6 vs) (g :: r)=u7 (o6 vs) r:=by simp [u7,h10]
    rw [e1,e3,if_pos h10];cases hg:g.goals with
    | nil =>
     have e2:r9 (o6 vs) (g :: r)=r9 (o6 vs) r:=by simp [r9,h10,hg]
     rw [e2];simp
    | cons x q =>
     have e2:r9 (o6 vs) (g :: r)=x.callV (o6 vs) :: r9 (o6 vs) r:=by simp [r9,h10,hg]
     rw [e2,s_];simp only [List.head?_cons];cases aH0 u (x.callV (o6 vs))<;>simp
   ·rw [if_neg h10]
    have e1:q8 (o6 vs) (g :: r)=(g.testV (o6 vs) && q8 (o6 vs) r):=by simp [q8,h9,h10]
    have e2:r9 (o6 vs) (g :: r)=r9 (o6 vs) r:=by simp [r9,h10]
    have e3:u7 (o6 vs) (g :: r)=u7 (o6 vs) r:=by simp [u7,h9]
    rw [e1,e2,e3];cases g.testV (o6 vs)<;>simp
theorem aY6 (u:List V) (r:Rl) (i:Int) (c:List Gl) (k m:Nat):aJ0 u r i c k (m+1)=(rvK u r i c k).toList++aJ0 u r i c (k+1) m:=rfl
theorem aK9 (u:List V) (r:Rl) (n:Nat) (i:Int) (c:List Gl) (cs:List (List Gl)):as1 u r n i (c :: cs)=aJ0 u r i c 0 n++as1 u r n (i+1) cs:=rfl
theorem Pg.gr_none {p:Pg} {u:List V} {L T:List RV} (h:Pg.gnd u p.rels=L++T) (hl:2000<L.length):p.gr u=none:=by
 unfold Pg.gr;rw [if_neg];rintro ⟨_,h2⟩;rw [h,i_] at h2;omega
theorem Pg.gr_bad {p:Pg} {u:List V} {x:Rl} (hx:x∈p.rels) (h:x.gOk u=false):p.gr u=none:=by
 unfold Pg.gr;rw [if_neg];rintro ⟨h1,_⟩;rw [d_] at h1;rw [h1 x hx] at h;cases h
theorem Pg.gr_some {p:Pg} {u:List V} (h:p.rels.all (Rl.gOk u)=true) (hl:(Pg.gnd u p.rels).length<=2000):p.gr u=some (Pg.gnd u p.rels):=by
 unfold Pg.gr;rw [if_pos ⟨h,hl⟩]
theorem Pg.dims {p:Pg} (h:N9 p=true) {r:Rl} (hr:r∈p.rels):0<=r.arity/\r.arity<=4/\0<=r.locals/\r.locals<=8:=by
 unfold N9 at h;simp only [a_] at h;obtain ⟨i,hi⟩:=af0 h.2 r hr;unfold Pg.relOk at hi;simp only [a_,decide_eq_true_eq] at hi;obtain ⟨⟨⟨⟨⟨⟨⟨_,_⟩,ha⟩,hl⟩,_⟩,_⟩,_⟩,_⟩:=hi;exact ⟨ha.1,ha.2,hl.1,hl.2⟩
theorem aI3 {b g:Gl} {c:List Gl} (hc:c∈b.clsS) (hg:g∈c):g∈b.subs:=(Gl.clsS_row b c hc).2 g hg
theorem bJ1 {g x:Gl} (h:g.goals=[x]):x∈g.subs:=by
 rw [Gl.subs_eq,h];simp only [Gl.subss,H_,b_];right;rw [Gl.subs_eq];simp
def ab3:List (List UInt8):=(List.range 11).map fun k:Nat=>aj4 (k:Int)
def hdF (w:List UInt8):List (List UInt8)->Nat->Int×List UInt8->Int×List UInt8
 | [],_,s=>s
 | h :: r,k,s=>hdF w r (k+1) (if h=w then ((k:Int),[]) else s)
def aV0 (w:List UInt8):Gl:=⟨(hdF w ab3 0 (9,w)).1,(hdF w ab3 0 (9,w)).2,[],[]⟩
def Gl.nest (g:Gl):Bool:=decide (g.kind=7) || decide (g.kind=8) || decide (g.kind=10)
def Gl.addG (g x:Gl):Gl:=⟨g.kind,g.name,g.terms,g.goals++[x]⟩
def Gl.addT (g:Gl) (t:Tm):Gl:=⟨g.kind,g.name,g.terms++[t],g.goals⟩
mutual
def rgT (T:List (List UInt8)):Nat->Nat->Option (Gl×Nat)
 | 0,_=>none
 | n+1,i=>match T[i]? with
  | none=>none
  | some t=>if t=aj4 0 then some (⟨0,[],[],[]⟩,i+1) else if t=aj4 1 then some (⟨1,[],[],[]⟩,i+1)
   else match T[i+1]? with
    | none=>none
    | some w=>if t=[40] then rgL T n (i+2) (aV0 w) else none
def rgL (T:List (List UInt8)):Nat->Nat->Gl->Option (Gl×Nat)
 | 0,_,_=>none
 | n+1,i,g=>match T[i]? with
  | none=>none
  | some t=>if t=[41] then (if 1<g.kind then some (g,i+1) else none)
   else if g.nest=true then (match rgT T n i with | some (x,j)=>rgL T n j (g.addG x) | none=>none)
   else match rdT false T (2 * (T.length - i)+1) i with | some (v,j)=>rgL T n j (g.addT v.tm) | none=>none
end
theorem aZ4 {T:List (List UInt8)} {n i:Nat} {t:List UInt8} {g:Gl} {j:Nat} (h:rgT T (n+1) i=some (g,j)) (ht:T[i]? = some t) :
  (t=aj4 0/\g=⟨0,[],[],[]⟩/\j=i+1)\/(t≠aj4 0/\t=aj4 1/\g=⟨1,[],[],[]⟩/\j=i+1)\/(t≠aj4 0/\t≠aj4 1/\t=[40]/\∃w,T[i+1]? = some w/\rgL T n (i+2) (aV0 w)=some (g,j)):=by
 rw [rgT,ht] at h;dsimp only at h;by_cases h0:t=aj4 0
 ·rw [if_pos h0] at h;cases h;exact .inl ⟨h0,rfl,rfl⟩
 ·rw [if_neg h0] at h
  by_cases h1:t=aj4 1
  ·rw [if_pos h1] at h;cases h;exact .inr (.inl ⟨h0,h1,rfl,rfl⟩)
  ·rw [if_neg h1] at h
   cases hw:T[i+1]? with
   | none=>rw [hw] at h;cases h
   | some w =>
    rw [hw] at h;dsimp only at h;by_cases h4:t=[40]
    ·rw [if_pos h4] at h;exact .inr (.inr ⟨h0,h1,h4,w,rfl,h⟩)
    ·rw [if_neg h4] at h;cases h
theorem aZ5 {T:List (List UInt8)} {n i:Nat} {g0 g:Gl} {j:Nat} (h:rgL T (n+1) i g0=some (g,j)):∃t,T[i]? = some t /\
  ((t=[41]/\1<g0.kind/\g=g0/\j=i+1)\/(t≠[41]/\g0.nest=true/\∃x k,rgT T n i=some (x,k)/\rgL T n k (g0.addG x)=some (g,j))\/(t≠[41]/\g0.nest=false/\∃v k,rdT false T (2 * (T.length - i)+1) i=some (v,k)/\rgL T n k (g0.addT v.tm)=some (g,j))):=by
 rw [rgL] at h;cases ht:T[i]? with
 | none=>rw [ht] at h;cases h
 | some t =>
  rw [ht] at h;refine ⟨t,rfl,?_⟩;dsimp only at h;by_cases h4:t=[41]
  ·rw [if_pos h4] at h
   by_cases h1:1<g0.kind
   ·rw [if_pos h1] at h;cases h;exact .inl ⟨h4,h1,rfl,rfl⟩
   ·rw [if_neg h1] at h;cases h
  ·rw [if_neg h4] at h
   by_cases hn:g0.nest=true
   ·rw [if_pos hn] at h
    cases hx:rgT T n i with
    | none=>rw [hx] at h;cases h
    | some x=>rw [hx] at h;exact .inr (.inl ⟨h4,hn,x.1,x.2,rfl,h⟩)
   ·rw [if_neg hn] at h
    cases hx:rdT false T (2 * (T.length - i)+1) i with
    | none=>rw [hx] at h;cases h
    | some x=>rw [hx] at h;exact .inr (.inr ⟨h4,by simpa using hn,x.1,x.2,rfl,h⟩)
theorem bF7 (T:List (List UInt8)):∀n:Nat,(∀i g j,rgT T n i=some (g,j)->i<j/\j<=T.length)/\∀i g0 g j,rgL T n i g0=some (g,j)->i<j/\j<=T.length
 | 0=>⟨fun i g j h=>(by rw [rgT] at h;cases h),fun i g0 g j h=>(by rw [rgL] at h;cases h)⟩
 | n+1=>by
  obtain ⟨i1,i2⟩:=bF7 T n;refine ⟨fun i g j h=>?_,fun i g0 g j h=>?_⟩
  ·cases ht:T[i]? with
   | none=>rw [rgT,ht] at h;cases h
   | some t =>
    have hl:=(e_.1 ht).1;rcases aZ4 h ht with ⟨_,_,rfl⟩ | ⟨_,_,_,rfl⟩ | ⟨_,_,_,w,_,h⟩
    ·omega
    ·omega
    ·have:=i2 _ _ _ _ h;omega
  ·obtain ⟨t,ht,h⟩:=aZ5 h
   have hl:=(e_.1 ht).1;rcases h with ⟨_,_,_,rfl⟩ | ⟨_,_,x,k,h1,h2⟩ | ⟨_,_,v,k,h1,h2⟩
   ·omega
   ·have:=i1 _ _ _ h1
    have:=i2 _ _ _ _ h2;omega
   ·have:=(aL4 false T _).1 _ _ _ h1
    have:=i2 _ _ _ _ h2;omega
def inR:Option Int->Bool
 | some n=>decide (0<=n) && decide (n<=100000)
 | none=>false
def nbB (s:List UInt8):Bool:=F9 s || inR (U3 s)
def nbT:List (List UInt8)->List (List UInt8)->List (List UInt8)->Option (List (List UInt8)×Nat)
 | [],ns,out=>some (out,ns.length)
 | t :: r,ns,out=>if t.head?≠some 63 then nbT r ns (out++[t])
  else if nbB t.tail=true then
   nbT r (if t∈ns then ns else ns++[t]) (out++[63 :: dec (ns.findIdx (fun x=>x == t):Nat)])
  else none
def bK1 (T:List (List UInt8)):Nat->Nat->Nat
 | 0,_=>0
 | n+1,a=>if T[4+a]? = some (63 :: dec (a:Nat)) then 1+bK1 T n (a+1) else 0
def dfT (all:List (List UInt8)):Option Rl:=match nbT all [] [] with
 | none=>none
 | some (T,c)=>if T.length<6 then none else if T[1]? = some [100,101,102,105,110,101]/\T[2]? = some [40] then
   (let a:=bK1 T T.length 0
    if T[4+a]? = some [41] then (match rgT T (2 * T.length+1) (5+a) with
     | some (g,j)=>if j+1=T.length then some ⟨T.getD 3 [],(a:Int),(c:Int) - (a:Int),g⟩ else none
     | none=>none)
    else none)
  else none
def ppT:List (List UInt8)->List (List UInt8)->Int->List Rl->Option (List Rl×Int)
 | [],_,d,rels=>some (rels,d)
 | t :: r,cur,d,rels =>
  (let d':=if t=[40] then d+1 else if t=[41] then d - 1 else d
   if 0<d' then ppT r (cur++[t]) d' rels
   else match dfT (cur++[t]) with
    | some x=>ppT r [] d' (rels++[x])
    | none=>none)
def pgV (s:List UInt8):Option Pg:=match aD9 s with
 | some T=>(match ppT T [] 0 [] with
  | some (rels,d)=>if d=0/\N9 ⟨rels⟩=true then some ⟨rels⟩ else none
  | none=>none)
 | none=>none
def Gl.drA (S:List (List UInt8×Int)) (n mode:Int) (g:Gl):Prop:=g.shape=true/\g.varsLt n=true/\g.kind≠7/\g.kind≠8/\g.cnt<=2/\wtL g.enc<=1000/\(∀x,x∈g.subs->x.kind=9->(x.name,(x.terms.length:Int))∈S)/\(mode≠2->∀x,x∈g.subs->x.kind≠10)
def Gl.drC (S:List (List UInt8×Int)) (n mode:Int) (g:Gl):Prop:=g.kind=7/\g.name=[]/\g.terms=[]/\g.goals.length<=4/\∀x,x∈g.goals->x.drA S n mode
def Gl.drB (S:List (List UInt8×Int)) (n mode:Int) (g:Gl):Prop:=g.drC S n mode\/(g.kind=8/\g.name=[]/\g.terms=[]/\g.goals.length<=3/\∀x,x∈g.goals->x.drC S n mode)
theorem Gl.drA_cls {S:List (List UInt8×Int)} {n mode:Int} {g:Gl} (h:g.drA S n mode):g.clsS.length<=1:=by
 obtain ⟨_,_,h7,h8,_⟩:=h;rw [Gl.clsS_eq];split
 ·simp
 ·split
  ·simp
  ·try rw [if_neg h8,if_neg h7]
   simp
theorem Gl.andS_one:∀(l:List Gl) (a:List (List Gl)),(∀x,x∈l->x.clsS.length<=1)->a.length<=1->(Gl.andS l a).length<=1
 | [],a,_,h=>by simpa [Gl.andS] using h
 | g :: r,a,hm,h=>by
  have h1:=hm g (by simp);have h2:(J7 a g.clsS).length<=1:=by rw [ai2];exact y_ (W_ h h1) (k_ _)
  simp only [Gl.andS];rw [if_neg (by omega),if_neg (by omega)];exact Gl.andS_one r _ (fun x hx=>hm x (by simp [hx])) h2
theorem Gl.drC_cls {S:List (List UInt8×Int)} {n mode:Int} {g:Gl} (h:g.drC S n mode):g.clsS.length<=1:=by
 obtain ⟨h7,_,_,_,hm⟩:=h;rw [Gl.clsS_eq,if_neg (by omega),if_neg (by omega),if_neg (by omega),if_pos h7];exact Gl.andS_one _ _ (fun x hx=>Gl.drA_cls (hm x hx)) (by simp)
theorem Gl.orS_one:∀(l:List Gl) (a:List (List Gl)),(∀x,x∈l->x.clsS.length<=1)->(Gl.orS l a).length<=a.length+l.length
 | [],a,_=>by simp [Gl.orS]
 | g :: r,a,hm=>by
  have h1:=hm g (by simp);simp only [Gl.orS];rw [if_neg (by omega)];have:=Gl.orS_one r (a++g.clsS) (fun x hx=>hm x (by simp [hx]));simp only [i_,c_] at this |-;omega
theorem Gl.drB_cls {S:List (List UInt8×Int)} {n mode:Int} {g:Gl} (h:g.drB S n mode):g.clsS.length<=3:=by
 rcases h with h | ⟨h8,_,_,hl,hm⟩
 ·have:=Gl.drC_cls h;omega
 ·rw [Gl.clsS_eq,if_neg (by omega),if_neg (by omega),if_pos h8]
  have:=Gl.orS_one g.goals [] (fun x hx=>Gl.drC_cls (hm x hx));simp only [v_] at this;omega
structure Gl.drW (S:List (List UInt8×Int)) (n mode:Int) (c w:Nat) (g:Gl):Prop where
 shape:g.shape=true
 vars:g.varsLt n=true
 cnt:g.cnt<=c
 wt:wtL g.enc<=w
 calls:∀x,x∈g.subs->x.kind=9->(x.name,(x.terms.length:Int))∈S
 nots:mode≠2->∀x,x∈g.subs->x.kind≠10
theorem Gl.drA_W {S:List (List UInt8×Int)} {n mode:Int} {g:Gl} (h:g.drA S n mode):g.drW S n mode 2 1000:=⟨h.1,h.2.1,h.2.2.2.2.1,h.2.2.2.2.2.1,h.2.2.2.2.2.2.1,h.2.2.2.2.2.2.2⟩
theorem Gl.drW_up {S:List (List UInt8×Int)} {n mode:Int} {c w m:Nat} {g:Gl} (hk:g.kind=7\/g.kind=8) (hn:g.name=[]) (ht:g.terms=[]) (hl:g.goals.length<=m) (hm8:m<=8) (hm:∀x,x∈g.goals->x.drW S n mode c w):g.drW S n mode (1+m * c) (m * (1+w)):=by
 have hcs:∀l:List Gl,(∀x,x∈l->x.drW S n mode c w)->Gl.cnts l<=l.length * c/\wtR (l.map Gl.enc)<=l.length * (1+w):=by
  intro l;induction l with
  | nil=>intro _;simp [Gl.cnts,wtR]
  | cons x r ih =>
   intro hx;obtain ⟨i1,i2⟩:=ih (fun y hy=>hx y (by simp [hy]));have h1:=(hx x (by simp)).cnt;have h2:=(hx x (by simp)).wt;simp only [Gl.cnts,h_,wtR,c_,ac_];omega
 obtain ⟨k1,k2⟩:=hcs g.goals hm;have j1:g.goals.length * c<=m * c:=P_ _ hl;have j2:g.goals.length * (1+w)<=m * (1+w):=P_ _ hl;refine ⟨?_,?_,?_,?_,fun x hx h9=>?_,fun h2 x hx=>?_⟩
 ·rw [Gl.shape_eq,Gl.form_and hk hn (by rw [ht];rfl) (by omega),ht]
  simp only [ab_,p_,d_];exact fun x hx=>(hm x hx).shape
 ·unfold Gl.varsLt
  rw [Gl.vars_eq,ht,Gl.varss_eq];simp only [Tm.varss,T_,d_,l_];rintro v ⟨x,hx,hv⟩;have:=(hm x hx).vars;unfold Gl.varsLt at this;exact d_.1 this v hv
 ·rw [Gl.cnt_eq];omega
 ·rw [Gl.enc_eq,hn,ht]
  simp only [wtL,D.wt,x_,wtR,v_];omega
 ·rw [Gl.subs_eq,Gl.subss_eq] at hx
  rcases b_.1 hx with rfl | hx
  ·omega
  ·obtain ⟨y,hy,hxy⟩:=l_.1 hx
   exact (hm y hy).calls x hxy h9
 ·rw [Gl.subs_eq,Gl.subss_eq] at hx
  rcases b_.1 hx with rfl | hx
  ·omega
  ·obtain ⟨y,hy,hxy⟩:=l_.1 hx
   exact (hm y hy).nots h2 x hxy
theorem Gl.drC_W {S:List (List UInt8×Int)} {n mode:Int} {g:Gl} (h:g.drC S n mode):g.drW S n mode 9 4004:=Gl.drW_up (.inl h.1) h.2.1 h.2.2.1 h.2.2.2.1 (by omega) (fun x hx=>Gl.drA_W (h.2.2.2.2 x hx))
theorem Gl.drW_le {S:List (List UInt8×Int)} {n mode:Int} {c w c' w':Nat} {g:Gl} (h:g.drW S n mode c w) (h1:c<=c') (h2:w<=w'):g.drW S n mode c' w':=⟨h.shape,h.vars,y_ h.cnt h1,y_ h.wt h2,h.calls,h.nots⟩
theorem Gl.drB_W {S:List (List UInt8×Int)} {n mode:Int} {g:Gl} (h:g.drB S n mode):g.drW S n mode 28 12015:=by
 rcases h with h | ⟨h8,hn,ht,hl,hm⟩
 ·exact Gl.drW_le (Gl.drC_W h) (by decide) (by decide)
 ·exact Gl.drW_up (.inr h8) hn ht hl (by decide) (fun x hx=>Gl.drC_W (hm x hx))
def ag2:List (List UInt8):=[[112],[113],[114]]
def Pg.sg (p:Pg):List (List UInt8×Int):=p.rels.map fun r=>(r.name,r.arity)
def Pg.drP (mode:Int) (p:Pg):Prop:=(∃k,1<=k/\k<=3/\p.rels.map Rl.name=ag2.take k)/\∀r,r∈p.rels->1<=r.arity/\r.arity<=2/\0<=r.locals/\r.locals<=1/\r.body.drB p.sg (r.arity+r.locals) mode
structure Pg.fine (mode:Int) (p:Pg):Prop where
 ok:N9 p=true
 wt:wtL p.enc<=60000
 cls:∀r,r∈p.rels->r.body.clsS.length<=3
 one:1<=p.rels.length
 nots:mode≠2->p.all false=true
theorem ba9:∀(l:List Rl) (j:Nat) (r:Rl) (i:Int),l[j]? = some r->(l.map Rl.name).Nodup->V4 l r.name i=i+j
 | [],j,r,i,h,_=>by simp at h
 | x :: q,0,r,i,h,_=>by
  simp at h;subst h;simp [V4]
 | x :: q,j+1,r,i,h,hn=>by
  simp only [D_] at h;rw [h_,List.nodup_cons] at hn;have hne:¬x.name=r.name:=fun e=>hn.1 (by rw [e];exact g_.2 ⟨r,q_ h,rfl⟩);simp only [V4,if_neg hne];rw [ba9 q j r (i+1) h hn.2];push_cast;omega
theorem bG1 {p:Pg} (h:∀(j:Nat) (r:Rl),p.rels[j]? = some r->p.relOk j r=true):∀(l pre:List Rl),p.rels=pre++l->p.okL l=true
 | [],_,_=>rfl
 | x :: q,pre,e=>by
  have hl:p.rels.length - (q.length+1)=pre.length:=by rw [e];simp
  have hx:p.rels[pre.length]? = some x:=by rw [e];simp
  simp only [Pg.okL,a_];exact ⟨by rw [hl];exact h _ _ hx,bG1 h q (pre++[x]) (by rw [e];simp)⟩
theorem O3 {k:Nat} (h3:k<=3):(ag2.take k).Nodup/\(∀s,s∈ag2.take k->P5 s=true/\s.length=1)/\(ag2.take k).length=k:=by
 rcases (show k=0\/k=1\/k=2\/k=3 by omega) with rfl | rfl | rfl | rfl<;>exact ⟨by decide,by decide,by decide⟩
theorem Pg.drP_fine {mode:Int} {p:Pg} (h:p.drP mode):p.fine mode:=by
 obtain ⟨⟨k,k1,k3,hn⟩,hr⟩:=h;obtain ⟨n1,n2,n3⟩:=O3 k3;have hlen:p.rels.length=k:=by have:=congrArg List.length hn;rw [n_,n3] at this;exact this
 have hnd:(p.rels.map Rl.name).Nodup:=by rw [hn];exact n1
 have hfind:∀(j:Nat) (r:Rl),p.rels[j]? = some r->p.find r.name=j:=fun j r hj=>by
  unfold Pg.find;rw [ba9 _ j r 0 hj hnd];omega
 have hW:∀r,r∈p.rels->r.body.drW p.sg (r.arity+r.locals) mode 28 12015:=fun r hm=>Gl.drB_W (hr r hm).2.2.2.2;have hname:∀r,r∈p.rels->P5 r.name=true/\r.name.length=1:=fun r hm=>n2 _ (by rw [<-hn];exact g_.2 ⟨r,hm,rfl⟩);have hok:∀(j:Nat) (r:Rl),p.rels[j]? = some r->p.relOk j r=true:=fun j r hj=>by
  have hm:=q_ hj;obtain ⟨a1,a2,a3,a4,_⟩:=hr r hm;have w:=hW r hm;have hc:p.callsFit r.body=true:=by
   unfold Pg.callsFit;rw [d_];intro x hx;by_cases h9:x.kind=9
   ·have hs:=w.calls x hx h9
    unfold Pg.sg at hs;obtain ⟨y,hy,e⟩:=g_.1 hs;obtain ⟨jy,hjy⟩:=G_ hy;have e1:y.name=x.name:=congrArg Prod.fst e;have e2:y.arity=(x.terms.length:Int):=congrArg Prod.snd e;have hfy:=hfind jy y hjy;rw [e1] at hfy;unfold Pg.fitC;rw [hfy,show ((jy:Int)).toNat=jy by omega,hjy];simp [h9,e2]
   ·exact Pg.fitC_other h9
  unfold Pg.relOk;rw [hfind j r hj,(hname r hm).1,w.shape,w.vars,hc,decide_eq_true (show 0<=r.arity/\r.arity<=4 by omega),decide_eq_true (show 0<=r.locals/\r.locals<=8 by omega),decide_eq_true (show r.body.cnt<=60 by have:=w.cnt;omega)];simp
 have hpg:N9 p=true:=by
  unfold N9;rw [decide_eq_true (by omega),bG1 hok p.rels [] rfl];rfl
 refine ⟨hpg,?_,fun r hm=>Gl.drB_cls (hr r hm).2.2.2.2,by omega,fun h2=>?_⟩
 ·have hw:∀l:List Rl,(∀x,x∈l->x∈p.rels)->wtR (l.map Rl.enc)<=l.length * 12017:=by
   intro l;induction l with
   | nil=>intro _;simp [wtR]
   | cons x r ih =>
    intro hx;have i1:=ih (fun y hy=>hx y (by simp [hy]));have h1:=(hW x (hx x (by simp))).wt;have h2:=(hname x (hx x (by simp))).2;have h3:wtL x.enc=x.name.length+wtL x.body.enc:=by simp only [Rl.enc_eq,Gl.enc_eq,wtL,D.wt];omega
    simp only [h_,wtR,c_,ac_];omega
  have:=hw p.rels (fun x hx=>hx);rw [hlen] at this;simp only [Pg.enc_eq,wtL,D.wt];have:=P_ 12017 k3;omega
 ·unfold Pg.all
  rw [hpg,p_,d_];intro r hm;unfold Gl.only;rw [d_];intro x hx;have:=(hW r hm).nots h2 x hx;simp [Gl.onlyK,this]
def bf8:List UInt8:=[40,100,101,102,105,110,101,32,40,97,112,112,101,110,100,32,63,97,32,63,98,32,63,99,41,32,40,111,114,32,40,97,110,100,32,40,61,32,63,97,32,40,41,41,32,40,61,32,63,98,32,63,99,41,41,32,40,97,110,100,32,40,61,32,63,97,32,40,63,120,32,46,32,63,121,41,41,32,40,61,32,63,99,32,40,63,120,32,46,32,63,122,41,41,32,40,97,112,112,101,110,100,32,63,121,32,63,98,32,63,122,41,41,41,41,10,40,100,101,102,105,110,101,32,40,109,101,109,98,101,114,32,63,120,32,63,108,41,32,40,111,114,32,40,61,32,63,108,32,40,63,120,32,46,32,63,114,41,41,32,40,97,110,100,32,40,61,32,63,108,32,40,63,121,32,46,32,63,114,41,41,32,40,109,101,109,98,101,114,32,63,120,32,63,114,41,41,41,41,10]
def bf7:List UInt8:=[40,100,101,102,105,110,101,32,40,101,100,103,101,32,63,97,32,63,98,41,32,40,111,114,32,40,97,110,100,32,40,61,32,63,97,32,97,41,32,40,61,32,63,98,32,98,41,41,32,40,97,110,100,32,40,61,32,63,97,32,98,41,32,40,61,32,63,98,32,99,41,41,32,40,97,110,100,32,40,61,32,63,97,32,99,41,32,40,61,32,63,98,32,97,41,41,41,41,10,40,100,101,102,105,110,101,32,40,112,97,116,104,32,63,97,32,63,98,41,32,40,111,114,32,40,101,100,103,101,32,63,97,32,63,98,41,32,40,97,110,100,32,40,112,97,116,104,32,63,97,32,63,99,41,32,40,101,100,103,101,32,63,99,32,63,98,41,41,41,41,10]
def bf6:List UInt8:=[40,100,101,102,105,110,101,32,40,111,117,116,115,105,100,101,32,63,120,32,63,108,41,32,40,111,114,32,40,61,32,63,108,32,40,41,41,32,40,97,110,100,32,40,61,32,63,108,32,40,63,121,32,46,32,63,114,41,41,32,40,47,61,32,63,120,32,63,121,41,32,40,111,117,116,115,105,100,101,32,63,120,32,63,114,41,41,41,41,10,40,100,101,102,105,110,101,32,40,100,105,115,116,105,110,99,116,32,63,108,41,32,40,111,114,32,40,61,32,63,108,32,40,41,41,32,40,97,110,100,32,40,61,32,63,108,32,40,63,120,32,46,32,63,114,41,41,32,40,111,117,116,115,105,100,101,32,63,120,32,63,114,41,32,40,100,105,115,116,105,110,99,116,32,63,114,41,41,41,41,10]
def bf5:List UInt8:=[40,100,101,102,105,110,101,32,40,109,111,118,101,32,63,97,32,63,98,41,32,40,111,114,32,40,97,110,100,32,40,61,32,63,97,32,97,41,32,40,61,32,63,98,32,98,41,41,32,40,97,110,100,32,40,61,32,63,97,32,98,41,32,40,61,32,63,98,32,97,41,41,32,40,97,110,100,32,40,61,32,63,97,32,98,41,32,40,61,32,63,98,32,99,41,41,41,41,10,40,100,101,102,105,110,101,32,40,119,105,110,32,63,97,41,32,40,97,110,100,32,40,109,111,118,101,32,63,97,32,63,98,41,32,40,110,111,116,32,40,119,105,110,32,63,98,41,41,41,41,10]
def bw5:Nat->List UInt8
 | 0=>bf8
 | 1=>bf7
 | 2=>bf6
 | _=>bf5
def bf9 (s:List UInt8):Bool:=match aD9 s with
 | some T=>decide (T.length<=200) && T.all (fun t=>decide (t.length<=400)) && (match ppT T [] 0 [] with
  | some (rels,d)=>decide (d=0) && N9 ⟨rels⟩ && decide (wtR (rels.map Rl.enc)<=60000) && rels.all (fun r=>decide (r.body.clsS.length<=3)) && decide (1<=rels.length)
  | none=>false)
 | none=>false
theorem bU2:bf9 bf8=true:=by kernel_rfl
theorem bU1:bf9 bf7=true:=by kernel_rfl
theorem bU0:bf9 bf6=true:=by kernel_rfl
theorem bT9:bf9 bf5=true:=by kernel_rfl
theorem bq0 (k:Nat):bf9 (bw5 k)=true:=match k with
 | 0=>bU2
 | 1=>bU1
 | 2=>bU0
 | _+3=>bT9
theorem bL8:decide (bf8.length<=400)=true:=by kernel_rfl
theorem bL7:decide (bf7.length<=400)=true:=by kernel_rfl
theorem bL6:decide (bf6.length<=400)=true:=by kernel_rfl
theorem bL5:decide (bf5.length<=400)=true:=by kernel_rfl
theorem bA9 (k:Nat):(bw5 k).length<=400:=match k with
 | 0=>of_decide_eq_true bL8
 | 1=>of_decide_eq_true bL7
 | 2=>of_decide_eq_true bL6
 | _+3=>of_decide_eq_true bL5
theorem bA8 (k:Nat):∃T rels,aD9 (bw5 k)=some T/\T.length<=200/\(∀t,t∈T->t.length<=400)/\ppT T [] 0 []=some (rels,0)/\N9 ⟨rels⟩=true/\(Pg.mk rels).fine 2:=by
 have h:=bq0 k;unfold bf9 at h;cases hT:aD9 (bw5 k) with
 | none=>rw [hT] at h;cases h
 | some T =>
  rw [hT] at h;dsimp only at h;rw [a_,a_] at h;obtain ⟨⟨h1,h2⟩,h3⟩:=h;cases hp:ppT T [] 0 [] with
  | none=>rw [hp] at h3;cases h3
  | some x =>
   obtain ⟨rels,d⟩:=x;rw [hp] at h3;dsimp only at h3;simp only [a_,decide_eq_true_eq,d_] at h1 h2 h3;obtain ⟨⟨⟨⟨d0,ok⟩,wt⟩,cls⟩,one⟩:=h3;subst d0;exact ⟨T,rels,rfl,h1,h2,hp,ok,⟨ok,by simpa only [Pg.enc_eq,wtL,D.wt,Nat.add_zero] using wt,cls,one,fun h=>absurd rfl h⟩⟩
theorem V.below_vars {n:Int}:∀v:V,v.vbelow n=true->∀x,x∈v.vars->x<n
 | .nil,_,x,hx=>by simp [V.vars] at hx
 | .sym _,_,x,hx=>by simp [V.vars] at hx
 | .num _,_,x,hx=>by simp [V.vars] at hx
 | .var i,h,x,hx=>by
  simp only [V.vbelow,a_,decide_eq_true_eq] at h;simp [V.vars] at hx;omega
 | .pair a b,h,x,hx=>by
  simp only [V.vbelow,a_] at h;simp only [V.vars,r_] at hx;rcases hx with hx | hx
  ·exact V.below_vars a h.1 x hx
  ·exact V.below_vars b h.2 x hx
theorem V.fine_low:∀v:V,v.fine=true->v.low=true
 | .nil,_=>rfl
 | .num _,_=>rfl
 | .var _,_=>rfl
 | .sym s,h=>by
  simp only [V.fine] at h;unfold F9 at h;simp only [a_,decide_eq_true_eq] at h;simp only [V.low,decide_eq_true_eq];omega
 | .pair a b,h=>by
  simp only [V.fine,a_] at h;simp only [V.low,V.fine_low a h.1,V.fine_low b h.2,w_]
theorem aq0 {n:Int} {v:V} (h:drawn 7 n v):Q5 v.tm=true/\wtL v.enc<=112/\∀x,x∈v.tm.vars->x<n:=by
 obtain ⟨h1,h2,h3⟩:=h;refine ⟨?_,?_,fun x hx=>?_⟩
 ·rw [bm4];unfold V.ok;rw [h1,decide_eq_true (by omega)];rfl
 ·have:=V.wt_low v (V.fine_low v h1);omega
 ·rw [V.vars_tm] at hx;exact V.below_vars v h3 x hx
theorem aw2 {n:Int}:∀vs:List V,(∀v,v∈vs->drawn 7 n v)->wtR (vs.map V.enc)<=113 * vs.length
 | [],_=>by simp [wtR]
 | v :: r,h=>by
  have h1:=aw2 r (fun x hx=>h x (by simp [hx]));have h2:=(aq0 (h v (by simp))).2.1;simp only [h_,wtR,c_];omega
theorem Gl.drA_of {S:List (List UInt8×Int)} {n mode:Int} {k:Int} {nm:List UInt8} {vs:List V} (hf:(Gl.mk k nm (vs.map V.tm) []).form=true) (hv:∀v,v∈vs->drawn 7 n v) (hl:vs.length<=4) (hn:nm.length<=12) (h7:k≠7) (h8:k≠8) (h10:k≠10) (h9:k=9->(nm,(vs.length:Int))∈S):Gl.drA S n mode ⟨k,nm,vs.map V.tm,[]⟩:=by
 have hs:∀x,x∈(Gl.mk k nm (vs.map V.tm) []).subs->x=⟨k,nm,vs.map V.tm,[]⟩:=fun x hx=>by
  rw [Gl.subs_eq] at hx;simpa [Gl.goals,Gl.subss] using hx
 have hw:=aw2 vs hv;refine ⟨?_,?_,h7,h8,by rw [Gl.cnt_eq];simp [Gl.goals,Gl.cnts],?_,fun x hx hk=>?_,fun _ x hx=>?_⟩
 ·rw [Gl.shape_eq,hf]
  simp only [Gl.terms,Gl.goals,ab_,Z_,p_,d_];rintro t ht;obtain ⟨v,hm,rfl⟩:=g_.1 ht;exact (aq0 (hv v hm)).1
 ·unfold Gl.varsLt
  rw [Gl.vars_eq,Tm.varss_eq];simp only [Gl.terms,Gl.goals,Gl.varss,H_,d_,l_,decide_eq_true_eq];rintro x ⟨t,ht,hx⟩;obtain ⟨v,hm,rfl⟩:=g_.1 ht;exact (aq0 (hv v hm)).2.2 x hx
 ·rw [Gl.enc_eq]
  simp only [Gl.name,Gl.terms,Gl.goals,x_,wtL,D.wt,wtR,D6];omega
 ·have:=hs x hx
  subst this;simp only [Gl.name,Gl.terms,n_];exact h9 hk
 ·have:=hs x hx
  subst this;exact h10
theorem Gl.drA_not {S:List (List UInt8×Int)} {n:Int} {g:Gl} (hg:g.drA S n 2) (hk:g.kind=9) (h1:g.cnt=1) (hw:wtL g.enc<=900):Gl.drA S n 2 ⟨10,[],[],[g]⟩:=by
 obtain ⟨a1,a2,a3,a4,a5,a6,a7,a8⟩:=hg;have hs:∀x,x∈(Gl.mk 10 [] [] [g]).subs->x=⟨10,[],[],[g]⟩\/x∈g.subs:=fun x hx=>by
  rw [Gl.subs_eq] at hx;simpa [Gl.goals,Gl.subss] using hx
 refine ⟨?_,?_,by simp [Gl.kind],by simp [Gl.kind],by rw [Gl.cnt_eq];simp [Gl.goals,Gl.cnts,h1],?_,fun x hx h9=>?_,fun h=>absurd rfl h⟩
 ·rw [Gl.shape_eq,Gl.form_10 (x:=g) rfl rfl rfl rfl rfl]
  simp [Gl.terms,Gl.goals,hk,a1]
 ·unfold Gl.varsLt at a2 |-
  rw [Gl.vars_eq];simpa [Gl.terms,Gl.goals,Gl.varss,Tm.varss] using a2
 ·rw [Gl.enc_eq]
  simp only [Gl.name,Gl.terms,Gl.goals,h_,x_,wtL,D.wt,wtR,v_];omega
 ·rcases hs x hx with rfl | hx
  ·simp [Gl.kind] at h9
  ·exact a7 x hx h9
theorem Gl.drA_call {S:List (List UInt8×Int)} {n mode:Int} {nm:List UInt8} {vs:List V} (hn:P5 nm=true) (hv:∀v,v∈vs->drawn 7 n v) (hl:vs.length<=4) (h9:(nm,(vs.length:Int))∈S):Gl.drA S n mode ⟨9,nm,vs.map V.tm,[]⟩/\(Gl.mk 9 nm (vs.map V.tm) []).cnt=1/\wtL (Gl.mk 9 nm (vs.map V.tm) []).enc<=900:=by
 have hn12:nm.length<=12:=by
  unfold P5 F9 at hn;simp only [a_,decide_eq_true_eq] at hn;omega
 have hw:=aw2 vs hv;refine ⟨Gl.drA_of ?_ hv hl hn12 (by decide) (by decide) (by decide) (fun _=>h9),by rw [Gl.cnt_eq];simp [Gl.goals,Gl.cnts],?_⟩
 ·unfold Gl.form
  simp only [Gl.kind,Gl.name,Gl.goals,Gl.terms,if_true,hn,v_,n_];simp;omega
 ·rw [Gl.enc_eq]
  simp only [Gl.name,Gl.terms,Gl.goals,x_,wtL,D.wt,wtR,D6];omega
def Pg.gszL:List Rl->Nat
 | []=>0
 | r :: q=>r.body.clsS.length * 2 ^ (r.arity+r.locals).toNat+Pg.gszL q
theorem aY8 (u:List V) (r:Rl) (i:Int) (c:List Gl):∀m k,(aJ0 u r i c k m).length<=m
 | 0,_=>by simp [aJ0]
 | m+1,k=>by
  have h1:=aY8 u r i c m (k+1);have h2:((rvK u r i c k).toList).length<=1:=by cases rvK u r i c k<;>simp
  simp only [aJ0,i_];omega
theorem aZ1 (u:List V) (r:Rl) (n:Nat):∀(cs:List (List Gl)) (i:Int),(as1 u r n i cs).length<=cs.length * n
 | [],_=>by simp [as1]
 | c :: cs,i=>by
  have h1:=aZ1 u r n cs (i+1);have h2:=aY8 u r i c n 0;simp only [as1,i_,c_,Nat.add_mul,Nat.one_mul];omega
theorem bs4 {u:List V} (hu:u.length<=2):∀l:List Rl,(Pg.gnd u l).length<=Pg.gszL l
 | []=>by simp [Pg.gnd]
 | r :: q=>by
  have h1:=bs4 hu q;have h2:=aZ1 u r (r.ways u) r.body.clsS 0;have h3:r.ways u<=2 ^ (r.arity+r.locals).toNat:=R_ hu _;have h4:r.body.clsS.length * r.ways u<=r.body.clsS.length * 2 ^ (r.arity+r.locals).toNat:=Nat.mul_le_mul_left _ h3;simp only [Pg.gnd,Pg.gszL,i_];omega
theorem Pg.gr_small {p:Pg} {u:List V} (hok:N9 p=true) (hc:∀r,r∈p.rels->r.body.clsS.length<=64) (hu:u.length<=2) (hg:Pg.gszL p.rels<=2000):p.gr u=some (Pg.gnd u p.rels):=by
 unfold Pg.gr;have hl:=bs4 hu p.rels;rw [if_pos];refine ⟨d_.2 fun r hr=>?_,by omega⟩;obtain ⟨d1,d2,d3,d4⟩:=Pg.dims hok hr;unfold Rl.gOk;rw [a_,decide_eq_true_eq,decide_eq_true_eq];refine ⟨hc r hr,?_⟩;have h3:r.ways u<=2 ^ (r.arity+r.locals).toNat:=R_ hu _;have h4:2 ^ (r.arity+r.locals).toNat<=2 ^ 12:=O_ (by decide) (by omega);omega
theorem Pg.drP_gsz {mode:Int} {p:Pg} (h:p.drP mode):Pg.gszL p.rels<=2000:=by
 have hl:p.rels.length<=3:=by
  obtain ⟨⟨k,k1,k3,hn⟩,_⟩:=h;have:=congrArg List.length hn;rw [n_,(O3 k3).2.2] at this;omega
 have hr:=h.2;have key:∀l:List Rl,(∀r,r∈l->r∈p.rels)->Pg.gszL l<=24 * l.length:=fun l=>by
  induction l with
  | nil=>intro _;simp [Pg.gszL]
  | cons r q ih =>
   intro hm;have h1:=ih (fun x hx=>hm x (by simp [hx]));obtain ⟨a1,a2,a3,a4,a5⟩:=hr r (hm r (by simp));have h2:=Gl.drB_cls a5;have h3:2 ^ (r.arity+r.locals).toNat<=2 ^ 3:=O_ (by decide) (by omega);have h4:r.body.clsS.length * 2 ^ (r.arity+r.locals).toNat<=3 * 2 ^ 3:=W_ h2 h3;simp only [Pg.gszL,c_];omega
 have:=key p.rels (fun _ h=>h);omega
def bg0 (s:List UInt8):Bool:=match aD9 s with
 | some T=>(match ppT T [] 0 [] with
  | some (rels,d)=>decide (Pg.gszL rels<=2000)
  | none=>false)
 | none=>false
theorem bU6:bg0 bf8=true:=by kernel_rfl
theorem bU5:bg0 bf7=true:=by kernel_rfl
theorem bU4:bg0 bf6=true:=by kernel_rfl
theorem bU3:bg0 bf5=true:=by kernel_rfl
theorem bq2 (k:Nat):bg0 (bw5 k)=true:=match k with
 | 0=>bU6
 | 1=>bU5
 | 2=>bU4
 | _+3=>bU3
theorem bL4 {k:Nat} {T:List (List UInt8)} {rels:List Rl} {d:Int} (hT:aD9 (bw5 k)=some T) (hp:ppT T [] 0 []=some (rels,d)):Pg.gszL rels<=2000:=by
 have h:=bq2 k;unfold bg0 at h;rw [hT] at h;dsimp only at h;rw [hp] at h;exact of_decide_eq_true h
theorem bF5 {rs:List RV}:∀{k:Nat},k<=top rs->∀j,j<k->(stg rs j).length<(stg rs k).length
 | 0,_,j,h=>absurd h (Nat.not_lt_zero _)
 | k+1,hk,j,h=>by
  have h1:=aY0 ((O8 rs).2.2 k (by omega));rcases F_ j k with e | e
  ·have:=bF5 (rs:=rs) (k:=k) (by omega) j e;omega
  ·have:j=k:=by omega
   subst this;exact h1
def Pg.made (mode:Int) (p:Pg):Prop:=p.drP mode\/∃k T d,aD9 (bw5 k)=some T/\ppT T [] 0 []=some (p.rels,d)/\p.fine mode
theorem Pg.made_fine {m:Int} {p:Pg} (h:p.made m):p.fine m:=by
 rcases h with h | ⟨k,T,d,h1,h2,h3⟩
 ·exact Pg.drP_fine h
 ·exact h3
theorem Pg.made_gsz {m:Int} {p:Pg} (h:p.made m):Pg.gszL p.rels<=2000:=by
 rcases h with h | ⟨k,T,d,h1,h2,h3⟩
 ·exact Pg.drP_gsz h
 ·exact bL4 h1 h2
def Gl.leaf (x:Gl):Prop:=x.kind≠0/\x.kind≠1/\x.kind≠7/\x.kind≠8
def cp6 (T:List (List UInt8)):Nat->Nat->List V->Option (List V×Nat)
 | 0,_,_=>none
 | n+1,i,acc=>if T[i]? = some [41] then some (acc,i+1) else match rdO false T i with
  | some (v,j)=>cp6 T n j (acc++[v])
  | none=>none
mutual
def rdP (T:List (List UInt8)):Nat->Nat->Option (Pf×Nat)
 | 0,_=>none
 | n+1,i=>if T[i]? = some [40] then (match T[i+1]? with
  | none=>none
  | some rel=>(match U3 (T[i+2]?.getD []) with
   | none=>none
   | some c=>if T[i+3]? = some [40] then (match cp6 T (T.length+1) (i+4) [] with
    | none=>none
    | some (vs,j)=>rdK T n j rel c vs []) else none)) else none
def rdK (T:List (List UInt8)):Nat->Nat->List UInt8->Int->List V->List Pf->Option (Pf×Nat)
 | 0,_,_,_,_,_=>none
 | n+1,i,rel,c,vs,acc=>if T[i]? = some [41] then some (.mk rel c (vs.map V.tm) acc,i+1) else match rdP T n i with
  | some (k,j)=>rdK T n j rel c vs (acc++[k])
  | none=>none
end
mutual
def Pf.rf:Pf->Bool
 | .mk rel _ _ ks=>decide (rel≠[40]) && (decide (rel≠[41]) && Pf.rfs ks)
def Pf.rfs:List Pf->Bool
 | []=>true
 | k :: r=>k.rf && Pf.rfs r
end
def pfI (T:List (List UInt8)):Option Pf:=match rdP T (2 * T.length+2) 0 with
 | some (pr,j)=>if j=T.length then some pr else none
 | none=>none
def ppI (p:Pg) (s:List UInt8):Option Pf:=match aD9 s with
 | some T=>(match pfI T with | some pr=>if p.prfOk pr=true then some pr else none | none=>none)
 | none=>none
theorem av4 {u:List V} (h:1<=u.length):∀(n:Nat) (x:List V),x.length=n->(∀v,v∈x->v∈u)->∃k,k<u.length ^ n/\G6 u n k=x
 | 0,x,h1,_=>⟨0,by simp,by rw [u_ h1];rfl⟩
 | n+1,[],h1,_=>by simp at h1
 | n+1,v :: r,h1,h2=>by
  obtain ⟨k,hk,hg⟩:=av4 h n r (by simpa using h1) (fun w hw=>h2 w (by simp [hw]));obtain ⟨i,hi⟩:=G_ (h2 v (by simp));have hil:=(e_.1 hi).1;have e1:(i+u.length * k) % u.length=i:=by rw [Nat.add_mul_mod_self_left,Nat.mod_eq_of_lt hil]
  have e2:(i+u.length * k) / u.length=k:=by rw [Nat.add_mul_div_left _ _ (by omega),Nat.div_eq_of_lt hil,Nat.zero_add]
  refine ⟨i+u.length * k,?_,?_⟩
  ·have h3:u.length * (k+1)<=u.length * u.length ^ n:=Nat.mul_le_mul_left _ hk
   rw [ad_,Nat.mul_comm (u.length ^ n)];rw [Nat.mul_add] at h3;omega
  ·rw [G6,e1,e2,hg,I_,hi];rfl
def nF (u:List V):List Rl->Nat
 | []=>0
 | r :: q=>min (I7 u.length 2000 r.arity.toNat 1) 2001+nF u q
theorem ba1 {p:Pg}:∀(l:List Rl),p.okL l=true->l.length<=p.rels.length->∀(i:Nat) (r:Rl),l[i]? = some r->p.relOk (p.rels.length - l.length+i) r=true
 | [],_,_,i,r,hr=>by simp at hr
 | x :: q,ho,hl,i,r,hr=>by
  simp only [Pg.okL,a_] at ho;simp only [c_] at hl |-;match i with
  | 0=>simp at hr;subst hr;exact ho.1
  | i+1 =>
   have:=ba1 q ho.2 (by omega) i r (by simpa using hr);rw [show p.rels.length - (q.length+1)+(i+1)=p.rels.length - q.length+i by omega];exact this
namespace V
def leaf (v:V):Prop:=v.kind≠4/\v.kind≠0
end V
theorem ct1 {v:V} (h:v.ok=true):v.tm.V=v/\v.fine=true:=by
 have hf:v.fine=true:=by simp [V.ok] at h;exact h.1
 exact ⟨by simp [Tm.V,V.v?_tm v hf],hf⟩
def hN (rs:List RV) (f:FcV):Nat:=(hgt rs f).toNat
def rlF (rs:List RV) (f:FcV):Option RV:=rs.find? fun r=>decide (r.head=f) && r.pos.all fun k=>decide (k∈stg rs (hN rs f - 1))
def prT (rs:List RV):Nat->FcV->Pf
 | 0,f=>.mk f.1 0 [] []
 | n+1,f=>match rlF rs f with
  | some r=>.mk f.1 r.clause (r.values.map V.tm) (r.pos.map (prT rs n))
  | none=>.mk f.1 0 [] []
def aG7 (b:FcV->Int->Option Pf):List FcV->Int->List Pf->Option (List Pf)
 | [],_,acc=>some acc
 | k :: r,left,acc=>match b k left with
  | some t=>aG7 b r (left - t.countF 200) (acc++[t])
  | none=>none
def bb9 (rs:List RV):Nat->FcV->Int->Option Pf
 | 0,_,_=>none
 | n+1,f,most=>if hgt rs f<1\/most<1 then none else match rlF rs f with
  | some r=>(match aG7 (bb9 rs n) r.pos (most - 1) [] with
   | some ks=>some (.mk f.1 r.clause (r.values.map V.tm) ks)
   | none=>none)
  | none=>none
theorem ba2 {b:FcV->Int->Option Pf} {T:FcV->Pf}:∀(l:List FcV) (left:Int) (acc:List Pf),left<=200->(∀k,k∈l->∀m:Int,m<=200->b k m=if ((T k).cnt:Int)<=m then some (T k) else none) ->
  aG7 b l left acc=if 0<=left/\(Pf.cnts (l.map T):Int)<=left\/l=[] then some (acc++l.map T) else none
 | [],left,acc,_,_=>by simp [aG7]
 | k :: l,left,acc,h,hb=>by
  rw [aG7,hb k (by simp) left h];have hp:=Pf.cnt_pos (T k);simp only [h_,Pf.cnts];by_cases hc:((T k).cnt:Int)<=left
  ·rw [if_pos hc]
   dsimp only;have h4:=(Pf.count_spec (T k) 200).2.2.1 (by omega);rw [h4,ba2 l _ _ (by omega) (fun x hx=>hb x (by simp [hx]))];by_cases hl:l=[]
   ·subst hl
    rw [if_pos (.inr rfl),if_pos (.inl ⟨by omega,by simp [Pf.cnts];omega⟩)];simp
   ·by_cases h2:(Pf.cnts (l.map T):Int)<=left - (T k).cnt
    ·rw [if_pos (.inl ⟨by omega,h2⟩),if_pos (.inl ⟨by omega,by omega⟩)]
     simp
    ·rw [if_neg (fun h=>h.elim (fun h=>h2 h.2) hl),if_neg (fun h=>h.elim (fun h=>by omega) (fun h=>by cases h))]
  ·rw [if_neg hc,if_neg (fun h=>h.elim (fun h=>by omega) (fun h=>by cases h))]
theorem bR9 {rs:List RV} {n:Nat} {f:FcV} (hf:f∈stg rs n):f∈stg rs (top rs):=by
 rw [<-bm9] at hf;exact bn0 rs (Nat.min_le_right _ _) f hf
theorem M6 {rs:List RV} {f:FcV} (hf:f∈stg rs (top rs)):∃j,hgt rs f=(j+1:Nat)/\hN rs f=j+1/\j+1<=top rs/\f∈stg rs (j+1)/\∀k,f∈stg rs k->j+1<=k:=by
 obtain ⟨k1,k2,k3⟩:=ah4 (p:=fun k=>decide (f∈stg rs k)) (n:=top rs+1);have e:hgt rs f=(aK4 (fun k=>decide (f∈stg rs k)) (top rs+1):Int):=by unfold hgt;rw [if_pos hf]
 unfold hN;rw [e];generalize aK4 (fun k=>decide (f∈stg rs k)) (top rs+1)=j at k1 k2 k3;have hmin:∀k,f∈stg rs k->j<=k:=fun k hk=>by
  rcases F_ k j with e | e
  ·have:=k2 k e
   simp only [decide_eq_false_iff_not] at this;exact absurd hk this
  ·exact e
 have hjt:=hmin _ hf;have hin:f∈stg rs j:=of_decide_eq_true (k3 (by omega));cases j with
 | zero=>simp [stg] at hin
 | succ j=>exact ⟨j,rfl,rfl,hjt,hin,hmin⟩
theorem aH6 {rs:List RV} {f:FcV} (hf:f∉stg rs (top rs)):hgt rs f=-1:=by unfold hgt;rw [if_neg hf]
theorem ah9 {rs:List RV} {f:FcV} (hf:f∈stg rs (top rs)):∃r,rlF rs f=some r/\r∈rs/\r.head=f/\∀k,k∈r.pos->k∈stg rs (top rs)/\hN rs k+1<=hN rs f/\k∈stg rs (hN rs f - 1):=by
 obtain ⟨j,_,h2,_,h4,_⟩:=M6 hf;have h5:f∈R7 rs (stg rs j) []:=h4;obtain ⟨r0,r1,r2,r3⟩:=aa4.1 h5;unfold RV.fires at r2;simp only [a_] at r2;have hex:(rlF rs f).isSome=true:=by
  unfold rlF;rw [List.find?_isSome];refine ⟨r0,r1,?_⟩;rw [h2,a_,decide_eq_true_eq];exact ⟨r3,r2.1⟩
 obtain ⟨r,hr⟩:=V_.1 hex;have hp:=List.find?_some hr;have hm:=List.mem_of_find?_eq_some hr;simp only [a_,decide_eq_true_eq,d_] at hp;refine ⟨r,hr,hm,hp.1,fun k hk=>?_⟩;have h6:=hp.2 k hk;have h7:=bR9 h6;obtain ⟨i,_,i2,_,_,i5⟩:=M6 h7;have:=i5 _ h6;exact ⟨h7,by omega,h6⟩
theorem aW6 (rs:List RV):∀(n:Nat) (f:FcV) (m:Int),f∈stg rs (top rs)->hN rs f<=n->m<=200->bb9 rs n f m=if ((prT rs n f).cnt:Int)<=m then some (prT rs n f) else none
 | 0,f,m,hf,h,_=>by obtain ⟨j,_,h2,_⟩:=M6 hf;omega
 | n + 1,f,m,hf,h,hm=>by
  obtain ⟨j,h1,_⟩:=M6 hf;obtain ⟨r,r1,_,_,r4⟩:=ah9 hf;have hp:=Pf.cnt_pos (prT rs (n+1) f);rw [bb9,r1];by_cases hc:hgt rs f<1\/m<1
  ·rw [if_pos hc,if_neg (by omega)]
  ·rw [if_neg hc]
   dsimp only;rw [ba2 (T:=prT rs n) r.pos (m - 1) [] (by omega) (fun k hk x hx=>by
    have:=r4 k hk;exact aW6 rs n k x this.1 (by omega) hx)]
   have e:prT rs (n+1) f=.mk f.1 r.clause (r.values.map V.tm) (r.pos.map (prT rs n)):=by rw [prT,r1]
   have hcn:(prT rs (n+1) f).cnt=1+Pf.cnts (r.pos.map (prT rs n)):=by rw [e];simp only [Pf.cnt]
   by_cases h2:0<=m - 1/\(Pf.cnts (r.pos.map (prT rs n)):Int)<=m - 1\/r.pos=[]
   ·rw [if_pos h2,if_pos (by
     rcases h2 with h2 | h2
     ·omega
     ·rw [hcn,h2];simp only [x_,Pf.cnts];omega),e]
    rfl
   ·rw [if_neg h2,if_neg (fun h3=>h2 (.inl ⟨by omega,by omega⟩))]
theorem bE1 (rs:List RV) (n:Nat) (f:FcV) (m:Int) (hf:f∉stg rs (top rs)):bb9 rs n f m=none:=by
 cases n with
 | zero=>rfl
 | succ n=>rw [bb9,if_pos (.inl (by rw [aH6 hf];omega))]
def prF (rs:List RV) (f:FcV):Pf:=prT rs (top rs) f
def bK0 (rs:List RV) (f:FcV):Option Pf:=if f∈stg rs (top rs)/\(prF rs f).cnt<=200 then some (prF rs f) else none
theorem bE0 (rs:List RV) (f:FcV):bb9 rs (top rs) f 200=bK0 rs f:=by
 unfold bK0;by_cases hf:f∈stg rs (top rs)
 ·obtain ⟨j,_,h2,h3,_⟩:=M6 hf
  rw [aW6 rs _ f 200 hf (by omega) (by omega)];unfold prF;by_cases h:(prT rs (top rs) f).cnt<=200
  ·rw [if_pos (by omega),if_pos ⟨hf,h⟩]
  ·rw [if_neg (by omega),if_neg (fun x=>h x.2)]
 ·rw [bE1 rs _ f _ hf,if_neg (fun x=>hf x.1)]
theorem bG0 {rs:List RV} (hv:∀r,r∈rs->wtR (r.values.map V.enc)<=2000000/\r.head.1.length<=12):∀(n:Nat) (f:FcV),f∈stg rs (top rs)->hN rs f<=n->1+wtL (prT rs n f).enc<=(prT rs n f).cnt * 2000020
 | 0,f,hf,h=>by obtain ⟨j,_,h2,_⟩:=M6 hf;omega
 | n+1,f,hf,h=>by
  obtain ⟨r,r1,r2,r3,r4⟩:=ah9 hf;have h1:=hv r r2;rw [r3] at h1;rw [prT,r1];dsimp only;have key:∀l:List FcV,(∀k,k∈l->k∈r.pos)->wtR ((l.map (prT rs n)).map Pf.enc)<=Pf.cnts (l.map (prT rs n)) * 2000020:=fun l=>by
   induction l with
   | nil=>intro _;simp [wtR,Pf.cnts]
   | cons k l ih =>
    intro hl;have a1:=ih (fun x hx=>hl x (by simp [hx]));have a2:=r4 k (hl k (by simp));have a3:=bG0 hv n k a2.1 (by omega);simp only [h_,wtR,Pf.cnts];omega
  have h2:=key r.pos (fun k hk=>hk);have e:wtR ((r.values.map V.tm).map Tm.enc)=wtR (r.values.map V.enc):=by rw [aa_];rfl
  rw [Pf.enc_eq];simp only [Pf.rel,Pf.clause,Pf.values,Pf.kids,wtL,D.wt,Pf.cnt,e];omega
def bZ8 (rs:List RV):Prop:=∀r,r∈rs->wtR (r.values.map V.enc)<=2000000/\r.head.1.length<=12/\r.pos.length<=60/\r.values.length<=12
theorem bZ8.w {rs:List RV} (h:bZ8 rs):∀r,r∈rs->wtR (r.values.map V.enc)<=2000000/\r.head.1.length<=12:=fun r hr=>⟨(h r hr).1,(h r hr).2.1⟩
def rlP (rs:List RV) (f:FcV) (r:RV):Bool:=decide (r.head=f) && r.pos.all fun k=>decide (k∈stg rs (hN rs f - 1))
theorem bS6 (rs:List RV) (f:FcV):rlF rs f=rs.find? (rlP rs f):=rfl
theorem aP4 (r:RV) (F:List FcV):r.fires F []=r.pos.all fun k=>decide (k∈F):=by
 unfold RV.fires;have:(r.neg.all fun f=>!decide (f∈([]:List FcV)))=true:=by simp
 rw [this,Z_]
mutual
def Pf.hei:Pf->Nat
 | .mk _ _ _ ks=>Pf.heis ks 0+1
def Pf.heis:List Pf->Nat->Nat
 | [],h=>h
 | k :: r,h=>Pf.heis r (max h k.hei)
end
theorem Pf.hei_eq (t:Pf):t.hei=Pf.heis t.kids 0+1:=by cases t;simp only [Pf.hei,Pf.kids]
theorem Pf.heis_spec:∀(l:List Pf) (h:Nat),h<=Pf.heis l h/\(∀k,k∈l->k.hei<=Pf.heis l h)/\∀m,h<=m->(∀k,k∈l->k.hei<=m)->Pf.heis l h<=m
 | [],h=>by simp only [Pf.heis];exact ⟨k_ _,fun k hk=>(by cases hk),fun m hm _=>hm⟩
 | x :: r,h=>by
  obtain ⟨h1,h2,h3⟩:=Pf.heis_spec r (max h x.hei);simp only [Pf.heis];refine ⟨by omega,fun k hk=>?_,fun m hm hk=>h3 m (by have:=hk x (by simp);omega) (fun k h=>hk k (by simp [h]))⟩;rcases b_.1 hk with rfl | hk
  ·omega
  ·exact h2 k hk
theorem Pf.hei_kid {t k:Pf} (h:k∈t.kids):k.hei+1<=t.hei:=by
 have:=(Pf.heis_spec t.kids 0).2.1 k h;rw [Pf.hei_eq t];omega
theorem Pf.mea_hei:∀(t:Pf) (c:Int),0<=c->c+t.cnt<=200->(t.mea c).1=t.hei:=by
 intro t;induction t using Pf.ind' with
 | h t ih =>
  have key:∀(l:List Pf),(∀x,x∈l->x∈t.kids)->∀(h:Nat) (c:Int),0<=c->c+Pf.cnts l<=200->(Pf.meas l h c).1=(Pf.heis l h:Int)+1:=fun l=>by
   induction l with
   | nil=>intro _ h c _ _;simp [Pf.meas,Pf.heis]
   | cons k r ihl =>
    intro hl h c h0 hc;simp only [Pf.cnts] at hc;have hk:=ih k (hl k (by simp)) c h0 (by omega);have hs:=Pf.mea_spec k c;simp only [Pf.meas,Pf.heis];rw [if_neg (by omega),hk];have hmx:bp7 (h:Int) (k.hei:Int)=((max h k.hei:Nat):Int):=by unfold bp7;split<;>omega
    rw [hmx];exact ihl (fun x hx=>hl x (by simp [hx])) _ _ (by omega) (by have:=hs.2.2.2.2.1 (by omega);omega)
  intro c h0 hc;rw [Pf.cnt_eq] at hc;rw [Pf.mea_eq,Pf.hei_eq];have:=key t.kids (fun _ h=>h) 0 (c+1) (by omega) (by omega);simpa using this
mutual
def Pf.inU (u:List V):Pf->Prop
 | .mk r _ vs ks=>r.length<=12/\vs.length<=12/\(∀v,v∈vs->∃x,x∈u/\v=x.tm)/\Pf.inUs u ks
def Pf.inUs (u:List V):List Pf->Prop
 | []=>True
 | k :: r=>k.inU u/\Pf.inUs u r
end
theorem Pf.inUs_iff {u:List V}:∀{l:List Pf},Pf.inUs u l↔∀k,k∈l->k.inU u
 | []=>by simp [Pf.inUs]
 | x :: r=>by
  have ih:=Pf.inUs_iff (u:=u) (l:=r);simp only [Pf.inUs,ih,b_,forall_eq_or_imp]
theorem Pf.inU_iff {u:List V} {t:Pf}:t.inU u↔t.rel.length<=12/\t.values.length<=12/\(∀v,v∈t.values->∃x,x∈u/\v=x.tm)/\∀k,k∈t.kids->k.inU u:=by
 cases t;simp only [Pf.inU,Pf.inUs_iff,Pf.rel,Pf.values,Pf.kids]
theorem Pf.inU_wt {u:List V} (hu:∀v,v∈u->wtL v.enc<=112):∀t:Pf,t.inU u->wtL t.enc+1<=t.cnt * 1500:=by
 intro t;induction t using Pf.ind' with
 | h t ih =>
  intro h;obtain ⟨h1,h2,h3,h4⟩:=Pf.inU_iff.1 h;have hv:∀l:List Tm,(∀v,v∈l->∃x,x∈u/\v=x.tm)->wtR (l.map Tm.enc)<=113 * l.length:=fun l=>by
   induction l with
   | nil=>intro _;simp [wtR]
   | cons v r ihv =>
    intro hl;have a:=ihv (fun x hx=>hl x (by simp [hx]));obtain ⟨x,hx,rfl⟩:=hl v (by simp);have b:=hu x hx;have e:x.tm.enc=x.enc:=rfl;simp only [h_,wtR,c_,e];omega
  have hk:∀l:List Pf,(∀k,k∈l->k∈t.kids)->wtR (l.map Pf.enc)<=Pf.cnts l * 1500:=fun l=>by
   induction l with
   | nil=>intro _;simp [wtR,Pf.cnts]
   | cons k r ihk =>
    intro hl;have a:=ihk (fun x hx=>hl x (by simp [hx]));have b:=ih k (hl k (by simp)) (h4 k (hl k (by simp)));simp only [h_,wtR,Pf.cnts];omega
  have a:=hv t.values h3;have b:=hk t.kids (fun _ h=>h);rw [Pf.enc_eq t,Pf.cnt_eq t];simp only [wtL,D.wt];omega
theorem bo9 {rs:List RV} {u:List V} (hv:∀r,r∈rs->r.head.1.length<=12/\r.values.length<=12/\∀v,v∈r.values->v∈u):∀(n:Nat) (f:FcV),f∈stg rs (top rs)->hN rs f<=n->(prT rs n f).inU u/\(prT rs n f).hei<=hN rs f
 | 0,f,hf,h=>by obtain ⟨j,_,h2,_⟩:=M6 hf;omega
 | n+1,f,hf,h=>by
  obtain ⟨r,r1,r2,r3,r4⟩:=ah9 hf;obtain ⟨v1,v2,v3⟩:=hv r r2;rw [r3] at v1;rw [prT,r1];dsimp only;have hk:∀k,k∈r.pos.map (prT rs n)->k.inU u/\k.hei+1<=hN rs f:=fun k hk=>by
   obtain ⟨g,hg,rfl⟩:=g_.1 hk;have a:=r4 g hg;have b:=bo9 hv n g a.1 (by omega);exact ⟨b.1,by omega⟩
  obtain ⟨j,_,h2,_⟩:=M6 hf;refine ⟨Pf.inU_iff.2 ⟨v1,by simpa [Pf.values] using v2,fun v hvm=>?_,fun k hkm=>(hk k hkm).1⟩,?_⟩
  ·obtain ⟨x,hx,rfl⟩:=g_.1 hvm
   exact ⟨x,v3 x hx,rfl⟩
  ·rw [Pf.hei_eq]
   have:=(Pf.heis_spec (r.pos.map (prT rs n)) 0).2.2 (hN rs f - 1) (by omega) (fun k h=>by have:=(hk k h).2;omega);show Pf.heis (r.pos.map (prT rs n)) 0+1<=_;omega
theorem aY9 {u:List V} {x:Rl} {i:Int} {c:List Gl}:∀(m k w:Nat),k<=w->w<k+m->Z4 u c (G6 u (x.arity+x.locals).toNat w)=true->aL0 x i c (G6 u (x.arity+x.locals).toNat w)∈aJ0 u x i c k m
 | 0,k,w,h1,h2,_=>by omega
 | m+1,k,w,h1,h2,h3=>by
  rw [aY6,r_];by_cases e:w=k
  ·subst e
   exact .inl (by unfold rvK;rw [if_pos h3];simp)
  ·exact .inr (aY9 m (k+1) w (by omega) (by omega) h3)
theorem aZ2 {u:List V} {x:Rl} {n:Nat} {r:RV}:∀(cs:List (List Gl)) (i:Int) (j:Nat) (c:List Gl),cs[j]? = some c->r∈aJ0 u x (i+j) c 0 n->r∈as1 u x n i cs
 | [],i,j,c,h,_=>by simp at h
 | d :: cs,i,0,c,h,hr=>by
  simp at h;subst h;rw [aK9,r_];exact .inl (by simpa using hr)
 | d :: cs,i,j+1,c,h,hr=>by
  rw [aK9,r_];refine .inr (aZ2 cs (i+1) j c (by simpa using h) ?_);rw [show i+1+(j:Int)=i+((j+1:Nat):Int) by omega];exact hr
theorem bs5 {u:List V} {r:RV} {x:Rl}:∀rels:List Rl,x∈rels->r∈as1 u x (x.ways u) 0 x.body.clsS->r∈Pg.gnd u rels
 | y :: q,h,hr=>by
  rw [show Pg.gnd u (y :: q)=as1 u y (y.ways u) 0 y.body.clsS++Pg.gnd u q from rfl,r_];rcases b_.1 h with rfl | h
  ·exact .inl hr
  ·exact .inr (bs5 q h hr)
theorem FcV.eq_of {a b:FcV} (h:a.eq b=true):a=b:=(FcV.cmp_lin.zero a b).1 (by unfold FcV.eq at h;exact of_decide_eq_true h)
theorem Z0 {f:Int->V}:∀{c:List Gl} {ks:List (Bool×FcV)},J6 f c ks=true->u7 f c=ks.map (·.2)/\r9 f c=[]/\q8 f c=true/\∀k,k∈ks->k.1=true
 | [],ks,h=>by
  simp only [J6,List.isEmpty_iff] at h;subst h;simp [u7,r9,q8]
 | g :: r,ks,h=>by
  simp only [J6] at h;by_cases h10:g.kind=10
  ·rw [if_pos h10] at h;cases h
  ·rw [if_neg h10] at h
   by_cases h9:g.kind=9
   ·rw [if_pos h9] at h
    cases ks with
    | nil=>cases h
    | cons k ks =>
     simp only [a_] at h;obtain ⟨i1,i2,i3,i4⟩:=Z0 h.2;have e:=FcV.eq_of h.1.2;refine ⟨?_,?_,?_,fun x hx=>?_⟩
     ·rw [h_,<-i1,e]
      simp [u7,h9]
     ·simpa [r9,h9] using i2
     ·have e2:q8 f (g :: r)=((decide (g.kind=9) || decide (g.kind=10) || g.testV f) && q8 f r):=rfl
      rw [e2,i3,decide_eq_true h9];rfl
     ·rcases b_.1 hx with rfl | hx
      ·exact h.1.1
      ·exact i4 x hx
   ·rw [if_neg h9] at h
    simp only [a_] at h;obtain ⟨i1,i2,i3,i4⟩:=Z0 h.2;refine ⟨?_,?_,?_,i4⟩
    ·rw [<-i1];simp [u7,h9]
    ·simpa [r9,h10] using i2
    ·have e2:q8 f (g :: r)=((decide (g.kind=9) || decide (g.kind=10) || g.testV f) && q8 f r):=rfl
     rw [e2,i3,h.1,Bool.or_true];rfl
theorem ba8:∀(l:List Rl) (s:List UInt8) (i:Int) (r:Rl),i<=V4 l s i->0<=i->l[(V4 l s i - i).toNat]? = some r->r.name=s
 | [],s,i,r,h,h0,_=>by simp only [V4] at h;omega
 | x :: q,s,i,r,h,h0,hr=>by
  simp only [V4] at h hr;by_cases hn:x.name=s
  ·rw [if_pos hn,show (i - i).toNat=0 by omega] at hr
   simp at hr;subst hr;exact hn
  ·rw [if_neg hn] at h hr
   rcases af9 q s (i+1) with h1 | h1
   ·omega
   ·rw [show (V4 q s (i+1) - i).toNat=(V4 q s (i+1) - (i+1)).toNat+1 by omega,D_] at hr
    exact ba8 q s (i+1) r h1.1 (by omega) hr
theorem Pg.find_nm {p:Pg} {s:List UInt8} {r:Rl} (h:0<=p.find s) (hr:p.rels[(p.find s).toNat]? = some r):r.name=s:=by
 unfold Pg.find at h hr;exact ba8 p.rels s 0 r h (Int.le_refl _) (by rw [Int.sub_zero];exact hr)
theorem Pg.prf_kid {p:Pg} {t k:Pf} (h:p.prf t=true) (hk:k∈t.kids):p.prf k=true:=by
 rw [Pg.prf_eq] at h;unfold Pg.prfAt at h;simp only [a_] at h;obtain ⟨_,h1⟩:=h;split at h1
 ·cases h1
 ·simp only [a_] at h1
  obtain ⟨_,_,_,_,h2⟩:=h1;split at h2
  ·cases h2
  ·exact (Z0 h2).2.2.2 (p.prf k,p.headV k.rel k.values) (by rw [Pg.prfs_eq];exact g_.2 ⟨k,hk,rfl⟩)
theorem Pf.cnt_kid {t k:Pf} (hk:k∈t.kids):k.cnt+1<=t.cnt:=by
 have key:∀l:List Pf,k∈l->k.cnt<=Pf.cnts l:=fun l=>by
  induction l with
  | nil=>intro h;cases h
  | cons x r ih =>
   intro h;simp only [Pf.cnts];rcases b_.1 h with rfl | h
   ·omega
   ·have:=ih h;omega
 have:=key t.kids hk;rw [Pf.cnt_eq t];omega
theorem bo8 {p:Pg} {u:List V} {rs:List RV} (hu:Uni u) (hg:p.gr u=some rs):∀t:Pf,p.prf t=true->t.inU u->p.headV t.rel t.values∈stg rs t.hei:=by
 have hrs:rs=Pg.gnd u p.rels:=by
  unfold Pg.gr at hg;split at hg
  ·exact (Option.some.inj hg).symm
  ·cases hg
 intro t;induction t using Pf.ind' with
 | h t ih =>
  intro h hin;obtain ⟨i1,i2,i3,i4⟩:=Pf.inU_iff.1 hin;obtain ⟨h0,r,hr,hlen,hgr,hhd⟩:=Pg.prf_head h;have hnm:=Pg.find_nm h0 hr;have hkv:=fun k hk=>Pg.prf_kid (k:=k) h hk;rw [Pg.prf_eq,Pg.prfAt_at h0 hr] at h;simp only [a_,decide_eq_true_eq] at h;obtain ⟨_,_,_,hc0,hc⟩:=h;split at hc
  ·cases hc
  rename_i c hcc;have hU:∀l:List Tm,(∀v,v∈l->∃x,x∈u/\v=x.tm)->∀v,v∈l.map Tm.V->v∈u:=fun l hl v hv=>by
   obtain ⟨w,hw,rfl⟩:=g_.1 hv;obtain ⟨x,hx,rfl⟩:=hl w hw;rw [(ct1 (hu.ok x hx)).1];exact hx
  have hvu:=hU t.values i3;obtain ⟨q1,q2,q3,q4⟩:=Z0 hc;rw [Pg.prfs_eq,aa_] at q1;obtain ⟨w,hw1,hw2⟩:=av4 hu.pos (r.arity+r.locals).toNat (t.values.map Tm.V) (by rw [n_];omega) hvu;have hm:∀f,f∈u7 (o6 (t.values.map Tm.V)) c->∃k,k∈t.kids/\f=p.headV k.rel k.values:=fun f hf=>by
   rw [q1] at hf;obtain ⟨k,hk,rfl⟩:=g_.1 hf;exact ⟨k,hk,rfl⟩
  have hfine:Z4 u c (G6 u (r.arity+r.locals).toNat w)=true:=by
   rw [hw2];unfold Z4;rw [q3,q2,p_,a_];refine ⟨d_.2 fun f hf=>?_,rfl⟩;obtain ⟨k,hk,rfl⟩:=hm f hf;obtain ⟨_,rk,hrk,_,_,hhk⟩:=Pg.prf_head (hkv k hk);rw [hhk];refine d_.2 fun v hv=>decide_eq_true ?_;exact hU k.values (Pf.inU_iff.1 (i4 k hk)).2.2.1 v (List.mem_of_mem_take hv)
  have hrm:aL0 r t.clause c (t.values.map Tm.V)∈rs:=by
   rw [hrs];refine bs5 p.rels (q_ hr) (aZ2 _ 0 t.clause.toNat c hcc ?_);rw [show (0:Int)+(t.clause.toNat:Int)=t.clause by omega];have:=aY9 (u:=u) (x:=r) (i:=t.clause) (c:=c) (r.ways u) 0 w (Nat.zero_le _) (by rw [Nat.zero_add];exact hw1) hfine;rw [hw2] at this;exact this
  rw [Pf.hei_eq,hhd];show _∈R7 rs (stg rs (Pf.heis t.kids 0)) [];refine aa4.2 ⟨_,hrm,?_,?_⟩
  ·rw [aP4]
   refine d_.2 fun f hf=>decide_eq_true ?_;obtain ⟨k,hk,rfl⟩:=hm f hf;exact bn0 rs ((Pf.heis_spec t.kids 0).2.1 k hk) _ (ih k hk (hkv k hk) (i4 k hk))
  ·show (r.name,_)=_
   rw [hnm]
def Pg.arL:List Rl->Nat
 | []=>0
 | r :: q=>2 ^ r.arity.toNat+Pg.arL q
def bi6 (u:List V) (rels:List Rl):List FcV:=rels.flatMap fun x=>(List.range (u.length ^ x.arity.toNat)).map fun k=>(x.name,G6 u x.arity.toNat k)
theorem aP6 {u:List V} (hu:u.length<=2):∀rels:List Rl,(bi6 u rels).length<=Pg.arL rels
 | []=>by simp [bi6]
 | r :: q=>by
  have h1:=aP6 hu q;have h2:u.length ^ r.arity.toNat<=2 ^ r.arity.toNat:=R_ hu _;unfold bi6 at h1 |-;rw [m_,i_,n_,List.length_range];simp only [Pg.arL];omega
theorem bI5 {p:Pg} {u:List V} {rs:List RV} (hp:N9 p=true) (hl:u.length<=2) (hu:Uni u) (hh:∀r,r∈rs->∃x,x∈p.rels/\r.head.1=x.name/\(r.head.2.length:Int)=x.arity/\∀v,v∈r.head.2->v∈u):top rs<=Pg.arL p.rels:=by
 have h1:top rs<=(stg rs (top rs)).length:=by
  have key:∀k,k<=top rs->k<=(stg rs k).length:=fun k=>by
   induction k with
   | zero=>intro _;exact Nat.zero_le _
   | succ k ih =>
    intro hk;have a:=ih (by omega);have b:=bF5 hk k (Nat.lt_succ_self k);omega
  exact key _ (k_ _)
 have h2:∀f,f∈stg rs (top rs)->f∈al2 FcV.cmp (bi6 u p.rels):=fun f hf=>by
  rw [ar5 FcV.cmp_lin];obtain ⟨r,_,r2,r3,_⟩:=ah9 hf;obtain ⟨x,hx,e1,e2,e3⟩:=hh r r2;rw [r3] at e1 e2 e3;obtain ⟨w,w1,w2⟩:=av4 hu.pos x.arity.toNat f.2 (by omega) e3;refine l_.2 ⟨x,hx,g_.2 ⟨w,List.mem_range.2 w1,?_⟩⟩;rw [w2,<-e1]
 have h3:=(ak0 FcV.cmp_lin _ _ (al0 rs (top rs)) (ah6 FcV.cmp_lin (bi6 u p.rels)) h2).1;have h4:=ar6 (c:=FcV.cmp) (bi6 u p.rels);have h5:=aP6 hl p.rels;omega
def bg1 (s:List UInt8):Bool:=match aD9 s with
 | some T=>(match ppT T [] 0 [] with
  | some (rels,d)=>decide (Pg.arL rels<=99)
  | none=>false)
 | none=>false
theorem bV0:bg1 bf8=true:=by kernel_rfl
theorem bU9:bg1 bf7=true:=by kernel_rfl
theorem bU8:bg1 bf6=true:=by kernel_rfl
theorem bU7:bg1 bf5=true:=by kernel_rfl
theorem bq3 (k:Nat):bg1 (bw5 k)=true:=match k with
 | 0=>bV0
 | 1=>bU9
 | 2=>bU8
 | _+3=>bU7
theorem Pg.made_arL {m:Int} {p:Pg} (h:p.made m):Pg.arL p.rels<=99:=by
 rcases h with h | ⟨k,T,d,h1,h2,_⟩
 ·have hl:p.rels.length<=3:=by
   obtain ⟨⟨k,k1,k3,hn⟩,_⟩:=h;have:=congrArg List.length hn;rw [n_,(O3 k3).2.2] at this;omega
  have key:∀l:List Rl,(∀r,r∈l->r∈p.rels)->Pg.arL l<=4 * l.length:=fun l=>by
   induction l with
   | nil=>intro _;simp [Pg.arL]
   | cons r q ih =>
    intro hm;have a:=ih (fun x hx=>hm x (by simp [hx]));obtain ⟨a1,a2,_⟩:=h.2 r (hm r (by simp));have b:2 ^ r.arity.toNat<=2 ^ 2:=O_ (by decide) (by omega);simp only [Pg.arL,c_];omega
  have:=key p.rels (fun _ h=>h);omega
 ·have h:=bq3 k
  unfold bg1 at h;rw [h1] at h;dsimp only at h;rw [h2] at h;exact of_decide_eq_true h
structure PfMade (u:List V) (t:Pf):Prop where
 inU:t.inU u
 cnt:t.cnt<=200
 hei:t.hei<=100
theorem PfMade.cl {u:List V} {t:Pf} (h:PfMade u t) (c:Int):PfMade u (.mk t.rel c t.values t.kids):=by
 obtain ⟨h1,h2,h3⟩:=h;cases t;simp only [Pf.rel,Pf.values,Pf.kids,Pf.inU,Pf.cnt,Pf.hei] at h1 h2 h3 |-;exact ⟨by simp only [Pf.inU];exact h1,by simp only [Pf.cnt];exact h2,by simp only [Pf.hei];exact h3⟩
theorem PfMade.val {u:List V} {t:Pf} (h:PfMade u t) (i:Nat) {x:V} (hx:x∈u):PfMade u (.mk t.rel t.clause (t.values.set i x.tm) t.kids):=by
 obtain ⟨h1,h2,h3⟩:=h;cases t;simp only [Pf.rel,Pf.values,Pf.kids,Pf.clause,Pf.inU,Pf.cnt,Pf.hei] at h1 h2 h3 |-;obtain ⟨a1,a2,a3,a4⟩:=h1;refine ⟨?_,by simp only [Pf.cnt];exact h2,by simp only [Pf.hei];exact h3⟩;simp only [Pf.inU];refine ⟨a1,by rw [List.length_set];exact a2,fun v hv=>?_,a4⟩;rcases List.mem_or_eq_of_mem_set hv with hv | rfl
 ·exact a3 v hv
 ·exact ⟨x,hx,rfl⟩
theorem PfMade.kid {u:List V} {t k:Pf} {r:List Pf} (h:PfMade u t) (hk:t.kids=k :: r) (c:Int):PfMade u (.mk t.rel t.clause t.values (.mk k.rel c k.values k.kids :: r)):=by
 obtain ⟨h1,h2,h3⟩:=h;cases t with
 | mk a b vs ks =>
  simp only [Pf.kids] at hk;subst hk;cases k with
  | mk ka kb kvs kks =>
   simp only [Pf.rel,Pf.values,Pf.kids,Pf.clause,Pf.inU,Pf.cnt,Pf.hei,Pf.inUs,Pf.cnts,Pf.heis] at h1 h2 h3 |-;exact ⟨by simp only [Pf.inU,Pf.inUs];exact h1,by simp only [Pf.cnt,Pf.cnts];exact h2,by simp only [Pf.hei,Pf.heis];exact h3⟩
end Go.Abs
