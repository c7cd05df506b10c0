import Derived.Test.YtehgpkadkdekmaaGreatDoorJ11
import Derived.Lib.ItoaLen
import Derived.Lib.AtoiAllCases
import Derived.KernelRfl
open Bool renaming and_eq_true->a_,true_and->t_,and_self->C_,eq_iff_iff->H_,or_eq_true->Q_,or_eq_false_iff->U_,and_true->ah_,beq_eq_decide_eq->am_,and_eq_false_imp->an_
open List renaming length_cons->b_,all_eq_true->c_,mem_cons->d_,map_cons->e_,getElem?_eq_some_iff->f_,length_append->g_,pairwise_cons->h_,mem_map->i_,cons_append->k_,flatMap_cons->l_,getElem?_eq_getElem->m_,mem_append->n_,length_map->o_,mem_of_getElem?->p_,length_nil->q_,mem_flatMap->r_,sum_cons->s_,map_nil->u_,foldl_cons->v_,map_congr_left->w_,map_map->x_,getElem?_of_mem->y_,all_cons->z_,eq_nil_of_length_eq_zero->A_,nil_append->B_,append_assoc->D_,pairwise_iff_getElem->E_,drop_eq_getElem_cons->F_,dropWhile_cons->G_,getElem?_cons_succ->I_,drop_eq_nil_of_le->J_,append_nil->L_,getD_eq_getElem?_getD->N_,length_take->O_,append_inj'->P_,take_append_drop->R_,mem_iff_getElem?->S_,length_filter_le->T_,takeWhile_cons->Y_,mem_range->ab_,getElem?_append_right->ac_,getElem?_append_left->ad_,length_eq_zero_iff->ai_,all_nil->aj_
open Nat renaming le_refl->j_,le_trans->K_,lt_or_ge->M_,pow_le_pow_right->V_,mul_le_mul_right->W_,add_mul->X_,pow_succ->Z_,succ_mul->ak_,mul_comm->al_
open Option renaming isSome_iff_exists->aa_,map_eq_some_iff->ag_
open Int renaming tmod_eq_emod_of_nonneg->ae_,tdiv_eq_ediv_of_nonneg->af_
set_option linter.unusedVariables false
set_option linter.unusedSimpArgs false
namespace Go.Abs
def af0 (s:List UInt8) (i:Nat):Int:=((s[i]?.getD 0).toNat:Int)
def aF8 (s:List UInt8) (i:Nat):Bool:=
 (decide (97<=af0 s i) && decide (af0 s i<=122)) || (i != 0 && (af0 s i == 45 || decide (48<=af0 s i) && decide (af0 s i<=57)))
def D7 (s:List UInt8):Bool:=(List.range s.length).all (aF8 s) && decide (1<=s.length) && decide (s.length<=12)
theorem am8 {s:List UInt8} {i:Nat} (hi:i<s.length) (h:aF8 s i=false):D7 s=false:=by
 unfold D7;have:(List.range s.length).all (aF8 s)=false:=by
  rw[List.all_eq_false];exact⟨i,by simp[hi],by simp[h]⟩
 simp[this]
theorem aC3 {s:List UInt8} (h:∀j,j<s.length->aF8 s j=true):D7 s=(decide (1<=s.length) && decide (s.length<=12)):=by
 unfold D7;rw[c_.2 (fun j hj=>h j (by simpa using hj)),t_]
theorem H5 {s:List UInt8} (h:D7 s=true):1<=s.length/\s.length<=12:=by
 unfold D7 at h;simp at h;omega
inductive V where
 | nil
 | var (n:Int)
 | sym (s:List UInt8)
 | num (n:Int)
 | pair (a b:V)
deriving DecidableEq
namespace V
def tm:V->Tm
 | nil=>.mk 0 0 [] []
 | var n=>.mk 1 n [] []
 | sym s=>.mk 2 0 s []
 | num n=>.mk 3 n [] []
 | pair a b=>.mk 4 0 [] [a.tm,b.tm]
def size:V->Nat
 | pair a b=>1+a.size+b.size
 | _=>1
theorem size_pos:∀v:V,1<=v.size
 | nil=>j_ _
 | var _=>j_ _
 | sym _=>j_ _
 | num _=>j_ _
 | pair a b=>by simp only[size];omega
def enc (v:V):List D:=v.tm.enc
theorem enc_nil:enc nil=[.int .i64 0,.int .i64 0,.str [],.sl []]:=rfl
theorem enc_var (n:Int):enc (var n)=[.int .i64 1,.int .i64 n,.str [],.sl []]:=rfl
theorem enc_sym (s:List UInt8):enc (sym s)=[.int .i64 2,.int .i64 0,.str s,.sl []]:=rfl
theorem enc_num (n:Int):enc (num n)=[.int .i64 3,.int .i64 n,.str [],.sl []]:=rfl
theorem enc_pair (a b:V):enc (pair a b)=[.int .i64 4,.int .i64 0,.str [],.sl [a.enc,b.enc]]:=rfl
theorem enc_len (v:V):v.enc.length=4:=Tm.enc_len _
def kind:V->Int
 | nil=>0 | var _=>1 | sym _=>2 | num _=>3 | pair _ _=>4
def int:V->Int
 | var n=>n | num n=>n | _=>0
def name:V->List UInt8
 | sym s=>s | _=>[]
def kids:V->List V
 | pair a b=>[a,b] | _=>[]
theorem enc_eq (v:V):v.enc=[.int .i64 v.kind,.int .i64 v.int,.str v.name,.sl (v.kids.map enc)]:=by cases v<;>rfl
theorem enc_at0 (t:V):(V.enc t)[0]? = some (.int .i64 t.kind):=by rw[enc_eq];rfl
theorem enc_at1 (t:V):(V.enc t)[1]? = some (.int .i64 t.int):=by rw[enc_eq];rfl
theorem enc_at2 (t:V):(V.enc t)[2]? = some (.str t.name):=by rw[enc_eq];rfl
theorem enc_at3 (t:V):(V.enc t)[3]? = some (.sl (t.kids.map enc)):=by rw[enc_eq];rfl
theorem enc_pt0 (t:V):((V.enc t).drop 0).take 1=[.int .i64 t.kind]:=by rw[enc_eq];rfl
theorem enc_pt0' (t:V):(V.enc t).take 1=[.int .i64 t.kind]:=by rw[enc_eq];rfl
theorem enc_pt1 (t:V):((V.enc t).drop 1).take 1=[.int .i64 t.int]:=by rw[enc_eq];rfl
theorem enc_pt2 (t:V):((V.enc t).drop 2).take 1=[.str t.name]:=by rw[enc_eq];rfl
theorem enc_pt3 (t:V):((V.enc t).drop 3).take 1=[.sl (t.kids.map enc)]:=by rw[enc_eq];rfl
theorem encS:type_of% (And.intro enc_len <| And.intro enc_at0 <| And.intro enc_at1 <| And.intro enc_at2 <| And.intro enc_at3 <| And.intro enc_pt0 <| And.intro enc_pt0' <| And.intro enc_pt1 <| And.intro enc_pt2 <| enc_pt3):=And.intro enc_len <| And.intro enc_at0 <| And.intro enc_at1 <| And.intro enc_at2 <| And.intro enc_at3 <| And.intro enc_pt0 <| And.intro enc_pt0' <| And.intro enc_pt1 <| And.intro enc_pt2 <| enc_pt3
end V
attribute [go_sem] V.enc_len V.enc_at0 V.enc_at1 V.enc_at2 V.enc_at3 V.enc_pt0 V.enc_pt0' V.enc_pt1 V.enc_pt2 V.enc_pt3
def mkV (k i:Int) (n:List UInt8) (l:List (Option V)):Option V:=
 if k=4 then (if i=0/\n=[] then (match l with | [some a,some b]=>some (.pair a b) | _=>none) else none)
 else if l≠[] then none
 else if k=0 then (if i=0/\n=[] then some .nil else none)
 else if k=1 then (if 0<=i/\i<=100000/\n=[] then some (.var i) else none)
 else if k=2 then (if i=0/\D7 n=true then some (.sym n) else none)
 else if k=3 then (if -1000000000<=i/\i<=1000000000/\n=[] then some (.num i) else none)
 else none
mutual
def Tm.v?:Tm->Option V
 | .mk k i n az=>mkV k i n (Tm.vs? az)
def Tm.vs?:List Tm->List (Option V)
 | []=>[]
 | t :: r=>Tm.v? t :: Tm.vs? r
end
theorem Tm.vs?_eq:∀l:List Tm,Tm.vs? l=l.map Tm.v?
 | []=>by simp only[Tm.vs?,u_]
 | t :: r=>by simp only[Tm.vs?,e_,Tm.vs?_eq r]
theorem Tm.v?_mk (k i:Int) (n:List UInt8) (az:List Tm):(Tm.mk k i n az).v? = mkV k i n (az.map Tm.v?):=by
 simp only[Tm.v?,Tm.vs?_eq]
theorem aT3 {α β:Type} {f:α->β}:∀{l:List α} {a b:β},l.map f=[a,b]->∃x y,l=[x,y]/\f x=a/\f y=b
 | [],_,_,h=>by simp at h
 | [x],_,_,h=>by simp at h
 | [x,y],_,_,h=>by simp at h;exact⟨x,y,rfl,h⟩
 | _ :: _ :: _ :: _,_,_,h=>by simp at h
theorem bD7 {k i:Int} {n:List UInt8} {az:List Tm} {v:V} (ih:∀x,x∈az->∀v,x.v? = some v->x=v.tm) (h:mkV k i n (az.map Tm.v?)=some v):Tm.mk k i n az=v.tm:=by
 unfold mkV at h;split at h
 ·rename_i hk
  split at h
  ·rename_i hin
   obtain⟨rfl,rfl⟩:=hin;split at h
   ·rename_i a b hl
    cases h;obtain⟨x,y,rfl,h1,h2⟩:=aT3 hl;rw[ih x (by simp) a h1,ih y (by simp) b h2,hk];rfl
   ·cases h
  ·cases h
 ·split at h
  ·cases h
  ·rename_i hl
   have:az=[]:=by cases az<;>simp_all
   subst this;split at h
   ·split at h
    ·rename_i hc;obtain⟨rfl,rfl⟩:=hc;cases h;simp_all[V.tm]
    ·cases h
   ·split at h
    ·split at h
     ·rename_i hc;obtain⟨_,_,rfl⟩:=hc;cases h;simp_all[V.tm]
     ·cases h
    ·split at h
     ·split at h
      ·rename_i hc;obtain⟨rfl,_⟩:=hc;cases h;simp_all[V.tm]
      ·cases h
     ·split at h
      ·split at h
       ·rename_i hc;obtain⟨_,_,rfl⟩:=hc;cases h;simp_all[V.tm]
       ·cases h
      ·cases h
theorem Tm.of_v?:∀(t:Tm) (v:V),t.v? = some v->t=v.tm:=by
 intro t;induction t using Tm.ind with
 | h k i n az ih =>
  intro v h;rw[Tm.v?_mk] at h;exact bD7 ih h
def V.fine:V->Bool
 | .nil=>true
 | .var n=>decide (0<=n/\n<=100000)
 | .sym s=>D7 s
 | .num n=>decide (-1000000000<=n/\n<=1000000000)
 | .pair a b=>a.fine && b.fine
theorem V.v?_tm:∀v:V,v.fine=true->v.tm.v? = some v
 | .nil,_=>by simp[V.tm,Tm.v?_mk,mkV]
 | .var n,h=>by simp[V.fine] at h;simp[V.tm,Tm.v?_mk,mkV,h]
 | .sym s,h=>by simp[V.fine] at h;simp[V.tm,Tm.v?_mk,mkV,h]
 | .num n,h=>by simp[V.fine] at h;simp[V.tm,Tm.v?_mk,mkV,h]
 | .pair a b,h=>by
  simp[V.fine] at h;simp[V.tm,Tm.v?_mk,mkV,V.v?_tm a h.1,V.v?_tm b h.2]
theorem Tm.fine_of:∀(t:Tm) (v:V),t.v? = some v->v.fine=true:=by
 intro t;induction t using Tm.ind with
 | h k i n az ih =>
  intro v h;rw[Tm.v?_mk] at h;unfold mkV at h;split at h
  ·split at h
   ·split at h
    ·rename_i a b hl
     cases h;obtain⟨x,y,rfl,h1,h2⟩:=aT3 hl;simp[V.fine,ih x (by simp) a h1,ih y (by simp) b h2]
    ·cases h
   ·cases h
  ·split at h
   ·cases h
   ·split at h
    ·split at h
     ·cases h;rfl
     ·cases h
    ·split at h
     ·split at h
      ·rename_i hc;cases h;simp[V.fine,hc]
      ·cases h
     ·split at h
      ·split at h
       ·rename_i hc;cases h;simp[V.fine,hc]
       ·cases h
      ·split at h
       ·split at h
        ·rename_i hc;cases h;simp[V.fine,hc]
        ·cases h
       ·cases h
def nodes (t:Tm) (room:Int):Int:=match t.v? with
 | some v=>if (v.size:Int)<=room then v.size else -1
 | none=>-1
def Tm.ok? (t:Tm):Option V:=match t.v? with
 | some v=>if v.size<=5000 then some v else none
 | none=>none
def M7 (t:Tm):Bool:=t.ok?.isSome
theorem nodes_lt {t:Tm} {room:Int} (h:room<1):nodes t room=-1:=by
 unfold nodes;split
 ·rename_i v _
  have:=v.size_pos;rw[if_neg (by omega)]
 ·rfl
theorem nodes_kids (k i:Int) (n:List UInt8) (a b:Tm) {room:Int} (hk:k=4) (hi:i=0) (hn:n=[]) (h:1<=room) :
  nodes (.mk k i n [a,b]) room=if nodes a (room - 1)<0 then -1 else if nodes b (room - 1 - nodes a (room - 1))<0 then -1 else 1+nodes a (room - 1)+nodes b (room - 1 - nodes a (room - 1)):=by
 subst hk hi hn;unfold nodes;rw[Tm.v?_mk];simp only[mkV,if_pos,and_self,e_,u_];cases ha:a.v? with
 | none=>simp
 | some x =>
  cases hb:b.v? with
  | none=>simp
  | some y =>
   have:=x.size_pos;have:=y.size_pos;simp only[V.size];repeat' split
   all_goals omega
theorem nodes_ge {t:Tm} {room:Int}:nodes t room=-1\/(1<=nodes t room/\nodes t room<=room):=by
 unfold nodes;split
 ·rename_i v _
  have:=v.size_pos;split<;>omega
 ·exact .inl rfl
theorem ak0 (c:Prop) [Decidable c] (v:V) {room:Int} (hs:v.size=1) (h:1<=room) :
  (match (if c then some v else none:Option V) with | some v=>if (v.size:Int)<=room then (v.size:Int) else -1 | none=>-1)=if c then 1 else -1:=by
 by_cases hc:c
 ·simp only[if_pos hc,hs];rw[if_pos (by omega)];rfl
 ·simp only[if_neg hc]
theorem nodes_leaf (k i:Int) (n:List UInt8) (az:List Tm) {room:Int} (hk:k≠4) (h:1<=room) :
  nodes (.mk k i n az) room=if az≠[] then -1 else if k=0 then (if i=0/\n=[] then 1 else -1) else if k=1 then (if 0<=i/\i<=100000/\n=[] then 1 else -1)
   else if k=2 then (if i=0/\D7 n=true then 1 else -1) else if k=3 then (if -1000000000<=i/\i<=1000000000/\n=[] then 1 else -1) else -1:=by
 unfold nodes;rw[Tm.v?_mk];simp only[mkV,if_neg hk];by_cases ha:az=[]
 ·subst ha
  simp only[u_,ne_eq,not_true_eq_false,if_false];by_cases h0:k=0
  ·simp only[if_pos h0];exact ak0 _ _ rfl h
  ·simp only[if_neg h0]
   by_cases h1:k=1
   ·simp only[if_pos h1];exact ak0 _ _ rfl h
   ·simp only[if_neg h1]
    by_cases h2:k=2
    ·simp only[if_pos h2];exact ak0 _ _ rfl h
    ·simp only[if_neg h2]
     by_cases h3:k=3
     ·simp only[if_pos h3];exact ak0 _ _ rfl h
     ·simp only[if_neg h3]
 ·rw[if_pos (by simpa using ha),if_pos ha]
theorem nodes_bad (k i:Int) (n:List UInt8) (az:List Tm) {room:Int} (hk:k=4) (h:i≠0\/n≠[]\/az.length≠2):nodes (.mk k i n az) room=-1:=by
 unfold nodes;rw[Tm.v?_mk];simp only[mkV,if_pos hk];have:(if i=0/\n=[] then (match az.map Tm.v? with | [some a,some b]=>some (V.pair a b) | _=>none) else none)=none:=by
  split
  ·split
   ·rename_i hl
    obtain⟨x,y,rfl,_⟩:=aT3 hl;simp_all
   ·rfl
  ·rfl
 rw[this]
theorem Tm.ind' {Q:Tm->Prop} (h:∀t:Tm,(∀x,x∈t.args->Q x)->Q t):∀t,Q t:=by
 intro t;induction t using Tm.ind with
 | h k i n az ih=>exact h _ ih
theorem aS9 (t:Tm) {room:Int} (hk:t.kind≠4) (h:1<=room) :
  nodes t room=if t.args≠[] then -1 else if t.kind=0 then (if t.int=0/\t.name=[] then 1 else -1) else if t.kind=1 then (if 0<=t.int/\t.int<=100000/\t.name=[] then 1 else -1)
   else if t.kind=2 then (if t.int=0/\D7 t.name=true then 1 else -1) else if t.kind=3 then (if -1000000000<=t.int/\t.int<=1000000000/\t.name=[] then 1 else -1) else -1:=by
 cases t;exact nodes_leaf _ _ _ _ hk h
theorem bg2 (t:Tm) {room:Int} (hk:t.kind=4) (h:t.int≠0\/t.name≠[]\/t.args.length≠2):nodes t room=-1:=by
 cases t;exact nodes_bad _ _ _ _ hk h
theorem aT0 (t a b:Tm) (ha:t.args=[a,b]) {room:Int} (hk:t.kind=4) (hi:t.int=0) (hn:t.name=[]) (h:1<=room) :
  nodes t room=if nodes a (room - 1)<0 then -1 else if nodes b (room - 1 - nodes a (room - 1))<0 then -1 else 1+nodes a (room - 1)+nodes b (room - 1 - nodes a (room - 1)):=by
 cases t;simp only[Tm.args] at ha;subst ha;exact nodes_kids _ _ _ _ _ hk hi hn h
theorem bs6 (t:Tm):t.name.length<=wtL t.enc:=by
 rw[Tm.enc_eq];simp only[wtL,D.wt];omega
theorem nodes_ok (t:Tm):decide (0<nodes t 5000)=M7 t:=by
 unfold nodes M7 Tm.ok?;cases h:t.v? with
 | none=>simp
 | some v =>
  have:=v.size_pos;simp only;by_cases h5:v.size<=5000
  ·simp only[if_pos h5,if_pos (show (v.size:Int)<=5000 by omega)];simp;omega
  ·simp only[if_neg h5,if_neg (show ¬(v.size:Int)<=5000 by omega)];simp
mutual
def countF:Tm->Int->Int
 | .mk _ _ _ az,most=>countL az most 1
def countL:List Tm->Int->Int->Int
 | [],_,n=>n
 | t :: r,most,n=>if n > most then n else countL r most (n+countF t (most - n))
end
mutual
def Tm.cnt:Tm->Nat
 | .mk _ _ _ az=>1+Tm.cnts az
def Tm.cnts:List Tm->Nat
 | []=>0
 | t :: r=>Tm.cnt t+Tm.cnts r
end
theorem count_spec:(∀(t:Tm) (most:Int),1<=countF t most/\countF t most<=t.cnt/\((t.cnt:Int)<=most->countF t most=t.cnt)/\(most<t.cnt->most<countF t most)):=by
 intro t;induction t using Tm.ind with
 | h k i nm az ih =>
  have key:∀(l:List Tm),(∀x,x∈l->x∈az)->∀(most n:Int),n<=countL l most n/\countL l most n<=n+Tm.cnts l/\(n+Tm.cnts l<=most->countL l most n=n+Tm.cnts l)/\(most<n+Tm.cnts l->most<countL l most n):=by
   intro l;induction l with
   | nil=>intro _ most n;simp only[countL,Tm.cnts];omega
   | cons t r ihr =>
    intro hl most n;have h1:=ih t (hl t (by simp)) (most - n);have h2:=ihr (fun x hx=>hl x (by simp[hx])) most (n+countF t (most - n));simp only[countL,Tm.cnts];split<;>omega
  intro most;have:=key az (fun x hx=>hx) most 1;simp only[countF,Tm.cnt];omega
theorem cnt_of_v?:∀(t:Tm) (v:V),t.v? = some v->t.cnt=v.size:=by
 intro t v h;have:=Tm.of_v? t v h;subst this;clear h;induction v with
 | pair a b iha ihb=>simp[V.tm,Tm.cnt,Tm.cnts,V.size,iha,ihb];omega
 | _=>rfl
theorem count_ok (t:Tm):(decide (countF t 5000<=5000) && t.v?.isSome)=M7 t:=by
 have h:=count_spec t 5000;unfold M7 Tm.ok?;cases hv:t.v? with
 | none=>simp
 | some v =>
  have:=cnt_of_v? t v hv;simp only[Option.isSome_some,ah_];by_cases h5:v.size<=5000
  ·rw[if_pos h5];simp;omega
  ·rw[if_neg h5];simp;omega
theorem bl2:∀t:Tm,(∀n,n=t->t.cnt<=1+wtL t.enc):=by
 intro t;induction t using Tm.ind with
 | h k i n az ih =>
  intro _ _;have key:∀(l:List Tm),(∀x,x∈l->x∈az)->Tm.cnts l<=wtR (l.map Tm.enc):=by
   intro l;induction l with
   | nil=>intro _;simp[Tm.cnts,wtR]
   | cons t r ihr =>
    intro hl;have h1:=ih t (hl t (by simp)) t rfl;have h2:=ihr (fun x hx=>hl x (by simp[hx]));simp only[Tm.cnts,e_,wtR];omega
  have:=key az (fun x hx=>hx);simp only[Tm.cnt,Tm.enc_eq,wtL,D.wt,Tm.args,Tm.name];omega
theorem cnt_le_wt (t:Tm):t.cnt<=1+wtL t.enc:=bl2 t t rfl
theorem al4 {t x:Tm} (h:x∈t.args):wtL x.enc<wtL t.enc:=by
 have:=ai1 (t.args.map Tm.enc) x.enc (i_.2 ⟨x,h,rfl⟩);simp only[Tm.enc_eq t,wtL,D.wt];omega
theorem aE9 (k i:Int) (n:List UInt8) (az:List Tm):(Tm.mk k i n az).v?.isSome =
  if k≠1/\k≠3/\i≠0\/k≠2/\n≠[]\/k≠4/\0<az.length then false
  else if k=0 then true else if k=1 then (decide (0<=i) && decide (i<=100000)) else if k=2 then D7 n
  else if k=3 then (decide (-1000000000<=i) && decide (i<=1000000000)) else if k=4 then (match az with | [a,b]=>a.v?.isSome && b.v?.isSome | _=>false) else false:=by
 rw[Tm.v?_mk];unfold mkV;by_cases h4:k=4
 ·subst h4
  simp only[if_pos];by_cases hin:i=0/\n=[]
  ·obtain⟨rfl,rfl⟩:=hin
   simp;match az with
   | []=>rfl
   | [a]=>simp
   | [a,b]=>simp;cases a.v?<;>cases b.v?<;>simp
   | a :: b :: c :: r=>simp
  ·rw[if_neg hin,if_pos];rfl
   by_cases h0:i=0
   ·exact .inr (.inl ⟨by omega,fun h=>hin ⟨h0,h⟩⟩)
   ·exact .inl ⟨by omega,by omega,h0⟩
 ·rw[if_neg h4]
  by_cases ha:az=[]
  ·subst ha
   simp;by_cases h0:k=0
   ·subst h0;simp;split<;>simp_all
   ·by_cases h1:k=1
    ·subst h1;simp;split<;>simp_all<;>(intro h1 h2;apply Int.not_le.1;intro h3;simp_all)
    ·by_cases h2:k=2
     ·subst h2;simp;split<;>simp_all
     ·by_cases h3:k=3
      ·subst h3;simp;split<;>simp_all<;>(intro h1 h2;apply Int.not_le.1;intro h3;simp_all)
      ·simp[*]
  ·have:0<az.length:=by cases az<;>simp_all
   rw[if_pos (by simpa using ha),if_pos (.inr (.inr ⟨h4,this⟩))];rfl
theorem bp4 (t:Tm) (h:t.kind≠1/\t.kind≠3/\t.int≠0\/t.kind≠2/\t.name≠[]\/t.kind≠4/\0<t.args.length):t.v?.isSome=false:=by
 cases t;simp only[Tm.kind,Tm.int,Tm.name,Tm.args] at h;rw[aE9,if_pos h]
theorem be8 (t:Tm) (h:¬(t.kind≠1/\t.kind≠3/\t.int≠0\/t.kind≠2/\t.name≠[]\/t.kind≠4/\0<t.args.length)) (hk:t.kind≠4) :
  t.v?.isSome=if t.kind=0 then true else if t.kind=1 then (decide (0<=t.int) && decide (t.int<=100000)) else if t.kind=2 then D7 t.name
  else if t.kind=3 then (decide (-1000000000<=t.int) && decide (t.int<=1000000000)) else false:=by
 cases t;simp only[Tm.kind,Tm.int,Tm.name,Tm.args] at h hk |-;rw[aE9,if_neg h];simp only[if_neg hk];rfl
theorem be7 (t:Tm) (h:¬(t.kind≠1/\t.kind≠3/\t.int≠0\/t.kind≠2/\t.name≠[]\/t.kind≠4/\0<t.args.length)) (hk:t.kind=4) :
  (t.args.length≠2->t.v?.isSome=false)/\∀a b,t.args=[a,b]->t.v?.isSome=(a.v?.isSome && b.v?.isSome):=by
 cases t;simp only[Tm.kind,Tm.int,Tm.name,Tm.args] at h hk |-;rw[aE9,if_neg h];subst hk;refine⟨fun h2=>?_,fun a b hab=>?_⟩
 ·simp
  split
  ·simp at h2
  ·rfl
 ·subst hab;simp
theorem ok?_tm {t:Tm} {v:V} (h:t.ok? = some v):t=v.tm:=by
 unfold Tm.ok? at h;cases hv:t.v? with
 | none=>simp[hv] at h
 | some v' =>
  simp only[hv] at h;split at h
  ·cases h;exact Tm.of_v? t v hv
  ·cases h
def V.ok (v:V):Bool:=v.fine && decide (v.size<=5000)
theorem ok?_ok {t:Tm} {v:V} (h:t.ok? = some v):v.ok=true:=by
 unfold Tm.ok? at h;cases hv:t.v? with
 | none=>simp[hv] at h
 | some v' =>
  simp only[hv] at h;split at h
  ·cases h;simp[V.ok,Tm.fine_of t v hv];assumption
  ·cases h
theorem as4 {t:Tm} (h:M7 t=true):∃v:V,t=v.tm/\v.ok=true:=by
 unfold M7 at h;obtain⟨v,hv⟩:=aa_.1 h;exact⟨v,ok?_tm hv,ok?_ok hv⟩
theorem aR5 {v:V} (h:v.ok=true):M7 v.tm=true:=by
 simp[V.ok] at h;simp[M7,Tm.ok?,V.v?_tm v h.1,h.2]
theorem D5 (vs:List V):(vs.map V.tm).map Tm.enc=vs.map V.enc:=by simp[V.enc]
def G5 (a b:Int):Int:=if a<b then -1 else if a > b then 1 else 0
def V.cmp (a b:V):Int:=
 if a.kind≠b.kind then (if a.kind<b.kind then -1 else 1)
 else if a.int≠b.int then (if a.int<b.int then -1 else 1)
 else if a.name≠b.name then (if Op.bytesLess a.name b.name then -1 else 1)
 else match a,b with
  | .pair a1 a2,.pair b1 b2=>if V.cmp a1 b1≠0 then V.cmp a1 b1 else V.cmp a2 b2
  | _,_=>0
def V.cmpL:List V->List V->Int
 | a :: r,b :: q=>if V.cmp a b≠0 then V.cmp a b else V.cmpL r q
 | l,m=>G5 l.length m.length
theorem V.pair_or (v:V):(∃x y,v=.pair x y)\/(v.kind≠4/\v.kids=[]):=by
 cases v<;>simp[V.kind,V.kids]
theorem V.cmp_pair (a1 a2 b1 b2:V):V.cmp (.pair a1 a2) (.pair b1 b2)=if V.cmp a1 b1≠0 then V.cmp a1 b1 else V.cmp a2 b2:=by
 rw[V.cmp];simp[V.kind,V.int,V.name]
theorem V.cmp_else {a b:V} (h:a.kind≠4\/b.kind≠4):V.cmp a b=if a.kind≠b.kind then (if a.kind<b.kind then -1 else 1)
 else if a.int≠b.int then (if a.int<b.int then -1 else 1)
 else if a.name≠b.name then (if Op.bytesLess a.name b.name then -1 else 1) else 0:=by
 rw[V.cmp.eq_def];congr 1;congr 1;congr 1;cases a<;>cases b<;>simp_all[V.kind]
theorem V.cmpL_nil_left (l:List V):V.cmpL [] l=G5 0 l.length:=by cases l<;>simp[V.cmpL]
theorem V.cmpL_nil_right (l:List V):V.cmpL l []=G5 l.length 0:=by cases l<;>simp[V.cmpL]
theorem V.cmpL_cons (a b:V) (r q:List V):V.cmpL (a :: r) (b :: q)=if V.cmp a b≠0 then V.cmp a b else V.cmpL r q:=by rw[V.cmpL]
def K5 (r:List UInt8) (a:List V) (q:List UInt8) (b:List V):Int:=
 if r≠q then (if Op.bytesLess r q then -1 else 1) else V.cmpL a b
def reserved:List (List UInt8):=[[116,114,117,101],[102,97,105,108],[115,121,109,98,111,108],[110,117,109,98,101,114],[97,98,115,101,110,116],[97,110,100],[111,114],[110,111,116],[100,101,102,105,110,101]]
def J6 (s:List UInt8):Bool:=!reserved.contains s && D7 s
theorem Gl.ind' {Q:Gl->Prop} (h:∀t:Gl,(∀x,x∈t.goals->Q x)->Q t):∀t,Q t:=by
 intro t;induction t using Gl.ind with
 | h a b c d ih=>exact h _ ih
theorem Gl.wt_goals {t x:Gl} (h:x∈t.goals):wtL x.enc<wtL t.enc:=by
 have:=ai1 (t.goals.map Gl.enc) x.enc (i_.2 ⟨x,h,rfl⟩);simp only[Gl.enc_eq t,wtL,D.wt];omega
theorem Gl.wt_terms {t:Gl} {x:Tm} (h:x∈t.terms):wtL x.enc<wtL t.enc:=by
 have:=ai1 (t.terms.map Tm.enc) x.enc (i_.2 ⟨x,h,rfl⟩);simp only[Gl.enc_eq t,wtL,D.wt];omega
theorem Gl.wt_name (t:Gl):t.name.length<=wtL t.enc:=by
 rw[Gl.enc_eq];simp only[wtL,D.wt];omega
mutual
def Gl.countF:Gl->Int->Int
 | .mk _ _ _ gs,most=>Gl.countL gs most 1
def Gl.countL:List Gl->Int->Int->Int
 | [],_,n=>n
 | t :: r,most,n=>if n > most then n else Gl.countL r most (n+Gl.countF t (most - n))
end
theorem Gl.countF_eq (g:Gl) (most:Int):g.countF most=Gl.countL g.goals most 1:=by cases g;simp only[Gl.countF,Gl.goals]
mutual
def Gl.cnt:Gl->Nat
 | .mk _ _ _ gs=>1+Gl.cnts gs
def Gl.cnts:List Gl->Nat
 | []=>0
 | t :: r=>Gl.cnt t+Gl.cnts r
end
theorem Gl.cnt_eq (g:Gl):g.cnt=1+Gl.cnts g.goals:=by cases g;simp only[Gl.cnt,Gl.goals]
theorem Gl.cnt_pos (g:Gl):1<=g.cnt:=by rw[Gl.cnt_eq];omega
theorem Gl.count_spec:(∀(t:Gl) (most:Int),1<=t.countF most/\t.countF most<=t.cnt/\((t.cnt:Int)<=most->t.countF most=t.cnt)/\(most<t.cnt->most<t.countF most)):=by
 intro t;induction t using Gl.ind' with
 | h t ih =>
  have key:∀(l:List Gl),(∀x,x∈l->x∈t.goals)->∀(most n:Int),n<=Gl.countL l most n/\Gl.countL l most n<=n+Gl.cnts l/\(n+Gl.cnts l<=most->Gl.countL l most n=n+Gl.cnts l)/\(most<n+Gl.cnts l->most<Gl.countL l most n):=by
   intro l;induction l with
   | nil=>intro _ most n;simp only[Gl.countL,Gl.cnts];omega
   | cons x r ihr =>
    intro hl most n;have h1:=ih x (hl x (by simp)) (most - n);have h2:=ihr (fun x hx=>hl x (by simp[hx])) most (n+x.countF (most - n));simp only[Gl.countL,Gl.cnts];split<;>omega
  intro most;have:=key t.goals (fun x hx=>hx) most 1;rw[Gl.countF_eq,Gl.cnt_eq];omega
theorem Gl.cnt_le_wt:∀t:Gl,t.cnt<=1+wtL t.enc:=by
 intro t;induction t using Gl.ind' with
 | h t ih =>
  have key:∀(l:List Gl),(∀x,x∈l->x∈t.goals)->Gl.cnts l<=wtR (l.map Gl.enc):=by
   intro l;induction l with
   | nil=>intro _;simp[Gl.cnts,wtR]
   | cons x r ihr =>
    intro hl;have h1:=ih x (hl x (by simp));have h2:=ihr (fun x hx=>hl x (by simp[hx]));simp only[Gl.cnts,e_,wtR];omega
  have:=key t.goals (fun x hx=>hx);rw[Gl.cnt_eq];simp only[Gl.enc_eq t,wtL,D.wt];omega
def x8 (k:Int):Int:=if k=2 then 2 else if k=3 then 2 else if k=4 then 1 else if k=5 then 1 else if k=6 then 2 else 0
theorem an3 (k:Int):0<=x8 k/\x8 k<=2:=by
 unfold x8;repeat' split
 all_goals omega
theorem bl9 (k:Int) (h:7<=k):x8 k=0:=by
 unfold x8;repeat' split
 all_goals omega
def ak7 (l:List Tm):Bool:=match l with | t :: _=>t.kind == 2 | []=>false
def ac3 (l:List Gl):Bool:=match l with | g :: _=>g.kind == 9 | []=>false
theorem K4 (l:List Tm):ak7 l=match l[0]? with | some t=>t.kind == 2 | none=>false:=by cases l<;>rfl
theorem I5 (l:List Gl):ac3 l=match l[0]? with | some t=>t.kind == 9 | none=>false:=by cases l<;>rfl
def Gl.form (g:Gl):Bool:=
 if g.kind=9 then J6 g.name && decide ((g.goals.length:Int)=0) && decide ((g.terms.length:Int)<=4)
 else if 0<=g.kind/\g.kind<=6 then decide (g.name=[]) && decide ((g.goals.length:Int)=0) && decide ((g.terms.length:Int)=x8 g.kind) && (if g.kind=6 then ak7 g.terms else true)
 else if g.kind=7\/g.kind=8 then decide (g.name=[]) && decide ((g.terms.length:Int)=0) && decide ((g.goals.length:Int)<=8)
 else if g.kind=10 then decide (g.name=[]) && decide ((g.terms.length:Int)=0) && decide ((g.goals.length:Int)=1) && ac3 g.goals
 else false
theorem Gl.form_inv {g:Gl} (h:g.form=true):(g.kind=9/\J6 g.name=true/\(g.goals.length:Int)=0/\(g.terms.length:Int)<=4) \/
  (0<=g.kind/\g.kind<=6/\g.name=[]/\(g.goals.length:Int)=0/\(g.terms.length:Int)=x8 g.kind/\(g.kind=6->ak7 g.terms=true)) \/
  ((g.kind=7\/g.kind=8)/\g.name=[]/\(g.terms.length:Int)=0/\(g.goals.length:Int)<=8) \/
  (g.kind=10/\g.name=[]/\(g.terms.length:Int)=0/\(g.goals.length:Int)=1/\ac3 g.goals=true):=by
 unfold Gl.form at h;split at h
 ·rename_i hk
  simp only[a_,decide_eq_true_eq] at h;exact .inl ⟨hk,h.1.1,h.1.2,h.2⟩
 ·split at h
  ·rename_i hk
   simp only[a_,decide_eq_true_eq] at h;refine .inr (.inl ⟨hk.1,hk.2,h.1.1.1,h.1.1.2,h.1.2,fun h6=>?_⟩);have:=h.2;rw[if_pos h6] at this;exact this
  ·split at h
   ·rename_i hk
    simp only[a_,decide_eq_true_eq] at h;exact .inr (.inr (.inl ⟨hk,h.1.1,h.1.2,h.2⟩))
   ·split at h
    ·rename_i hk
     simp only[a_,decide_eq_true_eq] at h;exact .inr (.inr (.inr ⟨hk,h.1.1.1,h.1.1.2,h.1.2,h.2⟩))
    ·cases h
theorem Gl.form_simple {g:Gl} (h0:0<=g.kind) (h1:g.kind<6) (hn:g.name=[]) (hg:(g.goals.length:Int)=0) (ht:(g.terms.length:Int)=x8 g.kind):g.form=true:=by
 unfold Gl.form;rw[if_neg (by omega),if_pos ⟨h0,by omega⟩,if_neg (by omega)];simp only[hn,hg,ht,decide_true,C_]
theorem Gl.form_6 {g:Gl} (hk:g.kind=6) (hn:g.name=[]) (hg:(g.goals.length:Int)=0) (ht:(g.terms.length:Int)=2) {x:Tm} (hx:g.terms[0]? = some x):g.form=decide (x.kind=2):=by
 unfold Gl.form;rw[if_neg (by omega),if_pos ⟨by omega,by omega⟩,if_pos hk,K4,hx,hk];have:x8 6=2:=by decide
 simp only[hn,hg,ht,this,decide_true,C_,t_];exact am_ _ _
theorem Gl.form_and {g:Gl} (hk:g.kind=7\/g.kind=8) (hn:g.name=[]) (ht:(g.terms.length:Int)=0) (hg:(g.goals.length:Int)<=8):g.form=true:=by
 unfold Gl.form;rw[if_neg (by omega),if_neg (by omega),if_pos hk];simp only[hn,hg,ht,decide_true,C_]
theorem Gl.form_10 {g:Gl} (hk:g.kind=10) (hn:g.name=[]) (ht:(g.terms.length:Int)=0) (hg:(g.goals.length:Int)=1) {x:Gl} (hx:g.goals[0]? = some x):g.form=decide (x.kind=9):=by
 unfold Gl.form;rw[if_neg (by omega),if_neg (by omega),if_neg (by omega),if_pos hk,I5,hx];simp only[hn,hg,ht,decide_true,C_,t_];exact am_ _ _
theorem bz0 (k:Int) (h:k=6):x8 k=2:=by subst h;decide
mutual
def Gl.shape:Gl->Bool
 | .mk k n ts gs=>(Gl.mk k n ts gs).form && ts.all M7 && Gl.shapes gs
def Gl.shapes:List Gl->Bool
 | []=>true
 | t :: r=>Gl.shape t && Gl.shapes r
end
theorem Gl.shapes_eq:∀l:List Gl,Gl.shapes l=l.all Gl.shape
 | []=>by simp only[Gl.shapes,aj_]
 | t :: r=>by simp only[Gl.shapes,z_,Gl.shapes_eq r]
theorem Gl.shape_eq (g:Gl):g.shape=(g.form && g.terms.all M7 && g.goals.all Gl.shape):=by
 cases g;simp only[Gl.shape,Gl.shapes_eq,Gl.terms,Gl.goals]
def ak5 (g:Gl):Bool:=decide (g.cnt<=80) && g.shape
def Gl.nodes (g:Gl) (room:Int):Int:=if g.shape=true/\(g.cnt:Int)<=room then g.cnt else -1
theorem Gl.nodes_ge {g:Gl} {room:Int}:g.nodes room=-1\/(1<=g.nodes room/\g.nodes room<=room):=by
 have:=g.cnt_pos;unfold Gl.nodes;split<;>omega
theorem Gl.nodes_lt {g:Gl} {room:Int} (h:room<1):g.nodes room=-1:=by
 have:=g.cnt_pos;unfold Gl.nodes;rw[if_neg (by omega)]
theorem Gl.nodes_bad {g:Gl} {room:Int} (h:g.shape=false):g.nodes room=-1:=by
 unfold Gl.nodes;rw[if_neg (by simp[h])]
theorem Gl.nodes_leaf {g:Gl} {room:Int} (h:g.shape=true) (hg:g.goals=[]) (hr:1<=room):g.nodes room=1:=by
 have hc:=g.cnt_eq;rw[hg] at hc;simp only[Gl.cnts] at hc;unfold Gl.nodes;rw[if_pos ⟨h,by omega⟩,hc];rfl
theorem Gl.nodes_ok (g:Gl):decide (0<g.nodes 80)=ak5 g:=by
 have:=g.cnt_pos;unfold Gl.nodes ak5;by_cases h:g.shape=true
 ·by_cases h2:g.cnt<=80
  ·rw[if_pos ⟨h,by omega⟩];simp[h,h2];omega
  ·rw[if_neg (by omega)];simp[h2]
 ·rw[if_neg (by simp[h])];simp[h]
theorem Gl.count_ok (g:Gl):(decide (g.countF 80<=80) && g.shape)=ak5 g:=by
 have h:=Gl.count_spec g 80;unfold ak5;congr 1;by_cases h5:g.cnt<=80
 ·simp[h5];omega
 ·simp[h5];omega
def Gl.nodeL:List Gl->Int->Int->Int
 | [],_,n=>n
 | g :: r,room,n=>if g.nodes (room - n)<0 then -1 else Gl.nodeL r room (n+g.nodes (room - n))
theorem Gl.nodeL_eq:∀(l:List Gl) (room n:Int),n<=room->Gl.nodeL l room n=if l.all Gl.shape=true/\n+(Gl.cnts l:Int)<=room then n+Gl.cnts l else -1
 | [],room,n,h=>by simp[Gl.nodeL,Gl.cnts,h]
 | g :: r,room,n,h=>by
  have hp:=g.cnt_pos;have e1:(g :: r).all Gl.shape=(g.shape && r.all Gl.shape):=rfl;have e2:Gl.cnts (g :: r)=g.cnt+Gl.cnts r:=by simp only[Gl.cnts]
  rw[Gl.nodeL];by_cases hs:g.shape=true
  ·by_cases hc:(g.cnt:Int)<=room - n
   ·have hn:g.nodes (room - n)=g.cnt:=by unfold Gl.nodes;rw[if_pos ⟨hs,hc⟩]
    rw[hn,if_neg (by omega),Gl.nodeL_eq r room _ (by omega)];by_cases hx:r.all Gl.shape=true/\n+(g.cnt:Int)+(Gl.cnts r:Int)<=room
    ·rw[if_pos hx,if_pos ⟨by rw[e1];simp only[hs,hx.1,C_],by rw[e2];omega⟩,e2];omega
    ·rw[if_neg hx,if_neg (fun h=>hx ⟨by have h1:=h.1;rw[e1,hs,t_] at h1;exact h1,by have h2:=h.2;rw[e2] at h2;omega⟩)]
   ·have hn:g.nodes (room - n)=-1:=by unfold Gl.nodes;rw[if_neg (by omega)]
    rw[hn,if_pos (by omega),if_neg (fun h=>by have h2:=h.2;rw[e2] at h2;omega)]
  ·have hn:g.nodes (room - n)=-1:=Gl.nodes_bad (by simpa using hs)
   rw[hn,if_pos (by omega),if_neg (fun h=>by have h1:=h.1;rw[e1] at h1;simp[hs] at h1)]
theorem Gl.nodes_kids {g:Gl} {room:Int} (hf:g.form=true) (ht:g.terms.all M7=true) (hr:1<=room):g.nodes room=Gl.nodeL g.goals room 1:=by
 rw[Gl.nodeL_eq _ _ _ hr];unfold Gl.nodes;rw[Gl.shape_eq,hf,ht,Gl.cnt_eq];simp only[t_];split<;>split<;>simp_all<;>omega
theorem bP8 {k n:Int} (h0:0<=k) (h1:k<=10) {Q:List D->Prop} (h:Q [.int .i64 (if k=9 then n else x8 k)]) :
  idx [[.int .i64 0],[.int .i64 0],[.int .i64 2],[.int .i64 2],[.int .i64 1],[.int .i64 1],[.int .i64 2],[.int .i64 0],[.int .i64 0],[.int .i64 n],[.int .i64 0]] k.toNat Q:=by
 have hc:k=0\/k=1\/k=2\/k=3\/k=4\/k=5\/k=6\/k=7\/k=8\/k=9\/k=10:=by omega
 rcases hc with rfl | rfl | rfl | rfl | rfl | rfl | rfl | rfl | rfl | rfl | rfl<;>(intro x hx;simp at hx;subst hx;simpa[x8] using h)
def ab8:List Int->Int->List Int
 | [],n=>[n]
 | x :: r,n=>if x<n then x :: ab8 r n else if x=n then x :: r else n :: x :: r
abbrev Asc (l:List Int):Prop:=l.Pairwise (·<·)
theorem aG5 {x n:Int}:∀{l:List Int},x∈ab8 l n↔x=n\/x∈l
 | []=>by simp[ab8]
 | y :: r=>by
  have ih:=aG5 (x:=x) (n:=n) (l:=r);unfold ab8;split
  ·simp only[d_,ih];constructor<;>(rintro (h | h | h)<;>simp[h])
  ·split
   ·rename_i h;subst h;simp
   ·simp
theorem bb5 {n:Int}:∀{l:List Int},Asc l->Asc (ab8 l n)
 | [],_=>by simp[ab8,Asc]
 | y :: r,h=>by
  have h':=h_.1 h;unfold ab8;split
  ·refine h_.2 ⟨fun x hx=>?_,bb5 h'.2⟩
   rcases aG5.1 hx with rfl | hx
   ·assumption
   ·exact h'.1 x hx
  ·split
   ·exact h
   ·refine h_.2 ⟨fun x hx=>?_,h⟩
    rcases d_.1 hx with rfl | hx
    ·omega
    ·have:=h'.1 x hx;omega
theorem bb4 {n:Int}:∀{l:List Int},(ab8 l n).length<=l.length+1
 | []=>by simp[ab8]
 | y :: r=>by
  have ih:=bb4 (n:=n) (l:=r);unfold ab8;split
  ·simp only[b_];omega
  ·split<;>simp
def headA (n:Int):List Int->List Int
 | []=>[n]
 | x :: r=>if x=n then x :: r else n :: x :: r
theorem aC4 {n:Int} {b:List Int} (hb:∀x,x∈b->n<=x):∀{a:List Int},(∀x,x∈a->x<n)->ab8 (a++b) n=a++headA n b
 | [],_=>by
  cases b with
  | nil=>rfl
  | cons x r =>
   have:=hb x (by simp);simp only[B_,ab8,headA];rw[if_neg (by omega)]
 | y :: a,ha=>by
  have:=ha y (by simp);simp only[k_,ab8];rw[if_pos this,aC4 hb (fun x hx=>ha x (by simp[hx]))]
theorem aW7:∀{l l':List Int},Asc l->Asc l'->(∀x,x∈l↔x∈l')->l=l'
 | [],[],_,_,_=>rfl
 | [],y :: r,_,_,h=>by have:=(h y).2 (by simp);simp at this
 | y :: r,[],_,_,h=>by have:=(h y).1 (by simp);simp at this
 | x :: r,y :: r',h1,h2,h=>by
  have a1:=h_.1 h1;have a2:=h_.1 h2;have exy:x=y:=by
   rcases d_.1 ((h x).1 (by simp)) with e | e
   ·exact e
   ·rcases d_.1 ((h y).2 (by simp)) with e' | e'
    ·exact e'.symm
    ·have:=a2.1 x e;have:=a1.1 y e';omega
  subst exy;congr 1;refine aW7 a1.2 a2.2 (fun z=>⟨fun hz=>?_,fun hz=>?_⟩)
  ·rcases d_.1 ((h z).1 (by simp[hz])) with e | e
   ·have:=a1.1 z hz;omega
   ·exact e
  ·rcases d_.1 ((h z).2 (by simp[hz])) with e | e
   ·have:=a2.1 z hz;omega
   ·exact e
theorem bP6 {l:List Int} {n:Int} {k:Nat} (ha:Asc l) (h1:∀j x,k<=j->l[j]? = some x->n<=x) (h2:k=0\/∃x,l[k - 1]? = some x/\x<n) :
  ab8 l n=if l[k]? = some n then l else l.take k++([n]++l.drop k):=by
 have hb:∀x,x∈l.drop k->n<=x:=fun x hx=>by
  obtain⟨j,hj⟩:=S_.1 hx;rw[List.getElem?_drop] at hj;exact h1 _ x (by omega) hj
 have hlt:∀x,x∈l.take k->x<n:=fun x hx=>by
  obtain⟨j,hj⟩:=S_.1 hx;rw[List.getElem?_take] at hj;split at hj
  ·rename_i hjk
   rcases h2 with rfl | ⟨y,hy,hyn⟩
   ·omega
   ·by_cases e:j=k - 1
    ·rw[e,hy] at hj;cases hj;exact hyn
    ·obtain⟨g1,g2⟩:=f_.1 hj
     obtain⟨g3,g4⟩:=f_.1 hy;have:=E_.1 ha j (k - 1) g1 g3 (by omega);omega
  ·cases hj
 have hd:l[k]? = (l.drop k)[0]?:=by rw[List.getElem?_drop];simp
 have e:=aC4 (n:=n) hb hlt;rw[R_] at e;rw[e,hd];cases hq:l.drop k with
 | nil=>simp[headA]
 | cons x r =>
  by_cases hxn:x=n
  ·subst hxn
   simp only[headA,if_pos,List.getElem?_cons_zero];rw[<-hq,R_]
  ·simp[headA,hxn]
theorem aF9:∀(n:Nat) (l:List Nat),l.Nodup->(∀x,x∈l->x<n)->l.length<=n
 | 0,l,_,h=>by
  cases l with
  | nil=>simp
  | cons x r=>have:=h x (by simp);omega
 | n+1,l,hn,h=>by
  have ih:=aF9 n (l.erase n) (hn.erase n) (fun x hx=>by
   have h1:=(List.Nodup.mem_erase_iff hn).1 hx;have:=h x h1.2;have:=h1.1;omega)
  have:l.length<=(l.erase n).length+1:=by rw[List.length_erase];split<;>omega
  omega
def P9 (l:List Int):List Int:=l.foldl ab8 []
theorem ac2:∀{vs l:List Int},Asc l->Asc (vs.foldl ab8 l)
 | [],_,h=>h
 | v :: vs,l,h=>ac2 (vs:=vs) (bb5 h)
theorem aO9 {x:Int}:∀{vs l:List Int},x∈vs.foldl ab8 l↔x∈vs\/x∈l
 | [],l=>by simp
 | v :: vs,l=>by
  rw[v_,aO9 (vs:=vs),aG5,d_,or_left_comm,or_assoc]
theorem ac1:∀{vs l:List Int},(vs.foldl ab8 l).length<=l.length+vs.length
 | [],l=>by simp
 | v :: vs,l=>by
  have:=ac1 (vs:=vs) (l:=ab8 l v);have:=bb4 (n:=v) (l:=l);simp only[v_,b_];omega
theorem ak9 (l:List Int):Asc (P9 l):=ac2 (by simp[Asc])
theorem U1 {l:List Int} {x:Int}:x∈P9 l↔x∈l:=by unfold P9;rw[aO9];simp
theorem aQ7 {l l':List Int} (h:∀x,x∈l↔x∈l'):P9 l=P9 l':=aW7 (ak9 l) (ak9 l') (fun x=>by rw[U1,U1,h])
theorem aI1 {l:List Int}:P9 l=[]↔l=[]:=by
 constructor
 ·intro h
  cases l with
  | nil=>rfl
  | cons x r=>have:x∈P9 (x :: r):=U1.2 (by simp);rw[h] at this;simp at this
 ·rintro rfl;rfl
theorem bC1 {ks:List Int} (h:ks.Nodup):(ks.mergeSort fun x y=>decide (x<=y))=P9 ks:=by
 refine aW7 ?_ (ak9 ks) (fun x=>by rw[List.mem_mergeSort,U1]);have h1:(ks.mergeSort fun x y=>decide (x<=y)).Pairwise fun a b=>decide (a<=b)=true:=
  List.pairwise_mergeSort (fun a b c h1 h2=>by simp at *;omega) (fun a b=>by simp;omega) ks
 have h2:(ks.mergeSort fun x y=>decide (x<=y)).Nodup:=(List.mergeSort_perm ks _).nodup_iff.2 h;exact(h1.and h2).imp (fun ⟨a,b⟩=>by simp at a;omega)
def az3 (ks:List Int) (n:Int):List Int:=if n∈ks then ks else ks++[n]
def am6 (ks:List Int):List (D×D):=ks.map fun n=>(.int .i64 n,.bool true)
theorem aM0 (n:Int):∀ks:List Int,am3 (am6 ks) (.int .i64 n) (.bool true)=am6 (az3 ks n)
 | []=>rfl
 | k :: r=>by
  have ih:=aM0 n r;unfold az3 at ih |-;simp only[am6,e_,am3,kEq] at ih |-;by_cases h:n=k
  ·subst h;simp
  ·have h2:¬(n == k)=true:=by simpa using h
   by_cases h3:n∈r
   ·rw[if_pos h3] at ih
    rw[if_pos (by simp[h3])];simp[h,ih]
   ·rw[if_neg h3] at ih
    rw[if_neg (by simp[h,h3])];simp[h,ih]
theorem ab5 (ks:List Int):(am6 ks).length=ks.length:=by simp[am6]
theorem bH6 {ks:List Int} {n x:Int}:x∈az3 ks n↔x=n\/x∈ks:=by
 unfold az3;split
 ·constructor
  ·exact .inr
  ·rintro (rfl | h)
   ·assumption
   ·exact h
 ·simp[or_comm]
theorem bm2 {ks:List Int} {n:Int} (h:ks.Nodup):(az3 ks n).Nodup:=by
 unfold az3;split
 ·exact h
 ·rename_i hn
  rw[List.nodup_append];exact⟨h,by simp,fun a ha b hb=>by simp at hb;subst hb;intro e;subst e;exact hn ha⟩
theorem bH7 {ks:List Int} {n:Int}:(az3 ks n).length<=ks.length+1:=by unfold az3;split<;>simp
theorem aO7 {x:Int}:∀{vs ks:List Int},x∈vs.foldl az3 ks↔x∈vs\/x∈ks
 | [],l=>by simp
 | v :: vs,l=>by
  rw[v_,aO7 (vs:=vs),bH6,d_,or_left_comm,or_assoc]
theorem aw4:∀{vs ks:List Int},ks.Nodup->(vs.foldl az3 ks).Nodup
 | [],_,h=>h
 | v :: vs,l,h=>aw4 (vs:=vs) (bm2 h)
theorem aO8:∀{vs ks:List Int},(vs.foldl az3 ks).length<=ks.length+vs.length
 | [],l=>by simp
 | v :: vs,l=>by
  have:=aO8 (vs:=vs) (ks:=az3 l v);have:=bH7 (n:=v) (ks:=l);simp only[v_,b_];omega
theorem aN9 (a b:List Int):A9 (a++b)=A9 a++A9 b:=by simp[A9]
theorem Y2 (a:List Int):(A9 a).length=a.length:=by simp[A9]
theorem bu7 (n:Int):A9 [n]=[[.int .i64 n]]:=rfl
theorem bE5 {ks:List Int} {i:Nat} {p:D×D} (h:(am6 ks)[i]? = some p):∃k,ks[i]? = some k/\p=(.int .i64 k,.bool true):=by
 simp only[am6,List.getElem?_map,ag_] at h;obtain⟨k,h1,rfl⟩:=h;exact⟨k,h1,rfl⟩
theorem bE9 (l:List Int) (j:Nat) (Q:List D->Prop):idx (A9 l) j Q=idx l j (fun n=>Q [.int .i64 n]):=bu8 _ _ _ _
theorem bi6 (l:List Int) (k:Nat):(A9 l).take k=A9 (l.take k):=by simp[A9]
theorem bi8 (l:List Int) (k:Nat):(A9 l).drop k=A9 (l.drop k):=by simp[A9]
theorem bi7 (l:List Int):(∀y,y∈A9 l->y.length=1)=True:=by
 simp only[eq_iff_iff,iff_true];intro y hy;obtain⟨n,_,rfl⟩:=i_.1 hy;rfl
attribute [go_sem] bE9 bi6 bi8 bi7 Y2 ab5
theorem bg0 {ks:List Int} {seen:List Nat} (hn:ks.Nodup) (h1:seen.Nodup) (h2:∀i,i∈seen->i<ks.length) (h3:∀i,i<ks.length->i∈seen) :
  (seen.map fun i=>ks.getD i 0).Nodup/\∀x,x∈(seen.map fun i=>ks.getD i 0)↔x∈ks:=by
 have hg:∀i (h:i<ks.length),ks.getD i 0=ks[i]:=fun i h=>by simp[h]
 refine⟨?_,fun x=>⟨fun hx=>?_,fun hx=>?_⟩⟩
 ·refine List.pairwise_map.2 (List.Pairwise.imp_of_mem ?_ h1)
  intro a b ha hb hab e;rw[hg a (h2 a ha),hg b (h2 b hb)] at e;have hp:=E_.1 hn;rcases Nat.lt_trichotomy a b with h | h | h
  ·exact hp a b (h2 a ha) (h2 b hb) h e
  ·exact hab h
  ·exact hp b a (h2 b hb) (h2 a ha) h e.symm
 ·obtain⟨i,hi,rfl⟩:=i_.1 hx
  rw[hg i (h2 i hi)];exact List.getElem_mem _
 ·obtain⟨i,hi,rfl⟩:=List.mem_iff_getElem.1 hx
  exact i_.2 ⟨i,h3 i hi,hg i hi⟩
mutual
def Tm.vars:Tm->List Int
 | .mk k i _ az=>if k=1 then [i] else Tm.varss az
def Tm.varss:List Tm->List Int
 | []=>[]
 | t :: r=>Tm.vars t++Tm.varss r
end
theorem Tm.vars_eq (t:Tm):t.vars=if t.kind=1 then [t.int] else Tm.varss t.args:=by cases t;simp only[Tm.vars,Tm.kind,Tm.int,Tm.args];rfl
theorem Tm.varss_eq:∀l:List Tm,Tm.varss l=l.flatMap Tm.vars
 | []=>rfl
 | t :: r=>by simp only[Tm.varss,l_,Tm.varss_eq r]
def V.vars:V->List Int
 | .var n=>[n]
 | .pair a b=>a.vars++b.vars
 | _=>[]
theorem V.vars_tm:∀v:V,v.tm.vars=v.vars
 | .nil=>rfl
 | .var n=>by simp[V.tm,V.vars,Tm.vars]
 | .sym _=>by simp[V.tm,V.vars,Tm.vars,Tm.varss]
 | .num _=>by simp[V.tm,V.vars,Tm.vars,Tm.varss]
 | .pair a b=>by simp[V.tm,V.vars,Tm.vars,Tm.varss,V.vars_tm a,V.vars_tm b]
theorem Tm.vars_cnt:∀t:Tm,t.vars.length<=t.cnt:=by
 intro t;induction t using Tm.ind with
 | h k i n az ih =>
  have key:∀(l:List Tm),(∀x,x∈l->x∈az)->(Tm.varss l).length<=Tm.cnts l:=by
   intro l;induction l with
   | nil=>intro _;simp[Tm.varss]
   | cons x r ihr =>
    intro hl;have h1:=ih x (hl x (by simp));have h2:=ihr (fun x hx=>hl x (by simp[hx]));simp only[Tm.varss,Tm.cnts,g_];omega
  have:=key az (fun x hx=>hx);simp only[Tm.vars,Tm.cnt];split
  ·simp only[b_,q_];omega
  ·omega
theorem Tm.vars_wt (t:Tm):t.vars.length<=1+wtL t.enc:=K_ (Tm.vars_cnt t) (cnt_le_wt t)
theorem aX4:∀l:List Tm,(Tm.varss l).length<=wtR (l.map Tm.enc)
 | []=>by simp[Tm.varss]
 | t :: r=>by
  have:=aX4 r;have:=Tm.vars_wt t;simp only[Tm.varss,e_,wtR,g_];omega
mutual
def Gl.vars:Gl->List Int
 | .mk _ _ ts gs=>Tm.varss ts++Gl.varss gs
def Gl.varss:List Gl->List Int
 | []=>[]
 | t :: r=>Gl.vars t++Gl.varss r
end
theorem Gl.vars_eq (t:Gl):t.vars=Tm.varss t.terms++Gl.varss t.goals:=by cases t;simp only[Gl.vars,Gl.terms,Gl.goals]
theorem Gl.varss_eq:∀l:List Gl,Gl.varss l=l.flatMap Gl.vars
 | []=>rfl
 | t :: r=>by simp only[Gl.varss,l_,Gl.varss_eq r]
theorem Gl.vars_wt:∀t:Gl,t.vars.length<=wtL t.enc:=by
 intro t;induction t using Gl.ind' with
 | h t ih =>
  have key:∀(l:List Gl),(∀x,x∈l->x∈t.goals)->(Gl.varss l).length<=wtR (l.map Gl.enc):=by
   intro l;induction l with
   | nil=>intro _;simp[Gl.varss]
   | cons x r ihr =>
    intro hl;have h1:=ih x (hl x (by simp));have h2:=ihr (fun x hx=>hl x (by simp[hx]));simp only[Gl.varss,e_,wtR,g_];omega
  have:=key t.goals (fun x hx=>hx);have:=aX4 t.terms;rw[Gl.vars_eq,g_];simp only[Gl.enc_eq t,wtL,D.wt];omega
mutual
def Gl.subs:Gl->List Gl
 | .mk k n ts gs=>.mk k n ts gs :: Gl.subss gs
def Gl.subss:List Gl->List Gl
 | []=>[]
 | t :: r=>Gl.subs t++Gl.subss r
end
theorem Gl.subs_eq (t:Gl):t.subs=t :: Gl.subss t.goals:=by cases t;simp only[Gl.subs,Gl.goals]
theorem Gl.subss_eq:∀l:List Gl,Gl.subss l=l.flatMap Gl.subs
 | []=>rfl
 | t :: r=>by simp only[Gl.subss,l_,Gl.subss_eq r]
theorem Gl.subs_ind {Q:Gl->Prop} (h:∀t,Q t->∀x,x∈t.goals->Q x):∀(t:Gl),Q t->∀x,x∈t.subs->Q x:=by
 intro t;induction t using Gl.ind' with
 | h t ih =>
  intro hq x hx;rw[Gl.subs_eq,Gl.subss_eq] at hx;rcases d_.1 hx with rfl | hx
  ·exact hq
  ·obtain⟨y,hy,hxy⟩:=r_.1 hx
   exact ih y hy (h t hq y hy) x hxy
theorem Gl.vars_subs:∀t:Gl,t.vars=t.subs.flatMap fun x=>Tm.varss x.terms:=by
 intro t;induction t using Gl.ind' with
 | h t ih =>
  rw[Gl.vars_eq,Gl.subs_eq,l_,Gl.varss_eq,Gl.subss_eq,List.flatMap_assoc];congr 1;have:∀(l:List Gl),(∀x,x∈l->x∈t.goals)->l.flatMap Gl.vars=l.flatMap fun x=>x.subs.flatMap fun x=>Tm.varss x.terms:=by
   intro l;induction l with
   | nil=>intro _;rfl
   | cons x r ihr =>
    intro hl;rw[l_,l_,ih x (hl x (by simp)),ihr (fun x hx=>hl x (by simp[hx]))]
  exact this _ (fun x hx=>hx)
theorem ak6 {α β γ:Type} (f:γ->β->γ) (g:α->List β):∀(l:List α) (c:γ),(l.flatMap g).foldl f c=l.foldl (fun c x=>(g x).foldl f c) c
 | [],_=>rfl
 | x :: r,c=>by rw[l_,List.foldl_append,ak6 f g r];rfl
theorem bn9 {t:Tm} (h:M7 t=true):∃v:V,t=v.tm/\v.fine=true:=by
 unfold M7 Tm.ok? at h;split at h
 ·rename_i v hv;exact⟨v,Tm.of_v? _ _ hv,Tm.fine_of _ _ hv⟩
 ·cases h
theorem Gl.shape_sub {t:Gl} (h:t.shape=true):∀x,x∈t.subs->x.shape=true:=
 Gl.subs_ind (Q:=fun t=>t.shape=true) (fun t h x hx=>by
  rw[Gl.shape_eq] at h;simp only[a_,c_] at h;exact h.2 x hx) t h
theorem Gl.shape_terms {t:Gl} (h:t.shape=true):∀x,x∈t.terms->M7 x=true:=by
 rw[Gl.shape_eq] at h;simp only[a_,c_] at h;exact h.1.2
def V.has (tag:List UInt8):V->Bool
 | .sym s=>decide (s=tag)
 | .pair a b=>a.has tag || b.has tag
 | _=>false
def Tm.V (t:Tm):V:=t.v?.getD .nil
theorem Tm.V_of {t:Tm} (h:M7 t=true):t=t.V.tm:=by
 obtain⟨v,rfl,hv⟩:=bn9 h;simp[Tm.V,V.v?_tm v hv]
theorem Tm.enc_V {t:Tm} (h:M7 t=true):t.enc=t.V.enc:=by rw[V.enc,<-Tm.V_of h]
theorem Tm.vars_V {t:Tm} (h:M7 t=true):t.vars=t.V.vars:=by rw[<-V.vars_tm,<-Tm.V_of h]
theorem am9 {g:Gl} (h:ak5 g=true):g.shape=true:=by unfold ak5 at h;simp at h;exact h.2
theorem bP2 {α:Type} {l:List α} (h:(l.length:Int)=2):∃a b,l=[a,b]:=by
 match l,h with
 | [a,b],_=>exact⟨a,b,rfl⟩
 | [],h=>simp at h
 | [_],h=>simp at h
 | _ :: _ :: _ :: _,h=>simp only[b_] at h;omega
theorem bt6 {α:Type} {l:List α} (h:(l.length:Int)=1):∃a,l=[a]:=by
 match l,h with
 | [a],_=>exact⟨a,rfl⟩
 | [],h=>simp at h
 | _ :: _ :: _,h=>simp only[b_] at h;omega
def V9:List Rl->List UInt8->Int->Int
 | [],_,_=>-1
 | r :: q,s,i=>if r.name=s then i else V9 q s (i+1)
def Pg.find (p:Pg) (s:List UInt8):Int:=V9 p.rels s 0
theorem ag9:∀(l:List Rl) (s:List UInt8) (i:Int),V9 l s i=-1\/(i<=V9 l s i/\V9 l s i<i+l.length)
 | [],_,_=>.inl rfl
 | r :: q,s,i=>by
  have:=ag9 q s (i+1);simp only[V9,b_];split<;>omega
theorem Pg.find_range (p:Pg) (s:List UInt8):p.find s=-1\/(0<=p.find s/\p.find s<p.rels.length):=by
 have:=ag9 p.rels s 0;unfold Pg.find;omega
def Pg.fitC (p:Pg) (x:Gl):Bool:=
 !decide (x.kind=9) || match p.rels[(p.find x.name).toNat]? with
  | some r=>decide (0<=p.find x.name) && decide (r.arity=x.terms.length)
  | none=>false
theorem Pg.fitC_other {p:Pg} {x:Gl} (h:x.kind≠9):p.fitC x=true:=by simp[Pg.fitC,h]
theorem Pg.fitC_neg {p:Pg} {x:Gl} (h:x.kind=9) (hf:p.find x.name<0):p.fitC x=false:=by
 simp only[Pg.fitC,h,decide_true,Bool.not_true,Bool.false_or];split
 ·simp;omega
 ·rfl
theorem Pg.fitC_at {p:Pg} {x:Gl} (h:x.kind=9) (hf:0<=p.find x.name) {r:Rl} (hr:p.rels[(p.find x.name).toNat]? = some r):p.fitC x=decide (r.arity=x.terms.length):=by
 simp[Pg.fitC,h,hr,hf]
def Pg.callsFit (p:Pg) (g:Gl):Bool:=g.subs.all p.fitC
theorem ah8 {α β:Type} (f:α->List β) (q:β->Bool):∀l:List α,(l.flatMap f).all q=l.all fun x=>(f x).all q
 | []=>rfl
 | x :: r=>by simp only[l_,List.all_append,z_,ah8 f q r]
theorem Pg.callsFit_eq (p:Pg) (g:Gl):p.callsFit g=(p.fitC g && g.goals.all p.callsFit):=by
 unfold Pg.callsFit;rw[Gl.subs_eq,z_,Gl.subss_eq,ah8]
theorem aO6 {α:Type} (q:α->Bool):∀(l:List α) (b:Bool),l.foldl (fun b x=>b && q x) b=(b && l.all q)
 | [],b=>by simp
 | x :: r,b=>by rw[v_,aO6 q r,z_,Bool.and_assoc]
theorem aO5 {α:Type} (q:α->Bool):∀(l:List α) (b:Bool),l.foldl (fun b x=>b || q x) b=(b || l.any q)
 | [],b=>by simp
 | x :: r,b=>by rw[v_,aO5 q r,List.any_cons,Bool.or_assoc]
def Gl.varsLt (g:Gl) (n:Int):Bool:=g.vars.all fun v=>decide (v<n)
theorem aQ5 (l:List Int) (n:Int):((P9 l).all fun v=>decide (v<n))=l.all fun v=>decide (v<n):=by
 rw[H_];simp only[c_];exact⟨fun h x hx=>h x (U1.2 hx),fun h x hx=>h x (U1.1 hx)⟩
theorem bl7 {l:List Int} (ha:Asc l) (n:Int) {m:Nat} {x:Int} (hm:m+1=l.length) (hx:l[m]? = some x):(l.all fun v=>decide (v<n))=decide (x<n):=by
 rw[H_];simp only[c_,decide_eq_true_eq];refine⟨fun h=>h x (p_ hx),fun h y hy=>?_⟩;obtain⟨j,hj⟩:=S_.1 hy;obtain⟨g1,g2⟩:=f_.1 hj;obtain⟨g3,g4⟩:=f_.1 hx;by_cases e:j=m
 ·subst e;rw[hj] at hx;cases hx;exact h
 ·have:=E_.1 ha j m g1 g3 (by omega);omega
def Pg.relOk (p:Pg) (i:Nat) (r:Rl):Bool:=
 decide (p.find r.name=i) && J6 r.name && decide (0<=r.arity/\r.arity<=4) && decide (0<=r.locals/\r.locals<=8) && decide (r.body.cnt<=60) && r.body.shape && r.body.varsLt (r.arity+r.locals) && p.callsFit r.body
def Pg.okL (p:Pg):List Rl->Bool
 | []=>true
 | r :: q=>p.relOk (p.rels.length - (q.length+1)) r && Pg.okL p q
def M9 (p:Pg):Bool:=decide (p.rels.length<=8) && p.okL p.rels
theorem aq9 {α:Type} {l r:List α} {x:α} {i:Nat} (h:l.drop i=x :: r):l.length - (r.length+1)=i:=by
 have:=congrArg List.length h;simp only[List.length_drop,b_] at this;omega
theorem Z8 {p:Pg}:∀{l:List Rl},p.okL l=true->∀r,r∈l->∃i,p.relOk i r=true
 | [],_,_,h=>by simp at h
 | x :: q,ho,r,h=>by
  simp only[Pg.okL,a_] at ho;rcases d_.1 h with rfl | h
  ·exact⟨_,ho.1⟩
  ·exact Z8 ho.2 r h
theorem Rl.wt_body (r:Rl):wtL r.body.enc<=wtL r.enc/\r.name.length<=wtL r.enc:=by
 simp only[Rl.enc_eq,Gl.enc_eq,wtL,D.wt];omega
theorem Pg.wt_rels {p:Pg} {r:Rl} (h:r∈p.rels):wtL r.enc<wtL p.enc:=by
 have:=ai1 (p.rels.map Rl.enc) r.enc (i_.2 ⟨r,h,rfl⟩);simp only[Pg.enc_eq,wtL,D.wt];omega
def Pg.fits (p:Pg) (g:Gl) (n:Int):Bool:=ak5 g && g.varsLt n && p.callsFit g
def Gl.onlyK (pure:Bool) (k:Int):Bool:=decide (k≠10) && !(pure && (decide (3<=k) && decide (k<=6)))
def Gl.only(pure:Bool) (g:Gl):Bool:=g.subs.all fun x=>Gl.onlyK pure x.kind
theorem Gl.only_eq (pure:Bool) (g:Gl):g.only pure=(g.goals.all (Gl.only pure) && Gl.onlyK pure g.kind):=by
 unfold Gl.only;rw[Gl.subs_eq,z_,Gl.subss_eq,ah8,Bool.and_comm]
theorem Gl.only_neg (g:Gl):(g.subs.any fun x=>decide (x.kind=10))=!g.only false:=by
 unfold Gl.only;rw[List.not_all_eq_any_not];congr 1;funext x
 simp[Gl.onlyK]
def Pg.all (pure:Bool) (p:Pg):Bool:=M9 p && p.rels.all fun r=>r.body.only pure
def Tm.ground (t:Tm):Bool:=M7 t && decide (t.vars=[])
def Pg.factFits (p:Pg) (f:Fc):Bool:=
 match p.rels[(p.find f.rel).toNat]? with
 | some r=>decide (0<=p.find f.rel) && decide (r.arity=f.args.length) && f.args.all Tm.ground
 | none=>false
theorem Pg.factFits_at {p:Pg} {f:Fc} (h:0<=p.find f.rel) {r:Rl} (hr:p.rels[(p.find f.rel).toNat]? = some r):p.factFits f=(decide (r.arity=f.args.length) && f.args.all Tm.ground):=by
 simp[Pg.factFits,h,hr]
theorem I6 {p:(Nat->Prop)->Prop} (h:∀B,p B):∀B,p B:=h
theorem bu6 (l:List Int) (i:Nat) (n:Int):(A9 l).set i [.int .i64 n]=A9 (l.set i n):=by simp[A9,List.map_set]
attribute [go_sem] bu6
def U2 (l:List (List UInt8)):List (List D):=l.map encS
theorem l8 (l:List (List UInt8)):(U2 l).length=l.length:=by simp[U2]
theorem p8 (a b:List (List UInt8)):U2 (a++b)=U2 a++U2 b:=by simp[U2]
theorem y7 (s:List UInt8):U2 [s]=[[.str s]]:=rfl
theorem F7 {l:List (List UInt8)} {i:Nat} {n:List UInt8} (h:l[i]? = some n):(U2 l)[i]? = some [.str n]:=by simp[U2,h,encS]
mutual
def Gl.callsI (neg:Bool):Gl->Bool->List (List UInt8)
 | .mk k n _ gs,ins=>(if k=9/\ins=neg then [n] else [])++Gl.callsIs neg gs (ins || decide (k=10))
def Gl.callsIs (neg:Bool):List Gl->Bool->List (List UInt8)
 | [],_=>[]
 | g :: r,ins=>Gl.callsI neg g ins++Gl.callsIs neg r ins
end
mutual
def Gl.callsS (neg:Bool):Gl->List (List UInt8)
 | .mk k n _ gs=>(if k=9/\neg=false then [n] else [])++(if k=10 then (if neg=true then ((gs.take 1).map Gl.name) else []) else Gl.callsSs neg gs)
def Gl.callsSs (neg:Bool):List Gl->List (List UInt8)
 | []=>[]
 | g :: r=>Gl.callsS neg g++Gl.callsSs neg r
end
def J5 {α:Type} (a l:List (List α)):List (List α):=a.flatMap fun x=>l.map fun y=>x++y
theorem au6 {α:Type} (a l:List (List α)):(J5 a l).length=a.length * l.length:=by
 induction a with
 | nil=>simp[J5]
 | cons x r ih=>simp only[J5,l_,g_,o_,b_] at ih |-;rw[ih,ak_];omega
mutual
def Gl.clsI:Gl->Option (List (List Gl))
 | .mk k n ts gs=>if k=0 then some [[]] else if k=1 then some [] else if k=8 then Gl.orI gs [] else if k=7 then Gl.andI gs [[]] else some [[.mk k n ts gs]]
def Gl.orI:List Gl->List (List Gl)->Option (List (List Gl))
 | [],a=>some a
 | g :: r,a=>match Gl.clsI g with
  | none=>none
  | some l=>if 64<(a++l).length then none else Gl.orI r (a++l)
def Gl.andI:List Gl->List (List Gl)->Option (List (List Gl))
 | [],a=>some a
 | g :: r,a=>match Gl.clsI g with
  | none=>none
  | some l=>if 64<(J5 a l).length then none else Gl.andI r (J5 a l)
end
theorem Gl.clsI_eq (g:Gl):g.clsI=if g.kind=0 then some [[]] else if g.kind=1 then some [] else if g.kind=8 then Gl.orI g.goals [] else if g.kind=7 then Gl.andI g.goals [[]] else some [[g]]:=by
 cases g;simp only[Gl.clsI,Gl.kind,Gl.goals];rfl
mutual
def Gl.clsS:Gl->List (List Gl)
 | .mk k n ts gs=>if k=0 then [[]] else if k=1 then [] else if k=8 then Gl.orS gs [] else if k=7 then Gl.andS gs [[]] else [[.mk k n ts gs]]
def Gl.orS:List Gl->List (List Gl)->List (List Gl)
 | [],a=>a
 | g :: r,a=>if 64<(Gl.clsS g).length then Gl.clsS g else Gl.orS r (a++Gl.clsS g)
def Gl.andS:List Gl->List (List Gl)->List (List Gl)
 | [],a=>a
 | g :: r,a=>if 64<(Gl.clsS g).length then Gl.clsS g else if 64<(J5 a (Gl.clsS g)).length then J5 a (Gl.clsS g) else Gl.andS r (J5 a (Gl.clsS g))
end
theorem Gl.clsS_eq (g:Gl):g.clsS=if g.kind=0 then [[]] else if g.kind=1 then [] else if g.kind=8 then Gl.orS g.goals [] else if g.kind=7 then Gl.andS g.goals [[]] else [[g]]:=by
 cases g;simp only[Gl.clsS,Gl.kind,Gl.goals];rfl
theorem Gl.orS_big:∀(r:List Gl) (a:List (List Gl)),64<a.length->64<(Gl.orS r a).length
 | [],a,h=>by simpa[Gl.orS] using h
 | g :: r,a,h=>by
  simp only[Gl.orS];split
  ·assumption
  ·exact Gl.orS_big r _ (by simp;omega)
theorem Gl.cls_same:∀g:Gl,g.clsI=if g.clsS.length<=64 then some g.clsS else none:=by
 intro g;induction g using Gl.ind' with
 | h t ih =>
  have key8:∀(l:List Gl) (a:List (List Gl)),(∀x,x∈l->x∈t.goals)->a.length<=64->Gl.orI l a=if (Gl.orS l a).length<=64 then some (Gl.orS l a) else none:=by
   intro l;induction l with
   | nil=>intro a _ ha;simp[Gl.orI,Gl.orS,ha]
   | cons x r ihr =>
    intro a hl ha;by_cases h1:64<x.clsS.length
    ·have e:Gl.orS (x :: r) a=x.clsS:=by simp only[Gl.orS,if_pos h1]
     simp only[Gl.orI];rw[e,ih x (hl x (by simp)),if_neg (by omega)]
    ·have e:Gl.orS (x :: r) a=Gl.orS r (a++x.clsS):=by simp only[Gl.orS,if_neg h1]
     simp only[Gl.orI];rw[e,ih x (hl x (by simp)),if_pos (by omega)];dsimp only;by_cases h2:64<(a++x.clsS).length
     ·rw[if_pos h2]
      have:=Gl.orS_big r _ h2;rw[if_neg (by omega)]
     ·rw[if_neg h2]
      exact ihr _ (fun y hy=>hl y (by simp[hy])) (by omega)
  have key7:∀(l:List Gl) (a:List (List Gl)),(∀x,x∈l->x∈t.goals)->a.length<=64->Gl.andI l a=if (Gl.andS l a).length<=64 then some (Gl.andS l a) else none:=by
   intro l;induction l with
   | nil=>intro a _ ha;simp[Gl.andI,Gl.andS,ha]
   | cons x r ihr =>
    intro a hl ha;by_cases h1:64<x.clsS.length
    ·have e:Gl.andS (x :: r) a=x.clsS:=by simp only[Gl.andS,if_pos h1]
     simp only[Gl.andI];rw[e,ih x (hl x (by simp)),if_neg (by omega)]
    ·have e:Gl.andS (x :: r) a=if 64<(J5 a x.clsS).length then J5 a x.clsS else Gl.andS r (J5 a x.clsS):=by simp only[Gl.andS,if_neg h1]
     simp only[Gl.andI];rw[e,ih x (hl x (by simp)),if_pos (by omega)];dsimp only;by_cases h2:64<(J5 a x.clsS).length
     ·rw[if_pos h2,if_pos h2,if_neg (by omega)]
     ·rw[if_neg h2,if_neg h2]
      exact ihr _ (fun y hy=>hl y (by simp[hy])) (by omega)
  rw[Gl.clsI_eq,Gl.clsS_eq];by_cases h0:t.kind=0
  ·simp[h0]
  ·simp only[if_neg h0]
   by_cases h1:t.kind=1
   ·simp[h1]
   ·simp only[if_neg h1]
    by_cases h8:t.kind=8
    ·simp only[if_pos h8];exact key8 t.goals [] (fun x hx=>hx) (by simp)
    ·simp only[if_neg h8]
     by_cases h7:t.kind=7
     ·simp only[if_pos h7];exact key7 t.goals [[]] (fun x hx=>hx) (by simp)
     ·simp[h7]
theorem au9 {α:Type} {a l:List (List α)} {c:List α} (h:c∈J5 a l):∃x y,x∈a/\y∈l/\c=x++y:=by
 simp only[J5,r_,i_] at h;obtain⟨x,hx,y,hy,e⟩:=h;exact⟨x,y,hx,hy,e.symm⟩
theorem Gl.clsS_row:∀g:Gl,∀c,c∈g.clsS->c.length<=g.cnt/\∀x,x∈c->x∈g.subs:=by
 intro g;induction g using Gl.ind' with
 | h t ih =>
  have hb:∀x,x∈t.goals->x.cnt<=Gl.cnts t.goals:=by
   intro x hx;obtain⟨a,b,hab⟩:=List.append_of_mem hx;rw[hab];clear hab hx ih;induction a with
   | nil=>simp[Gl.cnts]
   | cons y a iha=>simp only[k_,Gl.cnts];omega
  have hsub:∀x,x∈t.goals->∀y,y∈x.subs->y∈t.subs:=by
   intro x hx y hy;rw[Gl.subs_eq,Gl.subss_eq];exact List.mem_cons_of_mem _ (r_.2 ⟨x,hx,hy⟩)
  have key8:∀(l:List Gl) (a:List (List Gl)),(∀x,x∈l->x∈t.goals)->(∀c,c∈a->c.length<=Gl.cnts t.goals/\∀x,x∈c->x∈t.subs)->∀c,c∈Gl.orS l a->c.length<=Gl.cnts t.goals/\∀x,x∈c->x∈t.subs:=by
   intro l;induction l with
   | nil=>intro a _ ha;simpa only[Gl.orS] using ha
   | cons x r ihr =>
    intro a hl ha;have h1:=ih x (hl x (by simp));have h2:=hb x (hl x (by simp));have h3:∀c,c∈x.clsS->c.length<=Gl.cnts t.goals/\∀x,x∈c->x∈t.subs:=fun c hc=>⟨by have:=(h1 c hc).1;omega,fun y hy=>hsub x (hl x (by simp)) y ((h1 c hc).2 y hy)⟩;simp only[Gl.orS];split
    ·exact h3
    ·refine ihr _ (fun y hy=>hl y (by simp[hy])) fun c hc=>?_
     rcases n_.1 hc with h | h
     ·exact ha c h
     ·exact h3 c h
  have key7:∀(l:List Gl) (a:List (List Gl)) (m:Nat),(∀x,x∈l->x∈t.goals)->m+Gl.cnts l<=Gl.cnts t.goals->(∀c,c∈a->c.length<=m/\∀x,x∈c->x∈t.subs)->∀c,c∈Gl.andS l a->c.length<=Gl.cnts t.goals/\∀x,x∈c->x∈t.subs:=by
   intro l;induction l with
   | nil=>intro a m _ hm ha c hc;simp only[Gl.andS] at hc;have:=ha c hc;simp only[Gl.cnts] at hm;exact⟨by omega,this.2⟩
   | cons x r ihr =>
    intro a m hl hm ha;have h1:=ih x (hl x (by simp));have h2:=hb x (hl x (by simp));simp only[Gl.cnts] at hm;have h3:∀c,c∈x.clsS->c.length<=x.cnt/\∀x,x∈c->x∈t.subs:=fun c hc=>⟨(h1 c hc).1,fun y hy=>hsub x (hl x (by simp)) y ((h1 c hc).2 y hy)⟩;have h4:∀c,c∈J5 a x.clsS->c.length<=m+x.cnt/\∀x,x∈c->x∈t.subs:=by
     intro c hc;obtain⟨u,v,hu,hv,rfl⟩:=au9 hc;have k1:=ha u hu;have k2:=h3 v hv;refine⟨by rw[g_];omega,fun y hy=>?_⟩;rcases n_.1 hy with h | h
     ·exact k1.2 y h
     ·exact k2.2 y h
    simp only[Gl.andS];split
    ·exact fun c hc=>⟨by have:=(h3 c hc).1;omega,(h3 c hc).2⟩
    ·split
     ·exact fun c hc=>⟨by have:=(h4 c hc).1;omega,(h4 c hc).2⟩
     ·exact ihr _ (m+x.cnt) (fun y hy=>hl y (by simp[hy])) (by omega) h4
  rw[Gl.clsS_eq,Gl.cnt_eq];intro c hc;split at hc
  ·simp at hc;subst hc;simp
  ·split at hc
   ·simp at hc
   ·split at hc
    ·have:=key8 t.goals [] (fun x hx=>hx) (by simp) c hc;exact⟨by omega,this.2⟩
    ·split at hc
     ·have:=key7 t.goals [[]] 0 (fun x hx=>hx) (by omega) (by simp) c hc;exact⟨by omega,this.2⟩
     ·simp at hc;subst hc
      refine⟨by simp,fun x hx=>?_⟩;simp at hx;subst hx;rw[Gl.subs_eq];simp
def Gl.nI (g:Gl):Nat:=(g.clsI.getD []).length
def i64 (n:Int):Int:=IntKind.i64.wrap n
mutual
def Gl.leadI:Gl->List Int->Int×List Int
 | .mk k _ _ gs,cs=>if k=1 then (-1,cs) else if k=8 then
   (match cs with
   | []=>(-1,[])
   | c :: r=>if c<0\/(gs.length:Int)<=c then (-1,r) else Gl.leadAt gs c.toNat 0 r)
  else if k=7 then Gl.leadL gs 0 cs else (0,cs)
def Gl.leadAt:List Gl->Nat->Int->List Int->Int×List Int
 | [],_,_,cs=>(-1,cs)
 | g :: _,0,n,cs=>if (Gl.leadI g cs).1<0 then (-1,(Gl.leadI g cs).2) else (i64 (n+(Gl.leadI g cs).1),(Gl.leadI g cs).2)
 | g :: r,i+1,n,cs=>Gl.leadAt r i (i64 (n+g.nI)) cs
def Gl.leadL:List Gl->Int->List Int->Int×List Int
 | [],n,cs=>(n,cs)
 | g :: r,n,cs=>if (Gl.leadI g cs).1<0 then (-1,(Gl.leadI g cs).2) else Gl.leadL r (i64 (i64 (n * g.nI)+(Gl.leadI g cs).1)) (Gl.leadI g cs).2
end
mutual
def Gl.idxS (cs:List Int):Gl->Nat->Bool->Int×Nat×Bool
 | .mk k _ _ gs,u,ok=>if k=1 then (0,u,false) else if k=8 then
   (match cs[u]? with
   | none=>(0,u,false)
   | some c=>if 0<=c/\c<=(gs.length:Int) - 1 then Gl.idxAt cs gs c.toNat [] (u+1) ok else (0,u,false))
  else if k=7 then Gl.idxL cs gs 0 u ok else (0,u,ok)
def Gl.idxAt (cs:List Int):List Gl->Nat->List Gl->Nat->Bool->Int×Nat×Bool
 | [],_,_,u,ok=>(0,u,ok)
 | g :: _,0,before,u,ok=>(before.foldl (fun k x=>i64 (k+x.clsS.length)) (Gl.idxS cs g u ok).1,(Gl.idxS cs g u ok).2)
 | g :: r,i+1,before,u,ok=>Gl.idxAt cs r i (before++[g]) u ok
def Gl.idxL (cs:List Int):List Gl->Int->Nat->Bool->Int×Nat×Bool
 | [],n,u,ok=>(n,u,ok)
 | g :: r,n,u,ok=>Gl.idxL cs r (i64 (i64 (n * g.clsS.length)+(Gl.idxS cs g u ok).1)) (Gl.idxS cs g u ok).2.1 (Gl.idxS cs g u ok).2.2
end
theorem Gl.orS_parts:∀(l:List Gl) (a:List (List Gl)),(Gl.orS l a).length<=64->(∀x,x∈l->x.clsS.length<=64)/\(Gl.orS l a).length=a.length+(l.map fun x=>x.clsS.length).sum
 | [],a,h=>by simp[Gl.orS]
 | g :: r,a,h=>by
  simp only[Gl.orS] at h |-;by_cases h1:64<g.clsS.length
  ·rw[if_pos h1] at h;omega
  ·rw[if_neg h1] at h |-
   obtain⟨k1,k2⟩:=Gl.orS_parts r _ h;refine⟨fun x hx=>?_,?_⟩
   ·rcases d_.1 hx with rfl | hx
    ·omega
    ·exact k1 x hx
   ·rw[k2];simp;omega
theorem Gl.andS_parts:∀(l:List Gl) (a:List (List Gl)),(Gl.andS l a).length<=64->(∀x,x∈l->x.clsS.length<=64)
 | [],a,h=>by simp
 | g :: r,a,h=>by
  simp only[Gl.andS] at h;by_cases h1:64<g.clsS.length
  ·rw[if_pos h1] at h;omega
  ·rw[if_neg h1] at h
   by_cases h2:64<(J5 a g.clsS).length
   ·rw[if_pos h2] at h;omega
   ·rw[if_neg h2] at h
    have k1:=Gl.andS_parts r _ h;intro x hx;rcases d_.1 hx with rfl | hx
    ·omega
    ·exact k1 x hx
def Gl.prd:List Gl->Nat
 | []=>1
 | g :: r=>g.clsS.length * Gl.prd r
def V.sub (f:Int->V):V->V
 | .var n=>f n
 | .pair a b=>.pair (a.sub f) (b.sub f)
 | v=>v
def o7 (vs:List V) (n:Int):V:=vs.getD n.toNat .nil
theorem bA8 {vs:List V} {n:Int} (h0:0<=n) (h1:n<vs.length):vs[n.toNat]? = some (o7 vs n):=by
 have h:n.toNat<vs.length:=by omega
 rw[o7,N_,m_ h];rfl
abbrev FcV:=List UInt8×List V
def FcV.fc (f:FcV):Fc:=⟨f.1,f.2.map V.tm⟩
def Gl.testV (f:Int->V) (g:Gl):Bool:=
 match g.kind,g.terms with
 | 0,_=>true
 | 2,[a,b]=>decide ((a.V.sub f).cmp (b.V.sub f)=0)
 | 3,[a,b]=>!decide ((a.V.sub f).cmp (b.V.sub f)=0)
 | 4,[a]=>decide ((a.V.sub f).kind=2)
 | 5,[a]=>decide ((a.V.sub f).kind=3)
 | 6,[a,b]=>!(b.V.sub f).has (a.V.sub f).name
 | _,_=>false
def Gl.callV (f:Int->V) (g:Gl):FcV:=(g.name,g.terms.map fun t=>t.V.sub f)
def FcV.eq (a b:FcV):Bool:=decide (K5 a.1 a.2 b.1 b.2=0)
def H7 (f:Int->V):List Gl->List (Bool×FcV)->Bool
 | [],ks=>ks.isEmpty
 | g :: r,ks=>if g.kind=10 then false else if g.kind=9 then
   (match ks with
   | []=>false
   | k :: ks=>k.1 && k.2.eq (g.callV f) && H7 f r ks)
  else g.testV f && H7 f r ks
def y8 (f:Int->V) (c:List Gl):Bool:=c.all fun g=>decide (g.kind=9) || decide (g.kind=10) || g.testV f
def x9 (f:Int->V) (c:List Gl):List FcV:=(c.filter fun g=>decide (g.kind=9)).map (Gl.callV f)
def z8 (f:Int->V) (c:List Gl):List FcV:=((c.filter fun g=>decide (g.kind=10)).filterMap fun g=>g.goals.head?).map (Gl.callV f)
def am5:List (Bool×FcV)->List FcV->Bool
 | k :: ks,x :: xs=>k.1 && k.2.eq x && am5 ks xs
 | _,_=>true
theorem ap3 (f:Int->V):∀(c:List Gl) (ks:List (Bool×FcV)),(∀g,g∈c->g.kind=10->g.goals≠[]) ->
  H7 f c ks=(y8 f c && (decide (z8 f c=[]) && (decide ((x9 f c).length=ks.length) && am5 ks (x9 f c))))
 | [],ks,_=>by
  cases ks with
  | nil=>simp[H7,y8,z8,x9,am5]
  | cons k r=>simp[H7,y8,z8,x9]
 | g :: r,ks,hn=>by
  have ih:=fun ks=>ap3 f r ks (fun x hx=>hn x (by simp[hx]));have hg:=hn g (by simp);unfold H7;by_cases h10:g.kind=10
  ·obtain⟨x,q,hx⟩:∃x q,g.goals=x :: q:=by
    cases hgl:g.goals with
    | nil=>exact absurd hgl (hg h10)
    | cons x q=>exact⟨x,q,rfl⟩
   simp[h10,z8,hx]
  ·rw[if_neg h10]
   by_cases h9:g.kind=9
   ·rw[if_pos h9]
    have e1:y8 f (g :: r)=y8 f r:=by simp[y8,h9]
    have e2:z8 f (g :: r)=z8 f r:=by simp[z8,h9]
    have e3:x9 f (g :: r)=g.callV f :: x9 f r:=by simp[x9,h9]
    rw[e1,e2,e3];cases ks with
    | nil=>simp
    | cons k ks =>
     dsimp only;rw[ih ks];simp only[b_,am5];have e4:decide ((x9 f r).length+1=ks.length+1)=decide ((x9 f r).length=ks.length):=by simp
     rw[e4];cases k.1<;>cases k.2.eq (g.callV f)<;>cases y8 f r<;>cases decide (z8 f r=[])<;>cases decide ((x9 f r).length=ks.length)<;>simp
   ·rw[if_neg h9,ih ks]
    have e1:y8 f (g :: r)=(g.testV f && y8 f r):=by simp[y8,h9,h10]
    have e2:z8 f (g :: r)=z8 f r:=by simp[z8,h10]
    have e3:x9 f (g :: r)=x9 f r:=by simp[x9,h9]
    rw[e1,e2,e3,Bool.and_assoc]
def Pg.headV (p:Pg) (rel:List UInt8) (vals:List Tm):FcV:=(rel,(vals.map Tm.V).take (match p.rels[(p.find rel).toNat]? with | some r=>r.arity.toNat | none=>0))
def Pg.prfAt (p:Pg) (rel:List UInt8) (cl:Int) (vals:List Tm) (ks:List (Bool×FcV)):Bool:=
 decide (0<=p.find rel) && (match p.rels[(p.find rel).toNat]? with
  | none=>false
  | some r=>decide ((vals.length:Int)=r.arity+r.locals) && (vals.all Tm.ground && (decide (r.body.clsS.length<=64) && (decide (0<=cl) && (match r.body.clsS[cl.toNat]? with
   | none=>false
   | some c=>H7 (o7 (vals.map Tm.V)) c ks)))))
mutual
def Pg.prf (p:Pg):Pf->Bool
 | .mk rel cl vals kids=>p.prfAt rel cl vals (Pg.prfs p kids)
def Pg.prfs (p:Pg):List Pf->List (Bool×FcV)
 | []=>[]
 | k :: r=>(p.prf k,p.headV k.rel k.values) :: p.prfs r
end
theorem Pg.prf_eq (p:Pg) (t:Pf):p.prf t=p.prfAt t.rel t.clause t.values (p.prfs t.kids):=by
 cases t;simp only[Pg.prf,Pf.rel,Pf.clause,Pf.values,Pf.kids]
theorem Pg.prfs_eq (p:Pg):∀l:List Pf,p.prfs l=l.map fun k=>(p.prf k,p.headV k.rel k.values)
 | []=>rfl
 | k :: r=>by simp only[Pg.prfs,e_,Pg.prfs_eq p r]
theorem Pg.prfAt_neg {p:Pg} {rel:List UInt8} {cl:Int} {vals:List Tm} {ks:List (Bool×FcV)} (h:p.find rel<0):p.prfAt rel cl vals ks=false:=by
 unfold Pg.prfAt;rw[decide_eq_false (by omega),Bool.false_and]
theorem Pg.prfAt_at {p:Pg} {rel:List UInt8} {cl:Int} {vals:List Tm} {ks:List (Bool×FcV)} (h:0<=p.find rel) {r:Rl} (hr:p.rels[(p.find rel).toNat]? = some r) :
  p.prfAt rel cl vals ks=(decide ((vals.length:Int)=r.arity+r.locals) && (vals.all Tm.ground && (decide (r.body.clsS.length<=64) && (decide (0<=cl) && (match r.body.clsS[cl.toNat]? with
   | none=>false
   | some c=>H7 (o7 (vals.map Tm.V)) c ks))))):=by
 unfold Pg.prfAt;rw[decide_eq_true h,t_,hr]
theorem Pg.prf_head {p:Pg} {t:Pf} (h:p.prf t=true):0<=p.find t.rel/\∃r,p.rels[(p.find t.rel).toNat]? = some r/\(t.values.length:Int)=r.arity+r.locals/\t.values.all Tm.ground=true/\p.headV t.rel t.values=(t.rel,(t.values.map Tm.V).take r.arity.toNat):=by
 rw[Pg.prf_eq] at h;unfold Pg.prfAt at h;simp only[a_,decide_eq_true_eq] at h;obtain⟨h0,h1⟩:=h;refine⟨h0,?_⟩;split at h1
 ·exact absurd h1 (by simp)
 ·rename_i r hr
  simp only[a_,decide_eq_true_eq] at h1;exact⟨r,hr,h1.1,h1.2.1,by unfold Pg.headV;rw[hr]⟩
theorem G8 {t:Tm} (h:t.ground=true):M7 t=true:=by unfold Tm.ground at h;simp only[a_] at h;exact h.1
theorem ac0 {l:List Tm} (h:l.all Tm.ground=true):l=(l.map Tm.V).map V.tm:=by
 rw[x_];conv=>lhs;rw[<-List.map_id l]
 refine w_ fun t ht=>?_;exact Tm.V_of (G8 (c_.1 h t ht))
theorem Pf.ind' {Q:Pf->Prop} (h:∀t:Pf,(∀x,x∈t.kids->Q x)->Q t):∀t,Q t:=by
 intro t;induction t using Pf.ind with
 | h a0 a1 a2 a3 ih=>exact h _ ih
theorem Pf.wt_kids {t x:Pf} (h:x∈t.kids):wtL x.enc<wtL t.enc:=by
 have:=ai1 (t.kids.map Pf.enc) x.enc (i_.2 ⟨x,h,rfl⟩);simp only[Pf.enc_eq t,wtL,D.wt];omega
theorem Pf.wt_values {t:Pf} {x:Tm} (h:x∈t.values):wtL x.enc<wtL t.enc:=by
 have:=ai1 (t.values.map Tm.enc) x.enc (i_.2 ⟨x,h,rfl⟩);simp only[Pf.enc_eq t,wtL,D.wt];omega
mutual
def Pf.cnt:Pf->Nat
 | .mk _ _ _ ks=>1+Pf.cnts ks
def Pf.cnts:List Pf->Nat
 | []=>0
 | k :: r=>k.cnt+Pf.cnts r
end
theorem Pf.cnt_eq (t:Pf):t.cnt=1+Pf.cnts t.kids:=by cases t;simp only[Pf.cnt,Pf.kids]
theorem Pf.cnt_pos (t:Pf):1<=t.cnt:=by rw[Pf.cnt_eq];omega
mutual
def Pf.countF:Pf->Int->Int
 | .mk _ _ _ ks,most=>Pf.countL ks most 1
def Pf.countL:List Pf->Int->Int->Int
 | [],_,n=>n
 | k :: r,most,n=>if n > most then n else Pf.countL r most (n+k.countF (most - n))
end
theorem Pf.countF_eq (t:Pf) (most:Int):t.countF most=Pf.countL t.kids most 1:=by cases t;simp only[Pf.countF,Pf.kids]
theorem Pf.count_spec:∀(t:Pf) (most:Int),1<=t.countF most/\t.countF most<=t.cnt/\((t.cnt:Int)<=most->t.countF most=t.cnt)/\(most<t.cnt->most<t.countF most):=by
 intro t;induction t using Pf.ind' with
 | h t ih =>
  have key:∀(l:List Pf),(∀x,x∈l->x∈t.kids)->∀(most n:Int),n<=Pf.countL l most n/\Pf.countL l most n<=n+Pf.cnts l/\(n+(Pf.cnts l:Int)<=most->Pf.countL l most n=n+Pf.cnts l)/\(most<n+Pf.cnts l->most<Pf.countL l most n):=by
   intro l;induction l with
   | nil=>intro _ most n;simp only[Pf.countL,Pf.cnts];omega
   | cons k r ihl =>
    intro hl most n;obtain⟨i1,i2,i3,i4⟩:=ih k (hl k (by simp)) (most - n);obtain⟨j1,j2,j3,j4⟩:=ihl (fun x hx=>hl x (by simp[hx])) most (n+k.countF (most - n));simp only[Pf.countL,Pf.cnts];have hp:=Pf.cnt_pos k;split
    ·omega
    ·refine⟨by omega,by omega,fun h=>?_,fun h=>?_⟩
     ·have:=i3 (by omega);rw[j3 (by omega)];omega
     ·by_cases hk:(k.cnt:Int)<=most - n
      ·have:=i3 hk;exact j4 (by omega)
      ·have:=i4 (by omega);omega
  intro most;have:=key t.kids (fun x hx=>hx) most 1;rw[Pf.countF_eq,Pf.cnt_eq];omega
def bs7 (a b:Int):Int:=if a<b then b else a
mutual
def Pf.mea:Pf->Int->Int×Int
 | .mk _ _ _ ks,c=>Pf.meas ks 0 (c+1)
def Pf.meas:List Pf->Int->Int->Int×Int
 | [],h,c=>(h+1,c)
 | k :: r,h,c=>if c > 200 then (0,c) else Pf.meas r (bs7 h (k.mea c).1) (k.mea c).2
end
theorem Pf.mea_eq (t:Pf) (c:Int):t.mea c=Pf.meas t.kids 0 (c+1):=by cases t;simp only[Pf.mea,Pf.kids]
theorem Pf.mea_spec:∀(t:Pf) (c:Int),0<=(t.mea c).1/\(t.mea c).1<=t.cnt/\c<=(t.mea c).2/\(t.mea c).2<=c+t.cnt/\(c+t.cnt<=200->(t.mea c).2=c+t.cnt)/\(200<c+t.cnt->200<(t.mea c).2):=by
 intro t;induction t using Pf.ind' with
 | h t ih =>
  have key:∀(l:List Pf),(∀x,x∈l->x∈t.kids)->∀(h c:Int),0<=h->0<=(Pf.meas l h c).1/\(Pf.meas l h c).1<=h+1+Pf.cnts l/\c<=(Pf.meas l h c).2/\(Pf.meas l h c).2<=c+Pf.cnts l/\(c+(Pf.cnts l:Int)<=200->(Pf.meas l h c).2=c+Pf.cnts l)/\(200<c+Pf.cnts l->200<(Pf.meas l h c).2):=by
   intro l;induction l with
   | nil=>intro _ h c h0;simp only[Pf.meas,Pf.cnts];omega
   | cons k r ihl =>
    intro hl h c h0;have i:=ih k (hl k (by simp)) c;have hm:0<=bs7 h (k.mea c).1/\bs7 h (k.mea c).1<=h+k.cnt:=by unfold bs7;split<;>omega
    have j:=ihl (fun x hx=>hl x (by simp[hx])) (bs7 h (k.mea c).1) (k.mea c).2 hm.1;simp only[Pf.meas,Pf.cnts];have hp:=Pf.cnt_pos k;split
    ·dsimp only;omega
    ·obtain⟨i1,i2,i3,i4,i5,i6⟩:=i
     obtain⟨j1,j2,j3,j4,j5,j6⟩:=j;refine⟨by omega,by omega,by omega,by omega,fun h=>?_,fun h=>?_⟩
     ·have:=i5 (by omega);rw[j5 (by omega)];omega
     ·by_cases hk:c+(k.cnt:Int)<=200
      ·have:=i5 hk;exact j6 (by omega)
      ·have:=i6 (by omega);omega
  intro c;have:=key t.kids (fun x hx=>hx) 0 (c+1) (by omega);rw[Pf.mea_eq,Pf.cnt_eq];omega
theorem Pf.cnt_le_wt:∀t:Pf,t.cnt<=1+wtL t.enc:=by
 intro t;induction t using Pf.ind' with
 | h t ih =>
  have key:∀(l:List Pf),(∀x,x∈l->x∈t.kids)->Pf.cnts l<=wtR (l.map Pf.enc):=by
   intro l;induction l with
   | nil=>intro _;simp[Pf.cnts]
   | cons k r ihl =>
    intro hl;have:=ih k (hl k (by simp));have:=ihl (fun x hx=>hl x (by simp[hx]));simp only[Pf.cnts,e_,wtR];omega
  have:=key t.kids (fun x hx=>hx);rw[Pf.cnt_eq,Pf.enc_eq];simp only[wtL,D.wt];omega
def Pf.sizeI (t:Pf):Int:=if t.cnt<=200 then t.cnt else 0
theorem Pf.size_mea (t:Pf):t.sizeI=if (t.mea 0).2 > 200 then 0 else (t.mea 0).2:=by
 have:=Pf.mea_spec t 0;unfold Pf.sizeI;split<;>split<;>omega
def Pg.prfOk (p:Pg) (t:Pf):Bool:=M9 p && (decide (t.cnt<=200) && p.prf t)
def bl8:Nat->List V->List Bd
 | _,[]=>[]
 | k,v :: r=>⟨k,v.tm⟩ :: bl8 (k+1) r
theorem aH9:∀(l:List V) (k:Nat),(bl8 k l).length=l.length
 | [],_=>rfl
 | v :: r,k=>by simp[bl8,aH9 r (k+1)]
theorem by6:∀(l:List V) (k i:Nat) (v:V),l[i]? = some v->(bl8 k l)[i]? = some ⟨((k+i:Nat):Int),v.tm⟩
 | [],_,_,_,h=>by simp at h
 | v :: r,k,0,w,h=>by simp at h;subst h;rfl
 | v :: r,k,i+1,w,h=>by
  simp only[I_] at h;have:=by6 r (k+1) i w h;simp only[bl8,I_,this];rw[show k+1+i=k+(i+1) by omega]
theorem aQ6:∀(l:List V) (k:Nat) (v:V),bl8 k (l++[v])=bl8 k l++[⟨((k+l.length:Nat):Int),v.tm⟩]
 | [],k,v=>by simp[bl8]
 | w :: r,k,v=>by simp only[k_,bl8,aQ6 r (k+1) v,b_,show k+1+r.length=k+(r.length+1) by omega]
mutual
def Gl.ins (f:Int->V):Gl->Gl
 | .mk k n ts gs=>.mk k n (ts.map fun t=>(t.V.sub f).tm) (Gl.inss f gs)
def Gl.inss (f:Int->V):List Gl->List Gl
 | []=>[]
 | g :: r=>g.ins f :: Gl.inss f r
end
theorem V.fine_vars:∀v:V,v.fine=true->∀n,n∈v.vars->0<=n/\n<=100000
 | .nil,_,n,hn=>by simp[V.vars] at hn
 | .var m,h,n,hn=>by simp[V.vars] at hn;subst hn;simpa[V.fine] using h
 | .sym _,_,n,hn=>by simp[V.vars] at hn
 | .num _,_,n,hn=>by simp[V.vars] at hn
 | .pair a b,h,n,hn=>by
  simp only[V.fine,a_] at h;simp only[V.vars,n_] at hn;rcases hn with hn | hn
  ·exact V.fine_vars a h.1 n hn
  ·exact V.fine_vars b h.2 n hn
theorem bn8 {t:Tm} (h:M7 t=true):∀n,n∈t.vars->0<=n/\n<=100000:=by
 obtain⟨v,rfl,hv⟩:=bn9 h;rw[V.vars_tm];exact V.fine_vars v hv
theorem Gl.vars_terms {t:Gl} {x:Tm} (h:x∈t.terms):∀n,n∈x.vars->n∈t.vars:=fun n hn=>by
 rw[Gl.vars_eq,Tm.varss_eq];exact List.mem_append_left _ (r_.2 ⟨x,h,hn⟩)
theorem Gl.vars_goals {t x:Gl} (h:x∈t.goals):∀n,n∈x.vars->n∈t.vars:=fun n hn=>by
 rw[Gl.vars_eq,Gl.varss_eq];exact List.mem_append_right _ (r_.2 ⟨x,h,hn⟩)
theorem Gl.vars_sub {t:Gl}:∀x,x∈t.subs->∀n,n∈x.vars->n∈t.vars:=
 Gl.subs_ind (Q:=fun y=>∀n,n∈y.vars->n∈t.vars) (fun y h x hx n hn=>h n (Gl.vars_goals hx n hn)) t (fun _ h=>h)
def Gl.inst (m:Nat) (g:Gl):Prop:=g.shape=true/\∀n,n∈g.vars->0<=n/\n<m
theorem Gl.inst_terms {m:Nat} {g:Gl} (h:g.inst m):∀t,t∈g.terms->t.enc=t.V.enc/\∀n,n∈t.V.vars->0<=n/\n<m:=fun t ht=>by
 have hok:=Gl.shape_terms h.1 t ht;refine⟨Tm.enc_V hok,fun n hn=>?_⟩;rw[<-Tm.vars_V hok] at hn;exact h.2 n (Gl.vars_terms ht n hn)
theorem Gl.inst_sub {m:Nat} {g:Gl} (h:g.inst m):∀x,x∈g.subs->x.inst m:=fun x hx=>⟨Gl.shape_sub h.1 x hx,fun n hn=>h.2 n (Gl.vars_sub x hx n hn)⟩
theorem Gl.vars_nonneg {g:Gl} (h:g.shape=true):∀n,n∈g.vars->0<=n:=fun n hn=>by
 rw[Gl.vars_subs] at hn;obtain⟨x,hx,hn⟩:=r_.1 hn;rw[Tm.varss_eq] at hn;obtain⟨t,ht,hn⟩:=r_.1 hn;exact(bn8 (Gl.shape_terms (Gl.shape_sub h x hx) t ht) n hn).1
theorem Pg.body_inst {p:Pg} (h:M9 p=true) {r:Rl} (hr:r∈p.rels) {m:Nat} (hm:(m:Int)=r.arity+r.locals):r.body.inst m/\0<=r.arity/\0<=r.locals/\r.arity<=4/\r.locals<=8/\r.body.cnt<=60:=by
 unfold M9 at h;simp only[a_] at h;obtain⟨i,hi⟩:=Z8 h.2 r hr;unfold Pg.relOk at hi;simp only[a_,decide_eq_true_eq] at hi;obtain⟨⟨⟨⟨⟨⟨⟨_,_⟩,ha⟩,hl⟩,hc⟩,hs⟩,hv⟩,_⟩:=hi;unfold Gl.varsLt at hv;simp only[c_,decide_eq_true_eq] at hv;exact⟨⟨hs,fun n hn=>⟨Gl.vars_nonneg hs n hn,by have:=hv n hn;omega⟩⟩,ha.1,hl.1,ha.2,hl.2,hc⟩
theorem Gl.shape_cases {g:Gl} (h:g.shape=true) :
  ((g.kind=0\/g.kind=1)/\g.terms=[])\/((g.kind=2\/g.kind=3\/g.kind=6)/\∃a b,g.terms=[a,b]/\M7 a=true/\M7 b=true)\/((g.kind=4\/g.kind=5)/\∃a,g.terms=[a]/\M7 a=true)\/7<=g.kind:=by
 have ht:=Gl.shape_terms h;have hs:=h;rw[Gl.shape_eq] at hs;simp only[a_] at hs;have hf:=Gl.form_inv hs.1.1;by_cases h7:7<=g.kind
 ·exact .inr (.inr (.inr h7))
 have h0:(g.kind=0\/g.kind=1)->(g.terms.length:Int)=0:=fun hk=>by
  have e:x8 g.kind=0:=by rcases hk with hk | hk<;>rw[hk]<;>rfl
  rw[e] at hf;omega
 have h2:(g.kind=2\/g.kind=3\/g.kind=6)->(g.terms.length:Int)=2:=fun hk=>by
  have e:x8 g.kind=2:=by rcases hk with hk | hk | hk<;>rw[hk]<;>rfl
  rw[e] at hf;omega
 have h1:(g.kind=4\/g.kind=5)->(g.terms.length:Int)=1:=fun hk=>by
  have e:x8 g.kind=1:=by rcases hk with hk | hk<;>rw[hk]<;>rfl
  rw[e] at hf;omega
 by_cases c0:g.kind=0\/g.kind=1
 ·exact .inl ⟨c0,A_ (by have:=h0 c0;omega)⟩
 ·by_cases c1:g.kind=4\/g.kind=5
  ·obtain⟨a,e⟩:=bt6 (h1 c1)
   exact .inr (.inr (.inl ⟨c1,a,e,ht a (by simp[e])⟩))
  ·have c2:g.kind=2\/g.kind=3\/g.kind=6:=by omega
   obtain⟨a,b,e⟩:=bP2 (h2 c2);exact .inr (.inl ⟨c2,a,b,e,ht a (by simp[e]),ht b (by simp[e])⟩)
theorem Gl.shape_len {g:Gl} (h:g.shape=true):g.terms.length<=4/\g.goals.length<=8:=by
 have hs:=h;rw[Gl.shape_eq] at hs;simp only[a_] at hs;have hf:=Gl.form_inv hs.1.1;have:=an3 g.kind;omega
theorem Gl.shape_not {g:Gl} (h:g.shape=true) (hk:g.kind=10):∃x,g.goals=[x]:=by
 have hs:=h;rw[Gl.shape_eq] at hs;simp only[a_] at hs;have hf:=Gl.form_inv hs.1.1;exact bt6 (by omega)
theorem aW0 (f:Int->V) (d:List Gl) (g:Gl):x9 f (d++[g])=x9 f d++(if g.kind=9 then [g.callV f] else []):=by
 unfold x9;by_cases h:g.kind=9<;>simp[h]
theorem aW1 (f:Int->V) (d:List Gl) (g:Gl):z8 f (d++[g])=z8 f d++(if g.kind=10 then (g.goals.head?.toList.map (Gl.callV f)) else []):=by
 unfold z8;by_cases h:g.kind=10
 ·cases hh:g.goals.head?<;>simp[h,hh]
 ·simp[h]
theorem aC9 (f:Int->V) (d:List Gl):(x9 f d).length<=d.length:=by unfold x9;rw[o_];exact T_ _ _
mutual
def Gl.nc:Gl->Nat->Nat
 | .mk k _ _ gs,i=>if k=8 then Gl.ncOr gs i else if k=7 then Gl.ncAnd gs i else if k=9 then 1 else 0
def Gl.ncOr:List Gl->Nat->Nat
 | [],_=>0
 | g :: r,i=>if i<g.clsS.length then Gl.nc g i else Gl.ncOr r (i - g.clsS.length)
def Gl.ncAnd:List Gl->Nat->Nat
 | [],_=>0
 | g :: r,i=>Gl.nc g (i / Gl.prd r % g.clsS.length)+Gl.ncAnd r i
end
mutual
def Gl.cn:Gl->Nat->List (List UInt8)
 | .mk k n _ gs,i=>if k=8 then Gl.cnOr gs i else if k=7 then Gl.cnAnd gs i else if k=9 then [n] else []
def Gl.cnOr:List Gl->Nat->List (List UInt8)
 | [],_=>[]
 | g :: r,i=>if i<g.clsS.length then Gl.cn g i else Gl.cnOr r (i - g.clsS.length)
def Gl.cnAnd:List Gl->Nat->List (List UInt8)
 | [],_=>[]
 | g :: r,i=>Gl.cn g (i / Gl.prd r % g.clsS.length)++Gl.cnAnd r i
end
theorem Gl.cn_eq (g:Gl) (i:Nat):g.cn i=if g.kind=8 then Gl.cnOr g.goals i else if g.kind=7 then Gl.cnAnd g.goals i else if g.kind=9 then [g.name] else []:=by
 cases g;simp only[Gl.cn,Gl.kind,Gl.goals,Gl.name];rfl
def U0 (c:List Gl):List (List UInt8):=(c.filter fun g=>decide (g.kind=9)).map Gl.name
theorem FcV.eq_rel {a b:FcV} (h:a.eq b=true):a.1=b.1:=by
 simp only[FcV.eq,decide_eq_true_eq] at h;unfold K5 at h;split at h
 ·split at h<;>omega
 ·rename_i hh;exact Decidable.not_not.1 hh
theorem bl3 (a b:List Gl):U0 (a++b)=U0 a++U0 b:=by simp[U0,List.filter_append]
theorem ac4 {f:Int->V}:∀{c:List Gl} {ks:List (Bool×FcV)},H7 f c ks=true->(ks.map fun k=>k.2.1)=U0 c/\∀k,k∈ks->k.1=true
 | [],ks,h=>by
  simp only[H7,List.isEmpty_iff] at h;subst h;simp[U0]
 | g :: r,ks,h=>by
  simp only[H7] at h;by_cases h10:g.kind=10
  ·rw[if_pos h10] at h;cases h
  ·rw[if_neg h10] at h
   by_cases h9:g.kind=9
   ·rw[if_pos h9] at h
    cases ks with
    | nil=>cases h
    | cons k ks =>
     simp only[a_] at h;obtain⟨i1,i2⟩:=ac4 h.2;refine⟨by rw[e_,i1,FcV.eq_rel h.1.2];simp[U0,h9,Gl.callV],fun x hx=>?_⟩;rcases d_.1 hx with rfl | hx
     ·exact h.1.1
     ·exact i2 x hx
   ·rw[if_neg h9] at h
    simp only[a_] at h;obtain⟨i1,i2⟩:=ac4 h.2;exact⟨by rw[i1];simp[U0,h9],i2⟩
theorem ba4 {α:Type}:∀(a l:List (List α)) (i:Nat) (c:List α),(J5 a l)[i]? = some c->∃x y,a[i / l.length]? = some x/\l[i % l.length]? = some y/\c=x++y
 | [],l,i,c,h=>by simp[J5] at h
 | x :: a,l,i,c,h=>by
  have hp:J5 (x :: a) l=(l.map fun y=>x++y)++J5 a l:=by simp[J5]
  rw[hp] at h;have hl0:0<l.length:=by
   rcases Nat.eq_zero_or_pos l.length with h0 | h0
   ·have:l=[]:=ai_.1 h0
    subst this;have hz:(J5 a ([]:List (List α))).length=0:=by rw[au6];simp
    rw[ai_.1 hz] at h;simp at h
   ·exact h0
  by_cases hi:i<l.length
  ·rw[ad_ (by simpa using hi)] at h
   simp only[List.getElem?_map,ag_] at h;obtain⟨y,hy,rfl⟩:=h;refine⟨x,y,?_,?_,rfl⟩
   ·rw[Nat.div_eq_of_lt hi];rfl
   ·rw[Nat.mod_eq_of_lt hi];exact hy
  ·rw[ac_ (by simp;omega)] at h
   simp only[o_] at h;obtain⟨u,y,h1,h2,h3⟩:=ba4 a l _ c h;obtain⟨j,rfl⟩:∃j,i=j+l.length:=⟨i - l.length,by omega⟩;rw[Nat.add_sub_cancel] at h1 h2;refine⟨u,y,?_,?_,h3⟩
   ·rw[Nat.add_div_right _ hl0];simpa using h1
   ·rw[Nat.add_mod_right];exact h2
theorem Gl.cn_calls:∀(t:Gl),t.clsS.length<=64->∀(i:Nat) (c:List Gl),t.clsS[i]? = some c->U0 c=t.cn i:=by
 intro t;induction t using Gl.ind' with
 | h t ih =>
  intro hl i c hc;rw[Gl.cn_eq];rw[Gl.clsS_eq] at hl hc;by_cases h0:t.kind=0
  ·rw[if_pos h0] at hc
   rw[if_neg (by omega),if_neg (by omega),if_neg (by omega)];cases i with
   | zero=>simp at hc;subst hc;rfl
   | succ i=>simp at hc
  rw[if_neg h0] at hl hc;by_cases h1:t.kind=1
  ·rw[if_pos h1] at hc;simp at hc
  rw[if_neg h1] at hl hc;by_cases h8:t.kind=8
  ·rw[if_pos h8] at hl hc |-
   have key:∀(l:List Gl) (a:List (List Gl)) (j:Nat),(∀x,x∈l->x∈t.goals)->(Gl.orS l a).length<=64->(Gl.orS l a)[a.length+j]? = some c->U0 c=Gl.cnOr l j:=by
    intro l;induction l with
    | nil=>intro a j _ _ h;simp[Gl.orS] at h
    | cons g r ihr =>
     intro a j hm hle h;have hp:=(Gl.orS_parts _ _ hle).1;have hg:=hp g (by simp);simp only[Gl.orS,if_neg (show ¬64<g.clsS.length by omega)] at h hle;simp only[Gl.cnOr];by_cases hj:j<g.clsS.length
     ·rw[if_pos hj]
      refine ih g (hm g (by simp)) hg j c ?_;have hpre:∀(l:List Gl) (a:List (List Gl)) (k:Nat),(Gl.orS l a).length<=64->k<a.length->(Gl.orS l a)[k]? = a[k]?:=by
       intro l;induction l with
       | nil=>intro a k _ _;simp[Gl.orS]
       | cons x r ih2 =>
        intro a k h1 h2;have:=(Gl.orS_parts _ _ h1).1 x (by simp);simp only[Gl.orS,if_neg (show ¬64<x.clsS.length by omega)] at h1 |-;rw[ih2 _ k h1 (by simp;omega),ad_ h2]
      rw[hpre r _ _ hle (by simp;omega),ac_ (by omega)] at h;simpa using h
     ·rw[if_neg hj]
      refine ihr (a++g.clsS) (j - g.clsS.length) (fun x hx=>hm x (by simp[hx])) hle ?_;rw[<-h];congr 1;simp;omega
   exact key t.goals [] i (fun x hx=>hx) hl (by simpa using hc)
  rw[if_neg h8] at hl hc |-;by_cases h7:t.kind=7
  ·rw[if_pos h7] at hl hc |-
   have key:∀(l:List Gl) (a:List (List Gl)) (j:Nat),(∀x,x∈l->x∈t.goals)->(Gl.andS l a).length<=64->(Gl.andS l a)[j]? = some c->∃u,a[j / Gl.prd l]? = some u/\U0 c=U0 u++Gl.cnAnd l j:=by
    intro l;induction l with
    | nil=>intro a j _ _ h;simp only[Gl.andS] at h;exact⟨c,by simpa[Gl.prd] using h,by simp[Gl.cnAnd]⟩
    | cons g r ihr =>
     intro a j hm hle h;have hg:=Gl.andS_parts _ _ hle g (by simp);simp only[Gl.andS,if_neg (show ¬64<g.clsS.length by omega)] at h hle;by_cases h2:64<(J5 a g.clsS).length
     ·rw[if_pos h2] at hle;omega
     rw[if_neg h2] at h hle;obtain⟨u,hu,hcu⟩:=ihr _ j (fun x hx=>hm x (by simp[hx])) hle h;obtain⟨x,y,hx,hy,rfl⟩:=ba4 _ _ _ _ hu;have hny:=ih g (hm g (by simp)) hg _ y hy;refine⟨x,?_,?_⟩
     ·rw[<-hx];congr 1
      simp only[Gl.prd];rw[Nat.div_div_eq_div_mul,al_]
     ·simp only[Gl.cnAnd]
      rw[hcu,bl3,hny,D_]
   obtain⟨u,hu,he⟩:=key t.goals [[]] i (fun x hx=>hx) hl hc;rw[he];cases hq:i / Gl.prd t.goals with
   | zero=>rw[hq] at hu;simp at hu;subst hu;simp[U0]
   | succ n=>rw[hq] at hu;simp at hu
  rw[if_neg h7] at hl hc |-;cases i with
  | zero =>
   simp at hc;subst hc;by_cases h9:t.kind=9
   ·simp[U0,h9]
   ·simp[U0,h9]
  | succ i=>simp at hc
theorem Pg.prf_kids {p:Pg} {t:Pf} (h:p.prf t=true):0<=p.find t.rel/\∃r,p.rels[(p.find t.rel).toNat]? = some r/\r∈p.rels/\r.body.clsS.length<=64/\0<=t.clause/\t.clause.toNat<r.body.clsS.length/\t.kids.map Pf.rel=r.body.cn t.clause.toNat/\∀k,k∈t.kids->p.prf k=true:=by
 rw[Pg.prf_eq] at h;unfold Pg.prfAt at h;simp only[a_,decide_eq_true_eq] at h;obtain⟨h0,h1⟩:=h;refine⟨h0,?_⟩;split at h1
 ·exact absurd h1 (by simp)
 ·rename_i r hr
  simp only[a_,decide_eq_true_eq] at h1;obtain⟨_,_,h2,h3,h4⟩:=h1;split at h4
  ·cases h4
  ·rename_i c hc
   obtain⟨i1,i2⟩:=ac4 h4;refine⟨r,hr,p_ hr,h2,h3,(f_.1 hc).1,?_,fun k hk=>?_⟩
   ·rw[<-Gl.cn_calls _ h2 _ c hc,<-i1,Pg.prfs_eq,x_];rfl
   ·rw[Pg.prfs_eq] at i2
    exact i2 _ (i_.2 ⟨k,hk,rfl⟩)
def dec (n:Int):List UInt8:=Lib.itoa n
theorem P8 {n:Int} (h0:-1000000000<=n) (h1:n<=1000000000):(dec n).length<=21:=Lib.itoa_length_le n (by omega) (by omega)
theorem X0 {n:Int} (h:0<=n):dec n=Lib.decDigits n.toNat:=by unfold dec Lib.itoa;rw[if_neg (by omega)]
theorem P7 {n:Int} (h:n<0):dec n=45 :: Lib.decDigits n.natAbs:=by unfold dec Lib.itoa;rw[if_pos h]
theorem bR4 {n:Int} (h:n<0) (h9:-10<n):dec n=[45,UInt8.ofNat (48 - n).toNat]:=by
 rw[P7 h,Lib.decDigits,dif_pos (by omega)];congr 3;omega
theorem bG7 {n:Int} (h:n<0) (h9:n<=-10):dec n=dec (n.tdiv 10)++[UInt8.ofNat (48 - n.tmod 10).toNat]:=by
 obtain⟨m,rfl⟩:∃m:Nat,n=-(m:Int):=⟨n.natAbs,by omega⟩;have e1:(-(m:Int)).tdiv 10=-((m / 10:Nat):Int):=by rw[Int.neg_tdiv,af_ (by omega)];omega
 have e2:(-(m:Int)).tmod 10=-((m % 10:Nat):Int):=by rw[Int.neg_tmod,ae_ (by omega)];omega
 rw[e1,e2,P7 h,P7 (n:=-((m / 10:Nat):Int)) (by omega),Lib.decDigits,dif_neg (by omega)];have e3:(-(m:Int)).natAbs=m:=by omega
 have e4:(-((m / 10:Nat):Int)).natAbs=m / 10:=by omega
 rw[e3,e4,k_];congr 4;omega
def ab6 (by_:List UInt8):List (List UInt8)->List UInt8
 | []=>[]
 | x :: r=>x++r.flatMap fun y=>by_++y
namespace V
def txs:V->List UInt8×List UInt8
 | nil=>([40,41],[41])
 | var n=>(63 :: dec n,[32,46,32]++(63 :: dec n)++[41])
 | sym s=>(s,[32,46,32]++s++[41])
 | num n=>(dec n,[32,46,32]++dec n++[41])
 | pair a b=>(40 :: (a.txs.1++b.txs.2),32 :: (a.txs.1++b.txs.2))
def txt (v:V):List UInt8:=v.txs.1
def tl (v:V):List UInt8:=v.txs.2
theorem txt_pair (a b:V):(pair a b).txt=40 :: (a.txt++b.tl):=rfl
theorem tl_pair (a b:V):(pair a b).tl=32 :: (a.txt++b.tl):=rfl
theorem tl_nil:nil.tl=[41]:=rfl
theorem tl_atom {v:V} (h:v.kind≠4) (h0:v.kind≠0):v.tl=[32,46,32]++v.txt++[41]:=by
 cases v<;>first | rfl | exact absurd rfl h | exact absurd rfl h0
theorem txs_len:∀v:V,v.fine=true->v.txt.length<=26 * v.size/\v.tl.length<=26 * v.size/\1<=v.txt.length
 | nil,_=>by simp[txt,tl,txs,size]
 | var n,h=>by
  simp[fine] at h;have:=P8 (n:=n) (by omega) (by omega);simp[txt,tl,txs,size];omega
 | sym s,h=>by
  have:=H5 (s:=s) h;simp[txt,tl,txs,size];omega
 | num n,h=>by
  simp[fine] at h;have:=P8 (n:=n) (by omega) (by omega);have h1:1<=(dec n).length:=by
   have hd:∀u,1<=(Lib.decDigits u).length:=fun u=>by rw[Lib.decDigits];split<;>simp
   by_cases hn:n<0
   ·rw[P7 hn];simp
   ·rw[X0 (by omega)];exact hd _
  simp[txt,tl,txs,size];omega
 | pair a b,h=>by
  simp[fine] at h;have h1:=txs_len a h.1;have h2:=txs_len b h.2;simp only[txt_pair,tl_pair,b_,g_,size];omega
theorem txt_len {v:V} (h:v.ok=true):v.txt.length<=130000:=by
 simp[ok] at h;have:=(txs_len v h.1).1;omega
theorem txt_ne {v:V} (h:v.fine=true):v.txt≠[]:=fun e=>by have:=(txs_len v h).2.2;rw[e] at this;simp at this
end V
def U4 (k:Int):List UInt8:=
 if k=0 then [116,114,117,101] else if k=1 then [102,97,105,108] else if k=2 then [61] else if k=3 then [47,61] else if k=4 then [115,121,109,98,111,108] else
 if k=5 then [110,117,109,98,101,114] else if k=6 then [97,98,115,101,110,116] else if k=7 then [97,110,100] else if k=8 then [111,114] else if k=10 then [110,111,116] else []
theorem aw1 (k:Int):(U4 k).length<=6:=by
 unfold U4;repeat' split
 all_goals decide
mutual
def Gl.txt:Gl->List UInt8
 | .mk k n ts gs=>if k<=1 then U4 k++n else 40 :: (ab6 [32] ((U4 k++n) :: (ts.map (fun t=>t.V.txt)++Gl.txts gs))++[41])
def Gl.txts:List Gl->List (List UInt8)
 | []=>[]
 | g :: r=>Gl.txt g :: Gl.txts r
end
theorem Gl.txts_eq:∀l:List Gl,Gl.txts l=l.map Gl.txt
 | []=>by simp only[Gl.txts,u_]
 | g :: r=>by simp only[Gl.txts,e_,Gl.txts_eq r]
def Gl.words (g:Gl):List (List UInt8):=(U4 g.kind++g.name) :: (g.terms.map (fun t=>t.V.txt)++g.goals.map Gl.txt)
theorem Gl.txt_eq (g:Gl):g.txt=if g.kind<=1 then U4 g.kind++g.name else 40 :: (ab6 [32] g.words++[41]):=by
 cases g;simp only[Gl.txt,Gl.txts_eq,Gl.words,Gl.kind,Gl.name,Gl.terms,Gl.goals];rfl
theorem bb7 (by_:List UInt8):∀l:List (List UInt8),(l.flatMap fun y=>by_++y).length=l.length * by_.length+(l.map List.length).sum
 | []=>by simp
 | x :: r=>by
  have:=bb7 by_ r;simp only[l_,g_,b_,e_,s_,this,X_];omega
theorem bo5 {l:List Nat} {b:Nat} (h:∀x,x∈l->x<=b):l.sum<=l.length * b:=by
 induction l with
 | nil=>simp
 | cons x r ih =>
  have h1:=h x (by simp);have h2:=ih (fun y hy=>h y (by simp[hy]));simp only[s_,b_,X_];omega
theorem Gl.form_sizes {g:Gl} (h:g.form=true):(g.kind≠9->g.name=[])/\g.name.length<=12/\g.terms.length<=4/\g.goals.length<=8/\0<=g.kind/\g.kind<=10:=by
 rcases Gl.form_inv h with ⟨h1,h2,h3,h4⟩ | h
 ·have:D7 g.name=true:=by unfold J6 at h2;simp at h2;exact h2.2
  have:=H5 this;exact⟨fun h=>absurd h1 h,by omega,by omega,by omega,by omega,by omega⟩
 ·have:=an3 g.kind
  rcases h with h | h<;>(try rcases h with h | h)<;>(try rcases h with h | h)<;>simp_all<;>omega
theorem av7 (by_:List UInt8) (l:List (List UInt8)):(ab6 by_ l).length<=l.length * by_.length+(l.map List.length).sum:=by
 cases l with
 | nil=>simp[ab6]
 | cons x r =>
  simp only[ab6,g_,bb7,b_,e_,s_,X_];omega
theorem Gl.cnts_sum:∀l:List Gl,Gl.cnts l=(l.map Gl.cnt).sum
 | []=>by simp only[Gl.cnts,u_,List.sum_nil]
 | g :: r=>by simp only[Gl.cnts,e_,s_,Gl.cnts_sum r]
theorem Gl.cnt_mem {g x:Gl} (h:x∈g.goals):x.cnt<g.cnt:=by
 have hc:=Gl.cnt_eq g;rw[Gl.cnts_sum] at hc;have:∀l:List Gl,x∈l->x.cnt<=(l.map Gl.cnt).sum:=by
  intro l hl;induction l with
  | nil=>simp at hl
  | cons y r ih =>
   simp only[e_,s_];rcases d_.1 hl with rfl | hl
   ·omega
   ·have:=ih hl;omega
 have:=this _ h;omega
theorem Gl.words_len {g:Gl} (h:g.shape=true) (ih:∀x,x∈g.goals->x.txt.length+20<=600000 * x.cnt):(ab6 [32] g.words).length+22<=600000 * g.cnt:=by
 rw[Gl.shape_eq] at h;simp only[a_] at h;obtain⟨⟨h1,h2⟩,h3⟩:=h;obtain⟨_,f2,f3,f4,_,_⟩:=Gl.form_sizes h1;have hj:=av7 [32] g.words;have hh:=aw1 g.kind;have ht:((g.terms.map fun t=>t.V.txt).map List.length).sum<=g.terms.length * 130000:=by
  have:=bo5 (l:=(g.terms.map fun t=>t.V.txt).map List.length) (b:=130000) (fun x hx=>by
   simp only[x_,i_,Function.comp_apply] at hx;obtain⟨t,ht,rfl⟩:=hx;obtain⟨v,e,hv⟩:=as4 (c_.1 h2 t ht);have:t.V=v:=by
    have hf:v.fine=true:=by simp[V.ok] at hv;exact hv.1
    rw[e];simp[Tm.V,V.v?_tm v hf]
   rw[this];exact V.txt_len hv)
  simpa using this
 have hg:((g.goals.map Gl.txt).map List.length).sum+g.goals.length<=600000 * (g.goals.map Gl.cnt).sum:=by
  generalize g.goals=l at ih;induction l with
  | nil=>simp
  | cons x r ihr =>
   have a:=ih x (by simp);have b:=ihr (fun y hy=>ih y (by simp[hy]));simp only[e_,s_,b_];omega
 have hc:=Gl.cnt_eq g;rw[Gl.cnts_sum] at hc;simp only[Gl.words,b_,g_,o_,e_,List.map_append,s_,List.sum_append,q_] at hj |-;omega
theorem Gl.txt_len:∀g:Gl,g.shape=true->g.txt.length+20<=600000 * g.cnt:=by
 intro g;induction g using Gl.ind' with
 | h g ih =>
  intro h;have h3:g.goals.all Gl.shape=true:=by rw[Gl.shape_eq] at h;simp only[a_] at h;exact h.2
  have hw:=Gl.words_len h (fun x hx=>ih x hx (c_.1 h3 x hx));rw[Gl.txt_eq];split
  ·have h1:g.form=true:=by rw[Gl.shape_eq] at h;simp only[a_] at h;exact h.1.1
   have:=(Gl.form_sizes h1).2.1;have hh:=aw1 g.kind;have:=g.cnt_pos;rw[g_];omega
  ·simp only[b_,g_,q_];omega
def bm3 (by_:List UInt8) (l r:List (List UInt8)) (acc:List UInt8):Prop:=(r.length=l.length->acc=[])/\(r.length<l.length->acc++r.flatMap (fun y=>by_++y)=ab6 by_ l)
theorem aC2 {by_:List UInt8} {l r:List (List UInt8)} {x acc:List UInt8} {i:Nat} (hd:l.drop i=x :: r) (h:bm3 by_ l (x :: r) acc):(i=0->acc=[]/\bm3 by_ l r x)/\(0<i->bm3 by_ l r (acc++by_++x)):=by
 have hl:r.length+1=l.length - i:=by have:=congrArg List.length hd;simp at this;omega
 refine⟨fun h0=>?_,fun h0=>?_⟩
 ·subst h0
  simp at hd;subst hd;refine⟨h.1 rfl,fun e=>by simp at e,fun _=>by simp[ab6]⟩
 ·have:=h.2 (by simp only[b_];omega)
  refine⟨fun e=>by omega,fun _=>?_⟩;rw[<-this];simp
theorem bu4 {by_:List UInt8} {l r:List (List UInt8)} {x acc:List UInt8} {i:Nat} (hd:l.drop i=x :: r) (h:bm3 by_ l (x :: r) acc):acc.length+x.length+(if 0<i then by_.length else 0)<=(ab6 by_ l).length:=by
 obtain⟨h1,h2⟩:=aC2 hd h;have hl:r.length+1=l.length - i:=by have:=congrArg List.length hd;simp at this;omega
 split
 ·rename_i h0
  have:=congrArg List.length ((h2 h0).2 (by omega));simp only[g_] at this;omega
 ·obtain⟨rfl,h3⟩:=h1 (by omega)
  by_cases hr:r.length<l.length
  ·have:=congrArg List.length (h3.2 hr)
   simp only[g_] at this;simp;omega
  ·omega
theorem bu5 {by_:List UInt8} {l:List (List UInt8)} {acc:List UInt8} (h:bm3 by_ l [] acc):acc=ab6 by_ l:=by
 cases l with
 | nil=>exact h.1 rfl
 | cons x r=>simpa using h.2 (by simp)
theorem ae9:∀l:List UInt8,bytesOf (bytesD l)=some (l.map fun b=>(b.toNat:Int))
 | []=>rfl
 | x :: r=>by
  have:=ae9 r;simp only[bytesD,e_] at this |-;simp only[bytesOf,this,Option.map_some]
theorem bl4 (l:List UInt8):(l.map fun b=>(b.toNat:Int)).map (fun n=>UInt8.ofNat n.toNat)=l:=by
 rw[x_];conv=>rhs;rw[<-List.map_id l]
 apply w_;intro b _;simp
theorem ae3 (a b:List UInt8):(bytesD a++b.map fun b=>[D.int .u8 b.toNat])=bytesD (a++b):=by simp[bytesD]
def Fc.gl (f:Fc):Gl:=.mk 9 f.rel f.args []
def Fc.txt (f:Fc):List UInt8:=if ak5 f.gl=true/\f.gl.vars=[] then f.gl.txt else []
theorem bv6 (f:Fc):f.gl.enc=[.int .i64 9,.str f.rel,.sl (f.args.map Tm.enc),.sl []]:=by simp[Fc.gl,Gl.enc_eq,Gl.kind,Gl.name,Gl.terms,Gl.goals]
theorem cn8 (f:Fc):wtL f.gl.enc=wtL f.enc:=by simp[bv6,Fc.enc_eq,wtL,D.wt,wtR]
theorem bS5 (l:List Int):(P9 l=[])↔l=[]:=by
 constructor
 ·intro h
  cases l with
  | nil=>rfl
  | cons x r=>have:=(U1 (l:=x :: r) (x:=x)).2 (by simp);rw[h] at this;simp at this
 ·rintro rfl;rfl
def Rl.hdW (r:Rl) (i:Nat):List (List UInt8):=r.name :: (List.range i).map fun k:Nat=>63 :: dec k
def Rl.txt (r:Rl):List UInt8:=[40,100,101,102,105,110,101,32,40]++ab6 [32] (r.hdW r.arity.toNat)++[41,32]++r.body.txt++[41,10]
def Pg.txt (p:Pg):List UInt8:=p.rels.flatMap Rl.txt
theorem Rl.hd_len {r:Rl} (hn:r.name.length<=12) {i:Nat} (hi:i<=4):(ab6 [32] (r.hdW i)).length<=1000:=by
 have h:=av7 [32] (r.hdW i);have hs:(((List.range i).map fun k:Nat=>63 :: dec k).map List.length).sum<=i * 23:=by
  have:=bo5 (l:=((List.range i).map fun k:Nat=>63 :: dec k).map List.length) (b:=23) (fun x hx=>by
   simp only[x_,i_,Function.comp_apply,ab_] at hx;obtain⟨k,hk,rfl⟩:=hx;have:=P8 (n:=(k:Int)) (by omega) (by omega);simp only[b_];omega)
  simpa using this
 simp only[Rl.hdW,b_,o_,List.length_range,e_,s_,q_] at h |-;omega
theorem Rl.txt_len {r:Rl} (hn:r.name.length<=12) (ha:r.arity<=4) (hs:r.body.shape=true) (hc:r.body.cnt<=80):r.txt.length<=49000000:=by
 have h1:=Rl.hd_len hn (i:=r.arity.toNat) (by omega);have h2:=Gl.txt_len r.body hs;simp only[Rl.txt,g_,b_,q_];omega
theorem bq8 {p:Pg} {i:Nat} {r:Rl} (h:p.relOk i r=true):r.name.length<=12/\0<=r.arity/\r.arity<=4/\r.body.shape=true/\r.body.cnt<=80:=by
 unfold Pg.relOk at h;simp only[a_,decide_eq_true_eq] at h;have h1:J6 r.name=true:=h.1.1.1.1.1.1.2;have h2:D7 r.name=true:=by unfold J6 at h1;simp at h1;exact h1.2
 have:=H5 h2;have h3:=h.1.1.1.1.1.2;have h4:=h.1.1.1.2;exact⟨by omega,by omega,by omega,h.1.1.2,by omega⟩
theorem aP1:∀(l:List Rl),(∀r,r∈l->r.txt.length<=49000000)->(l.flatMap Rl.txt).length<=49000000 * l.length
 | [],_=>by simp
 | x :: r,h=>by
  have h1:=h x (by simp);have h2:=aP1 r (fun y hy=>h y (by simp[hy]));simp only[l_,g_,b_];omega
theorem Pg.txt_len {p:Pg} (h:M9 p=true):p.txt.length<=400000000:=by
 unfold M9 at h;simp only[a_,decide_eq_true_eq] at h;have:=aP1 p.rels (fun r hr=>by
  obtain⟨i,hi⟩:=Z8 h.2 r hr;obtain⟨a,_,b,c,d⟩:=bq8 hi;exact Rl.txt_len a b c d)
 unfold Pg.txt;omega
def grp (l:List (List UInt8)):List UInt8:=40 :: (ab6 [32] l++[41])
theorem bv2 (l:List (List UInt8)):(grp l).length<=2+l.length+(l.map List.length).sum:=by
 have:=av7 [32] l;simp only[grp,b_,g_,q_] at this |-;omega
mutual
def Pf.txt:Pf->List UInt8
 | .mk rel cl vals kids=>grp (rel :: dec cl :: grp (vals.map fun t=>t.V.txt) :: Pf.txts kids)
def Pf.txts:List Pf->List (List UInt8)
 | []=>[]
 | k :: r=>Pf.txt k :: Pf.txts r
end
theorem Pf.txts_eq:∀l:List Pf,Pf.txts l=l.map Pf.txt
 | []=>by simp only[Pf.txts,u_]
 | g :: r=>by simp only[Pf.txts,e_,Pf.txts_eq r]
def Pf.vals (t:Pf):List (List UInt8):=t.values.map fun t=>t.V.txt
def Pf.words (t:Pf):List (List UInt8):=t.rel :: dec t.clause :: grp t.vals :: t.kids.map Pf.txt
theorem Pf.txt_eq (t:Pf):t.txt=grp t.words:=by
 cases t;simp only[Pf.txt,Pf.txts_eq,Pf.words,Pf.vals,Pf.rel,Pf.clause,Pf.values,Pf.kids]
theorem Pg.prf_node {p:Pg} {t:Pf} (hp:M9 p=true) (h:p.prf t=true):t.values.length<=12/\t.values.all M7=true/\0<=t.clause/\t.clause<=64/\∀k,k∈t.kids->p.prf k=true:=by
 obtain⟨_,r,hr,hrm,h3,h4,h5,_,h6⟩:=Pg.prf_kids h;rw[Pg.prf_eq] at h;unfold Pg.prfAt at h;rw[hr] at h;simp only[a_,decide_eq_true_eq] at h;obtain⟨_,hl,hg,_⟩:=h;unfold M9 at hp;simp only[a_,decide_eq_true_eq] at hp;obtain⟨i,hi⟩:=Z8 hp.2 r hrm;unfold Pg.relOk at hi;simp only[a_,decide_eq_true_eq] at hi;have ha:=hi.1.1.1.1.1.2;have hb:=hi.1.1.1.1.2;refine⟨by omega,?_,h4,by omega,h6⟩;rw[c_] at hg |-;intro x hx;have:=hg x hx;unfold Tm.ground at this;simp only[a_] at this;exact this.1
theorem bA7 {t:Pf} (h1:t.values.length<=12) (h2:t.values.all M7=true):(grp t.vals).length<=1600000:=by
 have h:=bv2 t.vals;have hs:(t.vals.map List.length).sum<=t.values.length * 130000:=by
  have:=bo5 (l:=t.vals.map List.length) (b:=130000) (fun x hx=>by
   simp only[Pf.vals,x_,i_,Function.comp_apply] at hx;obtain⟨t,ht,rfl⟩:=hx;obtain⟨v,e,hv⟩:=as4 (c_.1 h2 t ht);have:t.V=v:=by
    have hf:v.fine=true:=by simp[V.ok] at hv;exact hv.1
    rw[e];simp[Tm.V,V.v?_tm v hf]
   rw[this];exact V.txt_len hv)
  simpa[Pf.vals] using this
 have:t.vals.length=t.values.length:=by simp[Pf.vals]
 omega
theorem Pf.cnts_sum:∀l:List Pf,Pf.cnts l=(l.map Pf.cnt).sum
 | []=>by simp only[Pf.cnts,u_,List.sum_nil]
 | g :: r=>by simp only[Pf.cnts,e_,s_,Pf.cnts_sum r]
theorem Pf.cnt_mem {g x:Pf} (h:x∈g.kids):x.cnt<g.cnt/\g.kids.length<g.cnt:=by
 have hc:=Pf.cnt_eq g;rw[Pf.cnts_sum] at hc;have h2:∀l:List Pf,l.length<=(l.map Pf.cnt).sum:=by
  intro l;induction l with
  | nil=>simp
  | cons y r ih=>have:=y.cnt_pos;simp only[e_,s_,b_];omega
 have:∀l:List Pf,x∈l->x.cnt<=(l.map Pf.cnt).sum:=by
  intro l hl;induction l with
  | nil=>simp at hl
  | cons y r ih =>
   simp only[e_,s_];rcases d_.1 hl with rfl | hl
   ·omega
   ·have:=ih hl;omega
 have:=this _ h;have:=h2 g.kids;omega
theorem Pf.words_len {p:Pg} {t:Pf} (hp:M9 p=true) (h:p.prf t=true) (hw:t.rel.length<=1048576) (ih:∀x,x∈t.kids->x.txt.length+20<=3000000 * x.cnt) :
  (grp t.words).length+20<=3000000 * t.cnt:=by
 obtain⟨n1,n2,n3,n4,_⟩:=Pg.prf_node hp h;have hv:=bA7 n1 n2;have hd:=P8 (n:=t.clause) (by omega) (by omega);have hg:=bv2 t.words;have hk:((t.kids.map Pf.txt).map List.length).sum+t.kids.length<=3000000 * (t.kids.map Pf.cnt).sum:=by
  generalize t.kids=l at ih;induction l with
  | nil=>simp
  | cons x r ihr =>
   have a:=ih x (by simp);have b:=ihr (fun y hy=>ih y (by simp[hy]));simp only[e_,s_,b_];omega
 have hc:=Pf.cnt_eq t;rw[Pf.cnts_sum] at hc;simp only[Pf.words,b_,o_,e_,s_] at hg |-;omega
theorem Pf.txt_len {p:Pg} (hp:M9 p=true):∀t:Pf,p.prf t=true->wtL t.enc<=1048576->t.txt.length+20<=3000000 * t.cnt:=by
 intro t;induction t using Pf.ind' with
 | h t ih =>
  intro h hw;obtain⟨_,_,_,_,n5⟩:=Pg.prf_node hp h;rw[Pf.txt_eq];refine Pf.words_len hp h (by simp only[Pf.enc_eq,wtL,D.wt] at hw;omega) (fun x hx=>ih x hx (n5 x hx) ?_);have:=Pf.wt_kids hx;omega
theorem bm7 (a b:List (List D)):wtR (a++b)=wtR a+wtR b:=by
 induction a with
 | nil=>simp[wtR]
 | cons x r ih=>simp only[k_,wtR,ih];omega
theorem aD6 {l:List (List D)} {x:List D} (h:x∈l):1+wtL x<=wtR l:=by
 induction l with
 | nil=>simp at h
 | cons y r ih =>
  simp only[wtR];rcases d_.1 h with rfl | h
  ·omega
  ·have:=ih h;omega
def V.sh (n:Int) (v:V):V:=v.sub fun k=>.var (k+n)
def Tm.sh (n:Int) (t:Tm):Tm:=(t.V.sh n).tm
mutual
def Gl.sh (n:Int):Gl->Gl
 | .mk k s ts gs=>.mk k s (ts.map (Tm.sh n)) (Gl.shs n gs)
def Gl.shs (n:Int):List Gl->List Gl
 | []=>[]
 | t :: r=>Gl.sh n t :: Gl.shs n r
end
def okB (c:UInt8):Bool:=c == 10 || decide (32<=c.toNat) && decide (c.toNat<=126)
def bU5 (c:UInt8):Bool:=c == 32 || c == 10 || c == 40 || c == 41 || c == 59
def aG0 (c:UInt8):Bool:=!bU5 c
def bg4 (c:UInt8):Bool:=c != 10
theorem F5 {α:Type} (p:α->Bool):∀l:List α,(l.dropWhile p).length<=l.length
 | []=>j_ _
 | a :: r=>by
  simp only[G_];split
  ·have:=F5 p r;simp;omega
  ·exact j_ _
def toks:List UInt8->List (List UInt8)
 | []=>[]
 | c :: r =>
  if c=32\/c=10 then toks r
  else if c=59 then toks (r.dropWhile bg4)
  else if c=40\/c=41 then [c] :: toks r
  else (c :: r.takeWhile aG0) :: toks (r.dropWhile aG0)
termination_by l=>l.length
decreasing_by
 ·simp
 ·have:=F5 bg4 r;simp;omega
 ·simp
 ·have:=F5 aG0 r;simp;omega
theorem ai5:toks []=[]:=by rw[toks]
theorem X5 (c:UInt8) (r:List UInt8):toks (c :: r)=if c=32\/c=10 then toks r
  else if c=59 then toks (r.dropWhile bg4)
  else if c=40\/c=41 then [c] :: toks r
  else (c :: r.takeWhile aG0) :: toks (r.dropWhile aG0):=by rw[toks]
theorem ai7:∀(n:Nat) (l:List UInt8),l.length<=n->(toks l).length<=l.length
 | 0,l,h=>by
  obtain rfl:=A_ (by omega:l.length=0);rw[ai5];simp
 | n+1,[],h=>by rw[ai5];simp
 | n+1,c :: r,h=>by
  rw[X5];simp only[b_] at h;have h1:=ai7 n r (by omega);have h2:=ai7 n (r.dropWhile bg4) (by have:=F5 bg4 r;omega);have h3:=ai7 n (r.dropWhile aG0) (by have:=F5 aG0 r;omega);have h4:=F5 bg4 r;have h5:=F5 aG0 r;split
  ·simp;omega
  ·split
   ·simp;omega
   ·split
    ·simp;omega
    ·simp;omega
def aA3 (s:List UInt8):Option (List (List UInt8)):=if s.length<=100000/\s.all okB=true/\(toks s).length<=20000 then some (toks s) else none
theorem bM0 {α:Type} {p:α->Bool} {s:List α}:∀(d i k:Nat),k=i+d->k<=s.length->(∀j,i<=j->j<k->∀c,s[j]? = some c->p c=true) ->
  (s.drop i).takeWhile p=(s.take k).drop i++(s.drop k).takeWhile p/\(s.drop i).dropWhile p=(s.drop k).dropWhile p
 | 0,i,k,hk,hl,h=>by
  obtain rfl:k=i:=by omega
  have h0:(s.take k).drop k=[]:=J_ (by rw[O_];omega);rw[h0];exact⟨rfl,rfl⟩
 | d+1,i,k,hk,hl,h=>by
  have hi:i<s.length:=by omega
  have hc:s[i]? = some s[i]:=m_ hi;have hp:=h i (j_ _) (by omega) _ hc;obtain⟨h1,h2⟩:=bM0 d (i+1) k (by omega) hl (fun j a b c hc=>h j (by omega) b c hc);have hd:s.drop i=s[i] :: s.drop (i+1):=F_ hi;have ht:(s.take k).drop i=s[i] :: (s.take k).drop (i+1):=by
   have hi':i<(s.take k).length:=by rw[O_];omega
   rw[F_ hi'];congr 1;exact List.getElem_take
  rw[hd,Y_,G_,hp,ht];simp only[if_true];exact⟨by rw[h1];rfl,h2⟩
theorem bI4 {α:Type} {p:α->Bool} {s:List α} {k:Nat} (h:∀c,s[k]? = some c->p c=false):(s.drop k).takeWhile p=[]/\(s.drop k).dropWhile p=s.drop k:=by
 by_cases hk:k<s.length
 ·have hd:s.drop k=s[k] :: s.drop (k+1):=F_ hk
  have:=h _ (m_ hk);rw[hd,Y_,G_,this];exact⟨rfl,rfl⟩
 ·rw[J_ (by omega)];exact⟨rfl,rfl⟩
theorem drop_at {s:List UInt8} {i:Nat} {c:UInt8} (h:s[i]? = some c):s.drop i=c :: s.drop (i+1):=by
 obtain⟨h1,h2⟩:=f_.1 h;rw[<-h2];exact F_ h1
theorem bM3 {s:List UInt8} {i:Nat} {c:UInt8} (h:s[i]? = some c) (hc:c=32\/c=10):toks (s.drop i)=toks (s.drop (i+1)):=by
 rw[drop_at h,X5,if_pos hc]
theorem bB0 {s:List UInt8} {i:Nat} {c:UInt8} (h:s[i]? = some c) (hc:c=40\/c=41):toks (s.drop i)=[c] :: toks (s.drop (i+1)):=by
 rw[drop_at h,X5,if_neg (by rcases hc with rfl | rfl<;>decide),if_neg (by rcases hc with rfl | rfl<;>decide),if_pos hc]
theorem bB1 {s:List UInt8} {i k:Nat} (h:s[i]? = some 59) (hik:i<=k) (hk:k<=s.length) (hall:∀j,i<=j->j<k->∀c,s[j]? = some c->bg4 c=true) (hend:∀c,s[k]? = some c->bg4 c=false):toks (s.drop i)=toks (s.drop k):=by
 have h1:=(bM0 (k - i) i k (by omega) hk hall).2;rw[(bI4 hend).2,drop_at h,G_,if_pos (by decide)] at h1;rw[drop_at h,X5,if_neg (by decide),if_pos rfl,h1]
theorem bn5 {s:List UInt8} {i k:Nat} {c:UInt8} (h:s[i]? = some c) (hc:bU5 c=false) (hik:i<k) (hk:k<=s.length) (hall:∀j,i<=j->j<k->∀c,s[j]? = some c->aG0 c=true) (hend:∀c,s[k]? = some c->aG0 c=false):toks (s.drop i)=(s.take k).drop i :: toks (s.drop k):=by
 obtain⟨h1,h2⟩:=bM0 (k - i) i k (by omega) hk hall;obtain⟨h3,h4⟩:=bI4 hend;have hp:aG0 c=true:=by unfold aG0;rw[hc];rfl
 rw[h3,L_,drop_at h,Y_,if_pos hp] at h1;rw[h4,drop_at h,G_,if_pos hp] at h2;unfold bU5 at hc;simp only[U_,beq_eq_false_iff_ne,ne_eq] at hc;rw[drop_at h,X5,if_neg (fun h=>h.elim hc.1.1.1.1 hc.1.1.1.2),if_neg hc.2,if_neg (fun h=>h.elim hc.1.1.2 hc.1.2),h1,h2]
theorem bn6 {s:List UInt8} {i:Nat} (h:s.length<=i):toks (s.drop i)=[]:=by
 rw[J_ h,ai5]
theorem ap7 {c:UInt8} {n:Nat} (hn:n<256):c=UInt8.ofNat n↔(c.toNat:Int)=n:=by
 constructor
 ·rintro rfl
  simp only[UInt8.toNat_ofNat'];omega
 ·intro h
  apply UInt8.toNat_inj.1;simp only[UInt8.toNat_ofNat'];omega
def brI (b:Int):Bool:=decide (b=32) || decide (b=10) || decide (b=40) || decide (b=41) || decide (b=59)
theorem by0 (c:UInt8):brI c.toNat=bU5 c:=by
 unfold brI bU5;have h:∀n:Nat,n<256->decide ((c.toNat:Int)=n)=(c == UInt8.ofNat n):=fun n hn=>by
  rw[H_,decide_eq_true_eq,beq_iff_eq];exact(ap7 hn).symm
 rw[show ((32:Int))=((32:Nat):Int) from rfl,show ((10:Int))=((10:Nat):Int) from rfl,show ((40:Int))=((40:Nat):Int) from rfl,show ((41:Int))=((41:Nat):Int) from rfl,show ((59:Int))=((59:Nat):Int) from rfl,h 32 (by omega),h 10 (by omega),h 40 (by omega),h 41 (by omega),h 59 (by omega)];rfl
theorem byte_at {s:List UInt8} {i:Nat} (h:i<s.length):∃c:UInt8,s[i]? = some c/\((s[i]?.getD 0).toNat:Int)=c.toNat:=⟨s[i],m_ h,by rw[m_ h];rfl⟩
theorem bY1 {c:UInt8}:bg4 c=!decide ((c.toNat:Int)=10):=by
 unfold bg4;rw[show ((10:Int))=((10:Nat):Int) from rfl,H_];simp only[bne_iff_ne,ne_eq,Bool.not_eq_true',decide_eq_false_iff_not];exact not_congr (ap7 (c:=c) (n:=10) (by omega))
theorem cn3 {c:UInt8}:okB c=(decide ((c.toNat:Int)=10) || decide ((32:Int)<=c.toNat) && decide ((c.toNat:Int)<=126)):=by
 unfold okB;have h:(c == 10)=decide ((c.toNat:Int)=10):=by
  rw[H_,decide_eq_true_eq,beq_iff_eq];exact ap7 (c:=c) (n:=10) (by omega)
 rw[h];congr 1;congr 1<;>(rw[H_,decide_eq_true_eq,decide_eq_true_eq];omega)
theorem bS7 {s:List UInt8} (h:∀j,j<s.length->∀c,s[j]? = some c->okB c=true):s.all okB=true:=by
 rw[c_];intro c hc;obtain⟨j,hj⟩:=y_ hc;exact h j (f_.1 hj).1 c hj
theorem bS4 {s:List UInt8} {j:Nat} {c:UInt8} (hj:s[j]? = some c) (h:okB c=false):s.all okB=false:=by
 rw[List.all_eq_false];exact⟨c,p_ hj,by simp[h]⟩
theorem bX7 {s:List UInt8} {i:Nat} {c:UInt8} (h:s[i]? = some c):(s.take (i+1)).drop i=[c]:=by
 obtain⟨h1,h2⟩:=f_.1 h;rw[List.take_add_one,h];simp only[Option.toList_some];rw[List.drop_append_of_le_length (by rw[O_];omega),J_ (by rw[O_];omega)];rfl
def tkC (o:Option (List (List UInt8))):C:=match o with
 | some T=>.tup [.d (.sl (U2 T)),.d (.bool true)]
 | none=>.tup [.d (.sl []),.d (.bool false)]
open Go
theorem aB3:∀(l r:List UInt8) (acc a:Nat),Lib.parseUint10 acc l=.ok a->Lib.parseUint10 acc (l++r)=Lib.parseUint10 a r
 | [],r,acc,a,h=>by
  simp only[Lib.parseUint10,Lib.NumEnd.ok.injEq] at h;subst h;rfl
 | c :: l,r,acc,a,h=>by
  simp only[k_,Lib.parseUint10] at h |-;split
  ·rename_i hc
   rw[if_pos hc] at h;split
   ·rename_i h1;rw[if_pos h1] at h;cases h
   ·rename_i h1
    rw[if_neg h1] at h;split
    ·rename_i h2;rw[if_pos h2] at h;cases h
    ·rename_i h2
     rw[if_neg h2] at h;exact aB3 l r _ a h
  ·rename_i hc;rw[if_neg hc] at h;cases h
theorem K7 {d:Nat} (hd:d<10):(UInt8.ofNat (48+d)).toNat=48+d:=by
 simp only[UInt8.toNat_ofNat'];omega
theorem am0:∀(n u:Nat),u<=n->u<18446744073709551616->Lib.parseUint10 0 (Lib.decDigits u)=.ok u
 | n,u,hn,hu=>by
  rw[Lib.decDigits];split
  ·rename_i h
   have e:=K7 (d:=u) (by omega);simp only[Lib.parseUint10,e];rw[if_pos (by omega),if_neg (by omega),if_neg (by omega)];simp
  ·rename_i h
   match n,hn with
   | 0,hn=>omega
   | n+1,hn =>
    rw[aB3 _ _ _ _ (am0 n (u / 10) (by omega) (by omega))];have e:=K7 (d:=u % 10) (by omega);simp only[Lib.parseUint10,e];rw[if_pos (by omega),if_neg (by omega),if_neg (by omega)];congr 1;omega
theorem M4:∀(n u:Nat),u<=n->∃c r,Lib.decDigits u=c :: r/\48<=c.toNat/\c.toNat<=57
 | n,u,hn=>by
  rw[Lib.decDigits];split
  ·rename_i h
   have e:=K7 (d:=u) (by omega);exact⟨_,[],rfl,by omega,by omega⟩
  ·rename_i h
   match n,hn with
   | 0,hn=>omega
   | n+1,hn =>
    obtain⟨c,r,h1,h2,h3⟩:=M4 n (u / 10) (by omega);exact⟨c,r++[UInt8.ofNat (48+u % 10)],by rw[h1];rfl,h2,h3⟩
theorem bH3 {n:Int} (h0:-9223372036854775808<=n) (h1:n<=9223372036854775807):Lib.atoiAll (dec n)=.ok n:=by
 by_cases h:n<0
 ·rw[P7 h,Lib.atoiAll_minus]
  obtain⟨c,r,e1,e2,e3⟩:=M4 n.natAbs n.natAbs (j_ _);have hp:Lib.parseMag (Lib.decDigits n.natAbs)=.ok n.natAbs:=by
   unfold Lib.parseMag;rw[if_neg (by rw[e1];simp),am0 _ _ (j_ _) (by omega)]
  rw[hp];simp only[Lib.signed];rw[if_neg (by omega)];congr 1;omega
 ·rw[X0 (by omega)]
  obtain⟨c,r,e1,e2,e3⟩:=M4 n.toNat n.toNat (j_ _);have hp:Lib.parseMag (Lib.decDigits n.toNat)=.ok n.toNat:=by
   unfold Lib.parseMag;rw[if_neg (by rw[e1];simp),am0 _ _ (j_ _) (by omega)]
  rw[e1] at hp |-;rw[Lib.atoiAll_plain c r (by omega) (by omega),hp];simp only[Lib.signless];rw[if_neg (by omega)];congr 1;omega
def V6 (s:List UInt8):Option Int:=match Lib.atoiAll s with
 | .ok v=>if dec v=s then some v else none
 | _=>none
theorem ba6 {n:Int} (h0:-9223372036854775808<=n) (h1:n<=9223372036854775807):V6 (dec n)=some n:=by
 unfold V6;rw[bH3 h0 h1];simp
theorem O6 {s:List UInt8} {n:Int} (h:V6 s=some n):dec n=s/\-9223372036854775808<=n/\n<=9223372036854775807:=by
 unfold V6 at h;split at h
 ·rename_i v hv
  split at h
  ·rename_i he
   cases h;have:=Lib.atoiAll_bounds hv;exact⟨he,this.1,this.2⟩
  ·cases h
 ·cases h
def bc8 (l:List UInt8):Nat:=l.foldl (fun a c=>a * 10+(c.toNat - 48)) 0
theorem ax3 (l:List UInt8) (c:UInt8):bc8 (l++[c])=bc8 l * 10+(c.toNat - 48):=by unfold bc8;rw[List.foldl_append];rfl
theorem aH4:∀(n u:Nat),u<=n->bc8 (Lib.decDigits u)=u
 | n,u,hn=>by
  rw[Lib.decDigits];split
  ·rename_i h
   have e:=K7 (d:=u) (by omega);simp[bc8,e];omega
  ·rename_i h
   match n,hn with
   | 0,hn=>omega
   | n+1,hn =>
    have e:=K7 (d:=u % 10) (by omega);rw[ax3,aH4 n (u / 10) (by omega),e];omega
theorem bx6:∀(n u:Nat),u<=n->∀c,c∈Lib.decDigits u->48<=c.toNat/\c.toNat<=57
 | n,u,hn=>by
  rw[Lib.decDigits];split
  ·rename_i h
   have e:=K7 (d:=u) (by omega);intro c hc;simp at hc;subst hc;have e:(48+UInt8.ofNat u).toNat=48+u:=by
    have:=K7 (d:=u) (by omega);simpa using this
   omega
  ·rename_i h
   match n,hn with
   | 0,hn=>omega
   | n+1,hn =>
    intro c hc;rcases n_.1 hc with hc | hc
    ·exact bx6 n (u / 10) (by omega) c hc
    ·have e:=K7 (d:=u % 10) (by omega)
     rw[List.mem_singleton] at hc;subst hc;omega
theorem aP8:∀(l r:List UInt8),bc8 l<=bc8 (l++r)
 | l,[]=>by simp
 | l,c :: r=>by
  have h1:=aP8 (l++[c]) r;rw[ax3,D_] at h1;have h2:l++([c]++r)=l++c :: r:=rfl;rw[h2] at h1;omega
def atom (big:Bool) (t:List UInt8):Option V:=
 if D7 t=true then some (.sym t)
 else if t.head? = some 63 then (match V6 t.tail with | some n=>if 0<=n/\n<=100000 then some (.var n) else none | none=>none)
 else match V6 t with | some n=>if big=true\/(-1000000000<=n/\n<=1000000000) then some (.num n) else none | none=>none
def lst (l:List V) (t:V):V:=l.foldr .pair t
mutual
def rdT (big:Bool) (T:List (List UInt8)):Nat->Nat->Option (V×Nat)
 | 0,_=>none
 | n+1,i=>match T[i]? with
  | none=>none
  | some t=>if t=[41]\/t=[46] then none else if t=[40] then rdL big T n (i+1) [] else match atom big t with | some v=>some (v,i+1) | none=>none
def rdL (big:Bool) (T:List (List UInt8)):Nat->Nat->List V->Option (V×Nat)
 | 0,_,_=>none
 | n+1,i,acc=>match T[i]? with
  | none=>none
  | some t=>if t=[41] then some (lst acc .nil,i+1)
   else if t=[46] then (match rdT big T n (i+1) with | some (v,j)=>if acc≠[]/\T[j]? = some [41] then some (lst acc v,j+1) else none | none=>none)
   else match rdT big T n i with | some (v,j)=>rdL big T n j (acc++[v]) | none=>none
end
theorem bD1 {big:Bool} {T:List (List UInt8)} {n i:Nat} (h:T[i]? = none):rdT big T (n+1) i=none:=by rw[rdT,h]
theorem br0 {big:Bool} {T:List (List UInt8)} {n i:Nat} {t:List UInt8} (h:T[i]? = some t) (ht:t=[41]\/t=[46]):rdT big T (n+1) i=none:=by
 rw[rdT,h];simp only[if_pos ht]
theorem bD0 {big:Bool} {T:List (List UInt8)} {n i:Nat} (h:T[i]? = some [40]):rdT big T (n+1) i=rdL big T n (i+1) []:=by
 rw[rdT,h];simp
theorem bD2 {big:Bool} {T:List (List UInt8)} {n i:Nat} {t:List UInt8} (h:T[i]? = some t) (h1:¬(t=[41]\/t=[46])) (h2:t≠[40]):rdT big T (n+1) i=match atom big t with | some v=>some (v,i+1) | none=>none:=by
 rw[rdT,h];simp only[if_neg h1,if_neg h2]
theorem bD3 {big:Bool} {T:List (List UInt8)} {n i:Nat} {acc:List V} (h:T[i]? = none):rdL big T (n+1) i acc=none:=by rw[rdL,h]
theorem bN1 {big:Bool} {T:List (List UInt8)} {n i:Nat} {acc:List V} (h:T[i]? = some [41]):rdL big T (n+1) i acc=some (lst acc .nil,i+1):=by rw[rdL,h];simp
theorem bN2 {big:Bool} {T:List (List UInt8)} {n i:Nat} {acc:List V} (h:T[i]? = some [46]):rdL big T (n+1) i acc=match rdT big T n (i+1) with | some (v,j)=>if acc≠[]/\T[j]? = some [41] then some (lst acc v,j+1) else none | none=>none:=by
 rw[rdL,h];simp
theorem bD4 {big:Bool} {T:List (List UInt8)} {n i:Nat} {acc:List V} {t:List UInt8} (h:T[i]? = some t) (h1:t≠[41]) (h2:t≠[46]):rdL big T (n+1) i acc=match rdT big T n i with | some (v,j)=>rdL big T n j (acc++[v]) | none=>none:=by
 rw[rdL,h];simp only[if_neg h1,if_neg h2]
def lsz:List V->Nat
 | []=>0
 | v :: r=>1+v.size+lsz r
theorem bs9:∀a b:List V,lsz (a++b)=lsz a+lsz b
 | [],b=>by simp[lsz]
 | v :: a,b=>by simp only[k_,lsz,bs9 a b];omega
theorem aG1:∀(l:List V) (t:V),(lst l t).size=lsz l+t.size
 | [],t=>by simp[lst,lsz]
 | v :: r,t=>by
  have:=aG1 r t;show (V.pair v (lst r t)).size=_;simp only[V.size,lsz,this];omega
theorem aL2 (big:Bool) (T:List (List UInt8)):∀n:Nat,(∀i v j,rdT big T n i=some (v,j)->i<j/\j<=T.length/\v.size+1<=2 * (j - i))/\(∀i acc v j,rdL big T n i acc=some (v,j)->i<j/\j<=T.length/\v.size+1<=lsz acc+2 * (j - i))
 | 0=>⟨fun i v j h=>(by rw[rdT] at h;cases h),fun i acc v j h=>(by rw[rdL] at h;cases h)⟩
 | n + 1 => by
  obtain⟨ih1,ih2⟩:=aL2 big T n;refine⟨fun i v j h=>?_,fun i acc v j h=>?_⟩
  ·rw[rdT] at h
   cases hT:T[i]? with
   | none=>rw[hT] at h;cases h
   | some t =>
    have hi:=(f_.1 hT).1;rw[hT] at h;dsimp only at h;split at h
    ·cases h
    ·split at h
     ·have:=ih2 _ _ _ _ h
      simp only[lsz] at this;omega
     ·unfold atom at h
      split at h
      ·rename_i v' hv
       cases h;have h1:v.size=1:=by
        split at hv
        ·cases hv;rfl
        ·split at hv
         ·split at hv
          ·split at hv
           ·cases hv;rfl
           ·cases hv
          ·cases hv
         ·split at hv
          ·split at hv
           ·cases hv;rfl
           ·cases hv
          ·cases hv
       omega
      ·cases h
  ·rw[rdL] at h
   cases hT:T[i]? with
   | none=>rw[hT] at h;cases h
   | some t =>
    have hi:=(f_.1 hT).1;rw[hT] at h;dsimp only at h;split at h
    ·cases h
     rw[aG1];simp only[V.size];omega
    ·split at h
     ·split at h
      ·rename_i v1 j1 h1
       split at h
       ·rename_i hc
        cases h;have h2:=ih1 _ _ _ h1;have h3:=(f_.1 hc.2).1;rw[aG1];omega
       ·cases h
      ·cases h
     ·split at h
      ·rename_i v1 j1 h1
       have h2:=ih1 _ _ _ h1;have h3:=ih2 _ _ _ _ h;rw[bs9] at h3;simp only[lsz] at h3;omega
      ·cases h
def V.low:V->Bool
 | .sym s=>decide (s.length<=12)
 | .pair a b=>a.low && b.low
 | _=>true
theorem V.wt_low:∀v:V,v.low=true->wtL v.enc<=16 * v.size
 | .nil,_=>by simp[V.enc_nil,wtL,D.wt,wtR,V.size]
 | .var _,_=>by simp[V.enc_var,wtL,D.wt,wtR,V.size]
 | .num _,_=>by simp[V.enc_num,wtL,D.wt,wtR,V.size]
 | .sym s,h=>by
  simp only[V.low,decide_eq_true_eq] at h;simp only[V.enc_sym,wtL,D.wt,wtR,V.size];omega
 | .pair a b,h=>by
  simp only[V.low,a_] at h;have h1:=V.wt_low a h.1;have h2:=V.wt_low b h.2;simp only[V.enc_pair,wtL,D.wt,wtR,V.size,q_];omega
theorem bn7:∀a b:V,a.tm=b.tm->a=b
 | .nil,b,h=>by cases b<;>simp[V.tm] at h |-
 | .var _,b,h=>by cases b<;>simp[V.tm] at h |-;exact h
 | .sym _,b,h=>by cases b<;>simp[V.tm] at h |-;exact h
 | .num _,b,h=>by cases b<;>simp[V.tm] at h |-;exact h
 | .pair x y,b,h=>by
  cases b with
  | pair x' y' =>
   simp[V.tm] at h;rw[bn7 x x' h.1,bn7 y y' h.2]
  | _=>simp[V.tm] at h
theorem bo0 (v:V):M7 v.tm=v.ok:=by
 by_cases h:v.ok=true
 ·rw[h];exact aR5 h
 ·rw[Bool.not_eq_true] at h
  rw[h];by_cases h2:M7 v.tm=true
  ·obtain⟨v',e,hv'⟩:=as4 h2
   rw[bn7 _ _ e,hv'] at h;cases h
  ·simpa using h2
def rdO (big:Bool) (T:List (List UInt8)) (i:Nat):Option (V×Nat):=match rdT big T (2 * T.length+1) i with
 | some (v,j)=>if v.ok=true then some (v,j) else none
 | none=>none
theorem ai6:∀(n:Nat) (l:List UInt8),l.length<=n->∀t,t∈toks l->t≠[]/\t.length<=l.length
 | 0,l,h=>by
  obtain rfl:=A_ (by omega:l.length=0);rw[ai5];simp
 | n+1,[],h=>by rw[ai5];simp
 | n + 1,c :: r,h=>by
  intro t ht;rw[X5] at ht;simp only[b_] at h |-;have h4:=F5 bg4 r;have h5:=F5 aG0 r;split at ht
  ·have:=ai6 n r (by omega) t ht;exact⟨this.1,by omega⟩
  ·split at ht
   ·have:=ai6 n _ (by omega) t ht;exact⟨this.1,by omega⟩
   ·split at ht
    ·rcases d_.1 ht with rfl | ht
     ·simp
     ·have:=ai6 n r (by omega) t ht;exact⟨this.1,by omega⟩
    ·rcases d_.1 ht with rfl | ht
     ·have:=(List.takeWhile_prefix (p:=aG0) (l:=r)).length_le
      simp;omega
     ·have:=ai6 n _ (by omega) t ht;exact⟨this.1,by omega⟩
theorem bB2 {s:List UInt8} {T:List (List UInt8)} (h:aA3 s=some T):T.length<=20000/\∀t,t∈T->t≠[]/\t.length<=100000:=by
 unfold aA3 at h;split at h
 ·rename_i hc
  cases h;exact⟨hc.2.2,fun t ht=>by have:=ai6 _ _ (j_ _) t ht;exact⟨this.1,by omega⟩⟩
 ·cases h
theorem aP9 {n:Int} (h0:-9223372036854775808<=n) (h1:n<=9223372036854775807):(dec n).length<=21:=Lib.itoa_length_le n (by omega) (by omega)
theorem aL6 {l T:List UInt8} (h:l=45 :: T) {n:Int} (hp:V6 l=some n):n<0/\T=Lib.decDigits n.natAbs:=by
 obtain⟨e,h0,h1⟩:=O6 hp;by_cases hn:n<0
 ·rw[P7 hn,h] at e
  exact⟨hn,(List.cons.inj e).2.symm⟩
 ·exfalso
  rw[X0 (by omega),h] at e;obtain⟨c,r,e1,e2,e3⟩:=M4 _ n.toNat (j_ _);rw[e1] at e;have:=(List.cons.inj e).1;rw[this] at e2;have h45:(45:UInt8).toNat=45:=rfl;omega
theorem aL5 {l:List UInt8} (h:∀T,l≠45 :: T) {n:Int} (hp:V6 l=some n):0<=n/\l=Lib.decDigits n.natAbs:=by
 obtain⟨e,h0,h1⟩:=O6 hp;by_cases hn:n<0
 ·rw[P7 hn] at e
  exact absurd e.symm (h _)
 ·rw[X0 (by omega)] at e
  refine⟨by omega,?_⟩;rw[<-e];congr 1;omega
theorem aP7:∀(k u:Nat),u<10 ^ (k+1)->1<=(Lib.decDigits u).length/\(Lib.decDigits u).length<=k+1
 | 0,u,h=>by
  rw[Lib.decDigits,dif_pos (by omega)];simp
 | k+1,u,h=>by
  rw[Lib.decDigits];split
  ·simp
  ·have:=aP7 k (u / 10) (by rw[Z_] at h;omega)
   simp only[g_,b_,q_];omega
theorem bc5 {u:Nat} (h:u<=9223372036854775808):1<=(Lib.decDigits u).length/\(Lib.decDigits u).length<=19:=aP7 18 u (by omega)
theorem bo1 {α:Type} {T:List α} {i:Nat} {c:α} (h:T[i]? = some c):T.take (i+1)=T.take i++[c]:=by
 rw[List.take_add_one,h];rfl
theorem bc7 {T:List UInt8} {u:Nat} (hT:T=Lib.decDigits u) {i:Nat} {c:UInt8} (hc:T[i]? = some c):48<=c.toNat/\c.toNat<=57/\bc8 (T.take (i+1))=bc8 (T.take i) * 10+(c.toNat - 48)/\bc8 (T.take (i+1))<=u:=by
 have h1:=bx6 u u (j_ _) c (by rw[<-hT];exact p_ hc);refine⟨h1.1,h1.2,by rw[bo1 hc,ax3],?_⟩;have h2:=aP8 (T.take (i+1)) (T.drop (i+1));rw[R_,hT,aH4 u u (j_ _),<-hT] at h2;exact h2
theorem aF5 {x:Int} (h:x<=0):x.tdiv 10=-((-x) / 10):=by
 obtain⟨m,rfl⟩:∃m:Nat,x=-(m:Int):=⟨x.natAbs,by omega⟩;rw[Int.neg_tdiv,af_ (by omega)];simp
structure Rdg (l T:List UInt8) (i:Nat) (acc:Int):Prop where
 lo:-9223372036854775808<=acc
 hi:acc<=0
 is:∀n,V6 l=some n->acc=-(bc8 (T.take i):Int)
theorem Rdg.bad {l T:List UInt8} {i:Nat} {acc:Int} (h:Rdg l T i acc) (hT:∀n,V6 l=some n->T=Lib.decDigits n.natAbs) {c:UInt8} (hc:T[i]? = some c)
  (hb:¬((0:Int)<=(c.toNat:Int) - 48/\(c.toNat:Int) - 48<=9)\/acc<(-9223372036854775808+((c.toNat:Int) - 48)).tdiv 10):V6 l=none:=by
 cases hp:V6 l with
 | none=>rfl
 | some n =>
  exfalso;obtain⟨_,b0,b1⟩:=O6 hp;obtain⟨h1,h2,h3,h4⟩:=bc7 (hT n hp) hc;have h5:=h.is n hp;rcases hb with hb | hb
  ·omega
  ·rw[aF5 (by omega)] at hb
   omega
theorem Rdg.next {l T:List UInt8} {i:Nat} {acc:Int} (h:Rdg l T i acc) (hT:∀n,V6 l=some n->T=Lib.decDigits n.natAbs) {c:UInt8} (hc:T[i]? = some c)
  (h0:(0:Int)<=(c.toNat:Int) - 48) (h9:(c.toNat:Int) - 48<=9) (hq:¬acc<(-9223372036854775808+((c.toNat:Int) - 48)).tdiv 10) :
  Rdg l T (i+1) (acc * 10 - ((c.toNat:Int) - 48)):=by
 have hlo:=h.lo;have hhi:=h.hi;rw[aF5 (by omega)] at hq;refine⟨by omega,by omega,fun n hp=>?_⟩;obtain⟨h1,h2,h3,h4⟩:=bc7 (hT n hp) hc;have h5:=h.is n hp;rw[h3,h5];omega
theorem Rdg.done {l T:List UInt8} {acc:Int} (h:Rdg l T T.length acc) (hT:∀n,V6 l=some n->T=Lib.decDigits n.natAbs):∀n,V6 l=some n->acc=-(n.natAbs:Int):=fun n hp=>by
 have h1:=h.is n hp;rw[List.take_length] at h1;have h2:=hT n hp;rw[h1];have h3:bc8 T=n.natAbs:=by rw[h2,aH4 _ _ (j_ _)]
 rw[h3]
@[go_sem] theorem cf3:(([40]:List UInt8)=[41])=False:=by simp
@[go_sem] theorem cf2:(([40]:List UInt8)=[46])=False:=by simp
@[go_sem] theorem cf1:(([41]:List UInt8)=[46])=False:=by simp
@[go_sem] theorem cf0:(([46]:List UInt8)=[41])=False:=by simp
namespace V
def wd:V->List UInt8
 | var n=>63 :: dec n
 | sym s=>s
 | num n=>dec n
 | _=>[]
end V
theorem bH4 (a:Int) (n:Nat) (hn:n<4294967296):0<=andI .i64 a n/\andI .i64 a n<=n:=by
 unfold andI;have h1:(BitVec.ofInt IntKind.i64.bits a &&& BitVec.ofInt IntKind.i64.bits (n:Int)).toNat<=n:=by
  rw[BitVec.toNat_and];refine K_ Nat.and_le_right ?_;rw[BitVec.toNat_ofInt];have:IntKind.i64.bits=64:=rfl;rw[this];omega
 rw[l6 (by omega) (by omega)];omega
theorem bK7 (a:Int):0<=andI .i64 a 255/\andI .i64 a 255<=255:=bH4 a 255 (by decide)
theorem aQ4 {x n:Int} (h0:0<=x) (hn:0<n):0<=x.tmod n/\x.tmod n<n:=by
 rw[ae_ h0];exact⟨Int.emod_nonneg _ (by omega),Int.emod_lt_of_pos _ hn⟩
def V.vbelow (n:Int):V->Bool
 | .var i=>decide (0<=i) && decide (i<n)
 | .pair a b=>a.vbelow n && b.vbelow n
 | _=>true
def drawn (m:Nat) (n:Int) (v:V):Prop:=v.fine=true/\v.size<=m/\v.vbelow n=true
def az2 (s:Nat):Nat:=if s<=2 then 1 else 2 * s - 1
theorem bk9 {s:Nat} (h:2<s):1+az2 (s / 2)+az2 (s / 2)<=az2 s:=by
 unfold az2;split<;>split<;>omega
theorem bx5 (s:Nat):1<=az2 s:=by unfold az2;split<;>omega
theorem bk8 {m:Nat} {n:Int} {a b:V} {k:Nat} (ha:drawn m n a) (hb:drawn m n b) (h:1+m+m<=k):drawn k n (.pair a b):=by
 obtain⟨a1,a2,a3⟩:=ha;obtain⟨b1,b2,b3⟩:=hb;exact⟨by simp only[V.fine,a1,b1,C_],by simp only[V.size];omega,by simp only[V.vbelow,a3,b3,C_]⟩
theorem ae2 {m k:Nat} {n:Int} {v:V} (h:drawn m n v) (hk:m<=k):drawn k n v:=⟨h.1,K_ h.2.1 hk,h.2.2⟩
theorem aP5 {k:Nat} {n i:Int} (h0:0<=i) (h1:i<n) (hn:n<=100) (hk:1<=k):drawn k n (.var i):=by
 refine⟨?_,hk,?_⟩
 ·simp[V.fine];omega
 ·simp[V.vbelow];omega
theorem bx4 {k:Nat} {n:Int} (hk:1<=k):drawn k n .nil:=⟨rfl,hk,rfl⟩
theorem aP6 {k:Nat} {n i:Int} (h0:0<=i) (h1:i<=255) (hk:1<=k):drawn k n (.num i):=by
 refine⟨?_,hk,rfl⟩;simp[V.fine];omega
theorem bG5 {m:Nat} {n:Int} {v:V} (h:drawn m n v) (hm:m<=200):v.ok=true:=by
 unfold V.ok;simp only[h.1,t_,decide_eq_true_eq];have:=h.2.1;omega
theorem V.fineLow:∀v:V,v.fine=true->v.low=true
 | .nil,_=>rfl
 | .var _,_=>rfl
 | .num _,_=>rfl
 | .sym s,h=>by simp[V.low,(H5 h).2]
 | .pair a b,h=>by
  simp only[V.fine,a_] at h;simp only[V.low,a_];exact⟨V.fineLow a h.1,V.fineLow b h.2⟩
theorem bX8 {v:V} (h:v.ok=true):wtL v.enc<=80000:=by
 unfold V.ok at h;simp only[a_,decide_eq_true_eq] at h;have:=V.wt_low v (V.fineLow v h.1);omega
theorem aS8:∀(l:List V),l.all V.ok=true->wtR (l.map V.enc)<=80001 * l.length
 | [],_=>by simp[wtR]
 | v :: r,h=>by
  simp only[z_,a_] at h;have h1:=bX8 h.1;have h2:=aS8 r h.2;simp only[e_,wtR,b_];omega
def aJ9 (p:Nat->Bool) (n:Nat):Nat:=(List.range n).findIdx p
theorem bN0 {p:Nat->Bool} {n k:Nat} (hk:k<=n) (h1:∀i,i<k->p i=false) (h2:k<n->p k=true):aJ9 p n=k:=by
 unfold aJ9;rcases M_ k n with h | h
 ·rw[List.findIdx_eq (by simpa using h)]
  simp only[List.getElem_range];exact⟨h2 h,h1⟩
 ·obtain rfl:k=n:=by omega
  have:=List.findIdx_eq_length_of_false (p:=p) (xs:=List.range k) (fun x hx=>h1 x (ab_.1 hx));simpa using this
def bound (s:List Bd) (v:Int):Bool:=s.any (fun b=>b.var == v)
theorem ai8 {p:Nat->Bool} {n:Nat}:aJ9 p n<=n/\(∀i,i<aJ9 p n->p i=false)/\(aJ9 p n<n->p (aJ9 p n)=true):=by
 unfold aJ9;have hl:(List.range n).findIdx p<=(List.range n).length:=List.findIdx_le_length;rw[List.length_range] at hl;refine⟨hl,fun i hi=>?_,fun h=>?_⟩
 ·have:=List.not_of_lt_findIdx hi
  simpa using this
 ·have:=List.findIdx_getElem (w:=by simpa using h) (p:=p) (xs:=List.range n)
  simpa using this
structure Lin {α:Type} (c:α->α->Int):Prop where
 zero:∀a b,c a b=0↔a=b
 neg:∀a b,c a b<0↔0<c b a
 tr:∀a b d,c a b<0->c b d<0->c a d<0
theorem ax6:∀a b:List UInt8,Op.bytesLess a b=true->Op.bytesLess b a=false
 | _,[],h=>by simp[Op.bytesLess] at h
 | [],_ :: _,_=>rfl
 | a :: r,b :: q,h=>by
  simp only[Op.bytesLess,Q_,decide_eq_true_eq,a_,beq_iff_eq,U_,decide_eq_false_iff_not,an_] at h |-;rcases h with h | ⟨h,h2⟩
  ·exact⟨fun h'=>by rw[UInt8.lt_iff_toNat_lt] at h h';omega,fun e=>by subst e;exact absurd h (by rw[UInt8.lt_iff_toNat_lt];omega)⟩
  ·subst h
   exact⟨by rw[UInt8.lt_iff_toNat_lt];omega,fun _=>ax6 r q h2⟩
theorem by4:∀a b:List UInt8,a≠b->Op.bytesLess a b=false->Op.bytesLess b a=true
 | [],[],h,_=>absurd rfl h
 | _ :: _,[],_,_=>rfl
 | [],_ :: _,_,h=>by simp[Op.bytesLess] at h
 | a :: r,b :: q,h,h2=>by
  simp only[Op.bytesLess,Q_,decide_eq_true_eq,a_,beq_iff_eq,U_,decide_eq_false_iff_not,an_] at h2 |-;by_cases e:a=b
  ·subst e
   exact .inr ⟨rfl,by4 r q (fun e=>h (by rw[e])) (h2.2 rfl)⟩
  ·left
   have h1:=h2.1;rw[UInt8.lt_iff_toNat_lt] at h1 |-;have:a.toNat≠b.toNat:=fun e'=>e (UInt8.toNat_inj.1 e');omega
theorem bS2:∀a b c:List UInt8,Op.bytesLess a b=true->Op.bytesLess b c=true->Op.bytesLess a c=true
 | _,[],_,h,_=>by simp[Op.bytesLess] at h
 | _,_ :: _,[],_,h=>by simp[Op.bytesLess] at h
 | [],_ :: _,_ :: _,_,_=>rfl
 | a :: r,b :: q,c :: s,h1,h2=>by
  simp only[Op.bytesLess,Q_,decide_eq_true_eq,a_,beq_iff_eq] at h1 h2 |-;rcases h1 with h1 | ⟨e1,h1⟩<;>rcases h2 with h2 | ⟨e2,h2⟩
  ·left;rw[UInt8.lt_iff_toNat_lt] at h1 h2 |-;omega
  ·subst e2;exact .inl h1
  ·subst e1;exact .inl h2
  ·subst e1;subst e2;exact .inr ⟨rfl,bS2 r q s h1 h2⟩
def V.k3 (a b:V):Int:=if a.kind≠b.kind then (if a.kind<b.kind then -1 else 1) else if a.int≠b.int then (if a.int<b.int then -1 else 1) else if a.name≠b.name then (if Op.bytesLess a.name b.name then -1 else 1) else 0
def V.r3:V->V->Int
 | .pair a1 a2,.pair b1 b2=>if V.cmp a1 b1≠0 then V.cmp a1 b1 else V.cmp a2 b2
 | _,_=>0
theorem V.cmp_k3 (a b:V):V.cmp a b=if V.k3 a b≠0 then V.k3 a b else V.r3 a b:=by
 rw[V.cmp.eq_def];unfold V.k3 V.r3;by_cases h1:a.kind=b.kind
 ·by_cases h2:a.int=b.int
  ·by_cases h3:a.name=b.name
   ·simp only[h1,h2,h3,ne_eq,not_true,if_false,reduceIte]
    all_goals rfl
   ·simp only[h1,h2,h3,ne_eq,not_true,not_false_eq_true,if_false,if_true,reduceIte]
    split<;>simp
  ·simp only[h1,h2,ne_eq,not_true,not_false_eq_true,if_false,if_true,reduceIte]
   split<;>simp
 ·simp only[h1,ne_eq,not_false_eq_true,if_true,reduceIte]
  split<;>simp
theorem V.k3_zero (a b:V):V.k3 a b=0↔a.kind=b.kind/\a.int=b.int/\a.name=b.name:=by
 unfold V.k3;by_cases h1:a.kind=b.kind
 ·by_cases h2:a.int=b.int
  ·by_cases h3:a.name=b.name
   ·simp[h1,h2,h3]
   ·simp only[h1,h2,h3,ne_eq,not_true,not_false_eq_true,if_false,if_true,reduceIte]
    split<;>simp
  ·simp only[h1,h2,ne_eq,not_true,not_false_eq_true,if_false,if_true,reduceIte]
   split<;>simp
 ·simp only[h1,ne_eq,not_false_eq_true,if_true,reduceIte]
  split<;>simp
theorem V.k3_neg (a b:V):V.k3 a b<0↔a.kind<b.kind\/(a.kind=b.kind/\(a.int<b.int\/(a.int=b.int/\a.name≠b.name/\Op.bytesLess a.name b.name=true))):=by
 unfold V.k3;repeat' split
 all_goals simp_all
 all_goals omega
theorem V.k3_pos (a b:V):0<V.k3 a b↔b.kind<a.kind\/(a.kind=b.kind/\(b.int<a.int\/(a.int=b.int/\a.name≠b.name/\Op.bytesLess a.name b.name=false))):=by
 unfold V.k3;repeat' split
 all_goals simp_all
 all_goals omega
theorem V.k3_lin (a b:V):V.k3 a b<0↔0<V.k3 b a:=by
 rw[V.k3_neg,V.k3_pos];constructor
 ·rintro (h | ⟨h1,h | ⟨h2,h3,h4⟩⟩)
  ·exact .inl h
  ·exact .inr ⟨h1.symm,.inl h⟩
  ·exact .inr ⟨h1.symm,.inr ⟨h2.symm,fun e=>h3 e.symm,ax6 _ _ h4⟩⟩
 ·rintro (h | ⟨h1,h | ⟨h2,h3,h4⟩⟩)
  ·exact .inl h
  ·exact .inr ⟨h1.symm,.inl h⟩
  ·exact .inr ⟨h1.symm,.inr ⟨h2.symm,fun e=>h3 e.symm,by4 _ _ h3 h4⟩⟩
theorem V.k3_tr (a b d:V) (h1:V.k3 a b<0) (h2:V.k3 b d<0):V.k3 a d<0:=by
 rw[V.k3_neg] at h1 h2 |-;rcases h1 with h1 | ⟨e1,h1 | ⟨f1,g1,h1⟩⟩<;>rcases h2 with h2 | ⟨e2,h2 | ⟨f2,g2,h2⟩⟩
 all_goals first
  | left;omega
  | right;refine⟨by omega,?_⟩;left;omega
  | skip
 refine .inr ⟨by omega,.inr ⟨by omega,fun e=>?_,bS2 _ _ _ h1 h2⟩⟩;rw[<-e] at h2;rw[ax6 _ _ h1] at h2;cases h2
theorem V.k3_eq {a b:V} (h:V.k3 a b=0) (d:V):V.k3 a d=V.k3 b d/\V.k3 d a=V.k3 d b:=by
 obtain⟨h1,h2,h3⟩:=(V.k3_zero a b).1 h;unfold V.k3;rw[h1,h2,h3];exact⟨rfl,rfl⟩
theorem V.cmp_zero:∀a b:V,V.cmp a b=0↔a=b:=by
 intro a;induction a with
 | pair a1 a2 ih1 ih2 =>
  intro b;rw[V.cmp_k3];by_cases hk:V.k3 (.pair a1 a2) b=0
  ·rw[if_neg (by simpa using hk)]
   obtain⟨h1,_,_⟩:=(V.k3_zero _ _).1 hk;cases b with
   | pair b1 b2 =>
    simp only[V.r3];by_cases h:V.cmp a1 b1=0
    ·rw[if_neg (by simpa using h),ih2 b2]
     have:=(ih1 b1).1 h;subst this;simp
    ·rw[if_pos h]
     have:¬a1=b1:=fun e=>h ((ih1 b1).2 e);simp[h,this]
   | _=>simp[V.kind] at h1
  ·rw[if_pos hk]
   refine⟨fun h=>absurd h hk,fun e=>?_⟩;subst e;exact absurd ((V.k3_zero _ _).2 ⟨rfl,rfl,rfl⟩) hk
 | _ =>
  intro b;rw[V.cmp_k3];split
  ·rename_i hk
   refine⟨fun h=>absurd h hk,fun e=>?_⟩;subst e;exact absurd ((V.k3_zero _ _).2 ⟨rfl,rfl,rfl⟩) hk
  ·rename_i hk
   have hk:=(V.k3_zero _ _).1 (Decidable.not_not.1 hk);cases b<;>simp_all[V.kind,V.int,V.name,V.r3]
theorem V.cmp_neg:∀a b:V,V.cmp a b<0↔0<V.cmp b a:=by
 intro a;induction a with
 | pair a1 a2 ih1 ih2 =>
  intro b;rw[V.cmp_k3,V.cmp_k3 b];have hl:=V.k3_lin (.pair a1 a2) b;have hl2:=V.k3_lin b (.pair a1 a2);by_cases hk:V.k3 (.pair a1 a2) b=0
  ·have hk2:V.k3 b (.pair a1 a2)=0:=by omega
   rw[if_neg (by simpa using hk),if_neg (by simpa using hk2)];obtain⟨h1,_,_⟩:=(V.k3_zero _ _).1 hk;cases b with
   | pair b1 b2 =>
    simp only[V.r3];have i1:=ih1 b1;have i2:=ih2 b2;by_cases h:V.cmp a1 b1=0
    ·have e:=(V.cmp_zero _ _).1 h
     subst e;rw[if_neg (by simpa using h),if_neg (by simpa using h)];exact i2
    ·have h':V.cmp b1 a1≠0:=fun e=>h ((V.cmp_zero _ _).2 ((V.cmp_zero _ _).1 e).symm)
     rw[if_pos h,if_pos h'];exact i1
   | _=>simp[V.kind] at h1
  ·have hk2:V.k3 b (.pair a1 a2)≠0:=by omega
   rw[if_pos hk,if_pos hk2];exact hl
 | _ =>
  intro b;rw[V.cmp_k3,V.cmp_k3 b]
  first
   | (have hl:=V.k3_lin V.nil b;have hl2:=V.k3_lin b V.nil)
   | skip
  split
  ·rename_i hk
   rw[if_pos (by have h1:=(V.k3_lin b);intro e;have:=(V.k3_zero _ _).1 e;exact hk ((V.k3_zero _ _).2 ⟨this.1.symm,this.2.1.symm,this.2.2.symm⟩))];exact V.k3_lin _ _
  ·rename_i hk
   have hk:=(V.k3_zero _ _).1 (Decidable.not_not.1 hk);rw[if_neg (by have:=(V.k3_zero b _).2 ⟨hk.1.symm,hk.2.1.symm,hk.2.2.symm⟩;simpa using this)];cases b<;>simp_all[V.kind,V.int,V.name,V.r3]
theorem V.cmp_tr:∀a b d:V,V.cmp a b<0->V.cmp b d<0->V.cmp a d<0:=by
 intro a;induction a with
 | pair a1 a2 ih1 ih2 =>
  intro b d h1 h2;rw[V.cmp_k3] at h1 h2 |-;by_cases k1:V.k3 (.pair a1 a2) b=0
  ·rw[if_neg (by simpa using k1)] at h1
   rw[(V.k3_eq k1 d).1];by_cases k2:V.k3 b d=0
   ·rw[if_neg (by simpa using k2)] at h2 |-
    obtain⟨e1,_,_⟩:=(V.k3_zero _ _).1 k1;obtain⟨e2,_,_⟩:=(V.k3_zero _ _).1 k2;cases b with
    | pair b1 b2 =>
     cases d with
     | pair d1 d2 =>
      simp only[V.r3] at h1 h2 |-;by_cases c1:V.cmp a1 b1=0
      ·have:=(V.cmp_zero _ _).1 c1
       subst this;rw[if_neg (by simpa using c1)] at h1;by_cases c2:V.cmp a1 d1=0
       ·rw[if_neg (by simpa using c2)] at h2 |-
        exact ih2 _ _ h1 h2
       ·rw[if_pos c2] at h2 |-;exact h2
      ·rw[if_pos c1] at h1
       by_cases c2:V.cmp b1 d1=0
       ·have:=(V.cmp_zero _ _).1 c2
        subst this;rw[if_pos c1];exact h1
       ·rw[if_pos c2] at h2
        have h3:=ih1 _ _ h1 h2;rw[if_pos (by omega)];exact h3
     | _=>simp[V.kind] at e2
    | _=>simp[V.kind] at e1
   ·rw[if_pos k2] at h2 |-;exact h2
  ·rw[if_pos k1] at h1
   by_cases k2:V.k3 b d=0
   ·rw[<-(V.k3_eq k2 (.pair a1 a2)).2,if_pos k1];exact h1
   ·rw[if_pos k2] at h2
    have h3:=V.k3_tr _ _ _ h1 h2;rw[if_pos (by omega)];exact h3
 | _ =>
  intro b d h1 h2;rw[V.cmp_k3] at h1 h2 |-;split at h1
  ·rename_i k1
   split at h2
   ·rename_i k2
    have h3:=V.k3_tr _ _ _ h1 h2;rw[if_pos (by omega)];exact h3
   ·rename_i k2
    have k2:=Decidable.not_not.1 k2;rw[<-(V.k3_eq k2 _).2,if_pos k1];exact h1
  ·rename_i k1
   have hk:=(V.k3_zero _ _).1 (Decidable.not_not.1 k1);cases b<;>simp_all[V.kind,V.int,V.name,V.r3]
theorem V.cmp_lin:Lin V.cmp:=⟨V.cmp_zero,V.cmp_neg,V.cmp_tr⟩
theorem V.cmpL_lin:Lin V.cmpL:=by
 have z:∀a b:List V,V.cmpL a b=0↔a=b:=by
  intro a;induction a with
  | nil =>
   intro b;rw[V.cmpL_nil_left];unfold G5;cases b with
   | nil=>simp
   | cons x r=>simp
  | cons x r ih =>
   intro b;cases b with
   | nil=>rw[V.cmpL_nil_right];unfold G5;simp;split<;>omega
   | cons y q =>
    rw[V.cmpL_cons];by_cases h:V.cmp x y=0
    ·have:=(V.cmp_zero _ _).1 h
     subst this;rw[if_neg (by simpa using h),ih q];simp
    ·rw[if_pos h]
     have:¬x=y:=fun e=>h ((V.cmp_zero _ _).2 e);simp[h,this]
 refine⟨z,?_,?_⟩
 ·intro a
  induction a with
  | nil =>
   intro b;rw[V.cmpL_nil_left,V.cmpL_nil_right];unfold G5;repeat' split
   all_goals omega
  | cons x r ih =>
   intro b;cases b with
   | nil =>
    rw[V.cmpL_nil_left,V.cmpL_nil_right];unfold G5;repeat' split
    all_goals omega
   | cons y q =>
    rw[V.cmpL_cons,V.cmpL_cons];by_cases h:V.cmp x y=0
    ·have:=(V.cmp_zero _ _).1 h
     subst this;rw[if_neg (by simpa using h),if_neg (by simpa using h)];exact ih q
    ·have h':V.cmp y x≠0:=fun e=>h ((V.cmp_zero _ _).2 ((V.cmp_zero _ _).1 e).symm)
     rw[if_pos h,if_pos h'];exact V.cmp_neg x y
 ·intro a
  induction a with
  | nil =>
   intro b d h1 h2;rw[V.cmpL_nil_left] at h1 |-;cases d with
   | nil =>
    rw[V.cmpL_nil_right] at h2;unfold G5 at h1 h2;exfalso;revert h1 h2
    repeat' split
    all_goals omega
   | cons=>unfold G5;rw[if_pos (by simp)];omega
  | cons x r ih =>
   intro b d h1 h2;cases b with
   | nil =>
    rw[V.cmpL_nil_right] at h1;exfalso;revert h1;unfold G5;repeat' split
    all_goals simp_all
    all_goals omega
   | cons y q =>
    cases d with
    | nil =>
     rw[V.cmpL_nil_right] at h2;exfalso;revert h2;unfold G5;repeat' split
     all_goals simp_all
     all_goals omega
    | cons w s =>
     rw[V.cmpL_cons] at h1 h2 |-;by_cases c1:V.cmp x y=0
     ·have:=(V.cmp_zero _ _).1 c1
      subst this;rw[if_neg (by simpa using c1)] at h1;by_cases c2:V.cmp x w=0
      ·rw[if_neg (by simpa using c2)] at h2 |-
       exact ih _ _ h1 h2
      ·rw[if_pos c2] at h2 |-;exact h2
     ·rw[if_pos c1] at h1
      by_cases c2:V.cmp y w=0
      ·have:=(V.cmp_zero _ _).1 c2
       subst this;rw[if_pos c1];exact h1
      ·rw[if_pos c2] at h2
       have h3:=V.cmp_tr _ _ _ h1 h2;rw[if_pos (by omega)];exact h3
def FcV.cmp (a b:FcV):Int:=K5 a.1 a.2 b.1 b.2
theorem FcV.cmp_lin:Lin FcV.cmp:=by
 have hL:=V.cmpL_lin;refine⟨fun a b=>?_,fun a b=>?_,fun a b d h1 h2=>?_⟩
 ·obtain⟨r,l⟩:=a
  obtain⟨q,m⟩:=b;unfold FcV.cmp K5;by_cases h:r=q
  ·subst h
   simp[hL.zero]
  ·rw[if_pos h]
   simp only[Prod.mk.injEq,h,false_and,iff_false];split<;>omega
 ·obtain⟨r,l⟩:=a
  obtain⟨q,m⟩:=b;unfold FcV.cmp K5;by_cases h:r=q
  ·subst h
   simp only[ne_eq,not_true,if_false,reduceIte];exact hL.neg l m
  ·rw[if_pos h,if_pos (fun e=>h e.symm)]
   dsimp only;cases hb:Op.bytesLess r q with
   | true=>rw[ax6 _ _ hb];simp
   | false=>rw[by4 _ _ h hb];simp
 ·obtain⟨r,l⟩:=a
  obtain⟨q,m⟩:=b;obtain⟨s,k⟩:=d;unfold FcV.cmp K5 at *;by_cases e1:r=q
  ·subst e1
   by_cases e2:r=s
   ·subst e2
    simp only[ne_eq,not_true,if_false,reduceIte] at *;exact hL.tr _ _ _ h1 h2
   ·rw[if_pos e2] at h2 |-;exact h2
  ·rw[if_pos e1] at h1
   by_cases e2:q=s
   ·subst e2;rw[if_pos e1];exact h1
   ·rw[if_pos e2] at h2
    have b1:Op.bytesLess r q=true:=by
     cases hb:Op.bytesLess r q with
     | true=>rfl
     | false=>rw[hb] at h1;simp at h1
    have b2:Op.bytesLess q s=true:=by
     cases hb:Op.bytesLess q s with
     | true=>rfl
     | false=>rw[hb] at h2;simp at h2
    have b3:=bS2 _ _ _ b1 b2;have e3:r≠s:=fun e=>by subst e;rw[ax6 _ _ b1] at b2;cases b2
    rw[if_pos e3,b3];simp
section
variable {α:Type} {c:α->α->Int}
theorem Lin.irr (h:Lin c) (a:α):c a a=0:=(h.zero a a).2 rfl
theorem Lin.pos (h:Lin c) {a b:α}:0<c a b↔c b a<0:=(h.neg b a).symm
theorem Lin.wk (h:Lin c):Wk (fun a b=>decide (c a b<0)):=by
 refine⟨fun a b hab=>?_,fun a b d h1 h2=>?_⟩
 ·simp only[decide_eq_true_eq,decide_eq_false_iff_not] at hab |-
  have:=(h.neg a b).1 hab;omega
 ·simp only[decide_eq_false_iff_not] at h1 h2 |-
  intro h3;by_cases e:c b a=0
  ·have:=(h.zero _ _).1 e;subst this;exact h2 h3
  ·by_cases e2:c d b=0
   ·have:=(h.zero _ _).1 e2;subst this;exact h1 h3
   ·have k1:c a b<0:=(h.neg a b).2 (by omega)
    have k2:c b d<0:=(h.neg b d).2 (by omega);have k3:=h.tr _ _ _ k1 k2;have:=(h.neg a d).1 k3;omega
def ai0 (c:α->α->Int) (l:List α):Prop:=l.Pairwise fun a b=>c a b<0
def ad8 (c:α->α->Int):List α->α->List α
 | [],x=>[x]
 | y :: r,x=>if c y x<0 then y :: ad8 c r x else if c y x=0 then y :: r else x :: y :: r
def al7 (c:α->α->Int) (l:List α):List α:=l.foldl (ad8 c) []
theorem ad7 (h:Lin c):∀(l:List α) (x z:α),z∈ad8 c l x↔z=x\/z∈l
 | [],x,z=>by simp[ad8]
 | y :: r,x,z=>by
  unfold ad8;split
  ·simp only[d_,ad7 h r x z]
   constructor
   ·rintro (h | h | h)<;>simp[h]
   ·rintro (h | h | h)<;>simp[h]
  ·split
   ·rename_i e
    have:=(h.zero _ _).1 e;subst this;simp
   ·simp
theorem aq7 (h:Lin c):∀(l:List α) (x:α),ai0 c l->ai0 c (ad8 c l x)
 | [],x,_=>List.pairwise_singleton _ _
 | y :: r,x,ha=>by
  unfold ai0 at ha |-;rw[h_] at ha;unfold ad8;split
  ·rename_i hy
   rw[h_];refine⟨fun z hz=>?_,aq7 h r x ha.2⟩;rcases(ad7 h r x z).1 hz with rfl | hz
   ·exact hy
   ·exact ha.1 z hz
  ·split
   ·exact h_.2 ha
   ·rename_i h1 h2
    have hxy:c x y<0:=(h.neg x y).2 (by omega);rw[h_];refine⟨fun z hz=>?_,h_.2 ha⟩;rcases d_.1 hz with rfl | hz
    ·exact hxy
    ·exact h.tr _ _ _ hxy (ha.1 z hz)
theorem an0 (h:Lin c):∀(l acc:List α),ai0 c acc->ai0 c (l.foldl (ad8 c) acc)/\∀z,z∈l.foldl (ad8 c) acc↔z∈acc\/z∈l
 | [],acc,ha=>⟨ha,fun z=>by simp⟩
 | x :: r,acc,ha=>by
  obtain⟨h1,h2⟩:=an0 h r (ad8 c acc x) (aq7 h acc x ha);refine⟨h1,fun z=>?_⟩;rw[v_,h2,ad7 h];simp only[d_];constructor
  ·rintro ((h | h) | h)<;>simp[h]
  ·rintro (h | h | h)<;>simp[h]
theorem aK1 (h:Lin c) (l:List α):ai0 c (al7 c l):=(an0 h l [] List.Pairwise.nil).1
theorem at6 (h:Lin c) (l:List α) (z:α):z∈al7 c l↔z∈l:=by
 have:=(an0 h l [] List.Pairwise.nil).2 z;unfold al7;simpa using this
theorem bd6 (h:Lin c):∀(l m:List α),ai0 c l->ai0 c m->(∀z,z∈l↔z∈m)->l=m
 | [],[],_,_,_=>rfl
 | [],y :: q,_,_,he=>by have:=(he y).2 (by simp);simp at this
 | x :: r,[],_,_,he=>by have:=(he x).1 (by simp);simp at this
 | x :: r,y :: q,hl,hm,he=>by
  unfold ai0 at hl hm;rw[h_] at hl hm;have hxy:x=y:=by
   rcases d_.1 ((he x).1 (by simp)) with e | e
   ·exact e
   ·rcases d_.1 ((he y).2 (by simp)) with e' | e'
    ·exact e'.symm
    ·have h1:=hm.1 x e
     have h2:=hl.1 y e';have:=(h.neg x y).1 h2;omega
  subst hxy;congr 1;refine bd6 h r q hl.2 hm.2 (fun z=>⟨fun hz=>?_,fun hz=>?_⟩)
  ·rcases d_.1 ((he z).1 (by simp[hz])) with e | e
   ·subst e;have:=hl.1 z hz;rw[h.irr] at this;omega
   ·exact e
  ·rcases d_.1 ((he z).2 (by simp[hz])) with e | e
   ·subst e;have:=hm.1 z hz;rw[h.irr] at this;omega
   ·exact e
def ddC (c:α->α->Int):Option α->List α->List α
 | _,[]=>[]
 | none,x :: r=>x :: ddC c (some x) r
 | some y,x :: r=>if c y x=0 then ddC c (some x) r else x :: ddC c (some x) r
theorem aH5 (h:Lin c):∀(l:List α) (y:α),l.Pairwise (fun a b=>¬c b a<0)->(∀z,z∈l->¬c z y<0)->ai0 c (ddC c (some y) l)/\(∀z,z∈ddC c (some y) l->c y z<0)/\∀z,z∈ddC c (some y) l\/z=y↔z∈l\/z=y
 | [],y,_,_=>⟨List.Pairwise.nil,fun z hz=>by simp[ddC] at hz,fun z=>by simp[ddC]⟩
 | x :: r,y,hp,hy=>by
  rw[h_] at hp;have hyx:=hy x (by simp);obtain⟨i1,i2,i3⟩:=aH5 h r x hp.2 hp.1;unfold ddC;split
  ·rename_i e
   have:=(h.zero _ _).1 e;subst this;refine⟨i1,i2,fun z=>?_⟩;rw[i3 z];simp only[d_];constructor
   ·rintro (h | h)<;>simp[h]
   ·rintro ((h | h) | h)<;>simp[h]
  ·rename_i e
   have hlt:c y x<0:=by
    have:=(h.neg x y);have:=(h.pos (a:=y) (b:=x));omega
   refine⟨h_.2 ⟨i2,i1⟩,fun z hz=>?_,fun z=>?_⟩
   ·rcases d_.1 hz with rfl | hz
    ·exact hlt
    ·exact h.tr _ _ _ hlt (i2 z hz)
   ·have:=i3 z
    simp only[d_];constructor
    ·rintro ((e | e) | e)
     ·exact .inl (.inl e)
     ·rcases this.1 (.inl e) with e' | e'
      ·exact .inl (.inr e')
      ·exact .inl (.inl e')
     ·exact .inr e
    ·rintro ((e | e) | e)
     ·exact .inl (.inl e)
     ·rcases this.2 (.inl e) with e' | e'
      ·exact .inl (.inr e')
      ·exact .inl (.inl e')
     ·exact .inr e
theorem bd0 (h:Lin c) {l s:List α} (hm:∀z,z∈s↔z∈l) (hs:s.Pairwise (fun a b=>¬c b a<0)):ddC c none s=al7 c l:=by
 refine bd6 h _ _ ?_ (aK1 h l) (fun z=>?_)
 ·cases s with
  | nil=>exact List.Pairwise.nil
  | cons x r =>
   rw[h_] at hs;obtain⟨i1,i2,_⟩:=aH5 h r x hs.2 hs.1;exact h_.2 ⟨i2,i1⟩
 ·rw[at6 h,<-hm z]
  cases s with
  | nil=>simp[ddC]
  | cons x r =>
   rw[h_] at hs;obtain⟨_,_,i3⟩:=aH5 h r x hs.2 hs.1;have:=i3 z;show z∈x :: ddC c (some x) r↔_;simp only[d_];constructor
   ·rintro (e | e)
    ·exact .inl e
    ·rcases this.1 (.inl e) with e' | e'
     ·exact .inr e'
     ·exact .inl e'
   ·rintro (e | e)
    ·exact .inl e
    ·rcases this.2 (.inl e) with e' | e'
     ·exact .inr e'
     ·exact .inl e'
theorem bd1 (l:List α) (p:Option α) (x:α):ddC c p (l++[x])=ddC c p l++(match (p.toList++l).getLast? with | some y=>if c y x=0 then [] else [x] | none=>[x]):=by
 induction l generalizing p with
 | nil=>cases p with
  | none=>rfl
  | some y=>simp only[B_,ddC,Option.toList_some,L_,List.getLast?_singleton]
 | cons y r ih =>
  have hl:((some y).toList++r).getLast? = (p.toList++y :: r).getLast?:=by
   cases p with
   | none=>rfl
   | some w=>exact(List.getLast?_cons_cons ..).symm
  cases p with
  | none =>
   simp only[k_,ddC];rw[ih (some y),hl];try simp
  | some w =>
   simp only[k_,ddC];split
   ·rw[ih (some y),hl]
   ·rw[ih (some y),hl]
    rfl
def geC (c:α->α->Int) (l:List α) (f:α) (i:Nat):Bool:=match l[i]? with | some x=>decide (0<=c x f) | none=>false
theorem aI2 {l:List α} (ha:ai0 c l) {i j:Nat} {a b:α} (hij:i<j) (h1:l[i]? = some a) (h2:l[j]? = some b):c a b<0:=by
 obtain⟨k1,rfl⟩:=f_.1 h1;obtain⟨k2,rfl⟩:=f_.1 h2;exact E_.1 ha i j k1 k2 hij
theorem bF3 (h:Lin c) {l:List α} (ha:ai0 c l) (f:α):∀i j,i<=j->j<l.length->geC c l f i=true->geC c l f j=true:=by
 intro i j hij hj hi;unfold geC at hi |-;have hbj:l[j]? = some l[j]:=m_ hj;have hbi:l[i]? = some (l[i]'(by omega)):=m_ (by omega);rw[hbi] at hi;rw[hbj];simp only[decide_eq_true_eq] at hi |-;rcases M_ i j with k | k
 ·have h1:=aI2 ha k hbi hbj
  rcases Int.lt_or_le (c l[j] f) 0 with h2 | h2
  ·have:=h.tr _ _ _ h1 h2;omega
  ·exact h2
 ·obtain rfl:i=j:=by omega
  exact hi
theorem bC0 (h:Lin c) {l:List α} (ha:ai0 c l) (f:α):(match l[aJ9 (geC c l f) l.length]? with | some x=>c x f=0 | none=>False)↔f∈l:=by
 obtain⟨k1,k2,k3⟩:=ai8 (p:=geC c l f) (n:=l.length);generalize aJ9 (geC c l f) l.length=k at k1 k2 k3;constructor
 ·intro hh
  split at hh
  ·rename_i x hx
   rw[<-(h.zero _ _).1 hh];exact p_ hx
  ·exact hh.elim
 ·intro hf
  obtain⟨j,hj⟩:=y_ hf;have hjl:=(f_.1 hj).1;have hgj:geC c l f j=true:=by unfold geC;rw[hj];simp[h.irr]
  have hkj:k<=j:=by
   rcases M_ j k with e | e
   ·rw[k2 j e] at hgj;cases hgj
   ·exact e
  have hkl:k<l.length:=by omega
  have hbk:l[k]? = some l[k]:=m_ hkl;have hgk:=k3 hkl;unfold geC at hgk;rw[hbk] at hgk |-;simp only[decide_eq_true_eq] at hgk;dsimp only;rcases M_ k j with e | e
  ·have:=aI2 ha e hbk hj;omega
  ·obtain rfl:k=j:=by omega
   rw[hj] at hbk;cases hbk;exact h.irr _
def ae7 (c:α->α->Int) (l:List α) (k:Nat) (x:α):Bool:=match l[k]? with | some y=>decide (c y x=0) | none=>false
theorem aU4 (h:Lin c):∀(l:List α) (x:α) (k:Nat),ai0 c l->k<=l.length->(∀i y,i<k->l[i]? = some y->c y x<0)->(∀i y,k<=i->l[i]? = some y->¬c y x<0) ->
  ad8 c l x=if ae7 c l k x then l else l.take k++x :: l.drop k
 | [],x,k,_,hk,_,_=>by
  have:k=0:=by simpa using hk
  subst this;simp[ad8,ae7]
 | y :: r,x,0,ha,hk,h1,h2=>by
  have:=h2 0 y (j_ _) rfl;unfold ad8;rw[if_neg this];simp[ae7]
 | y :: r,x,k+1,ha,hk,h1,h2=>by
  have hy:=h1 0 y (by omega) rfl;unfold ad8;rw[if_pos hy];unfold ai0 at ha;rw[h_] at ha;rw[aU4 h r x k ha.2 (by simpa using hk) (fun i z hi hz=>h1 (i+1) z (by omega) (by simpa using hz)) (fun i z hi hz=>h2 (i+1) z (by omega) (by simpa using hz))];have e:ae7 c (y :: r) (k+1) x=ae7 c r k x:=rfl;rw[e];cases ae7 c r k x<;>rfl
end
def ap6:Option V->List Tm->Bool
 | _,[]=>true
 | p,t :: r=>t.ground && (match p with | some q=>decide (q.cmp t.V<0) | none=>true) && ap6 (some t.V) r
def U3 (u:List Tm):Bool:=decide (1<=u.length) && decide (u.length<=8) && ap6 none u
theorem aX6:∀(u:List Tm) (p:Option V),ap6 p u=true->ai0 V.cmp (u.map Tm.V)/\(∀q,p=some q->∀t,t∈u->q.cmp t.V<0)/\u.all Tm.ground=true
 | [],_,_=>⟨List.Pairwise.nil,fun _ _ t ht=>by simp at ht,rfl⟩
 | t :: r,p,h=>by
  simp only[ap6,a_] at h;obtain⟨i1,i2,i3⟩:=aX6 r _ h.2;refine⟨h_.2 ⟨fun z hz=>?_,i1⟩,fun q hq x hx=>?_,by simp[h.1.1,i3]⟩
  ·obtain⟨x,hx,rfl⟩:=i_.1 hz
   exact i2 _ rfl x hx
  ·subst hq
   have h0:=h.1.2;simp only[decide_eq_true_eq] at h0;rcases d_.1 hx with rfl | hx
   ·exact h0
   ·exact V.cmp_tr _ _ _ h0 (i2 _ rfl x hx)
structure Uni (u:List V):Prop where
 pos:1<=u.length
 le:u.length<=8
 ok:∀v,v∈u->v.ok=true
 gr:∀v,v∈u->v.vars=[]
 asc:ai0 V.cmp u
theorem Uni.of {u:List Tm} (h:U3 u=true):Uni (u.map Tm.V)/\u=(u.map Tm.V).map V.tm:=by
 unfold U3 at h;simp only[a_,decide_eq_true_eq] at h;obtain⟨h1,_,h3⟩:=aX6 u none h.2;have hg:∀t,t∈u->t.ground=true:=c_.1 h3;refine⟨⟨by simpa using h.1.1,by simpa using h.1.2,fun v hv=>?_,fun v hv=>?_,h1⟩,ac0 h3⟩
 ·obtain⟨t,ht,rfl⟩:=i_.1 hv
  obtain⟨v,e1,e2⟩:=as4 (G8 (hg t ht));rw[e1];have:(V.tm v).V=v:=by
   unfold V.ok at e2;rw[a_] at e2;simp[Tm.V,V.v?_tm v e2.1]
  rw[this];exact e2
 ·obtain⟨t,ht,rfl⟩:=i_.1 hv
  have hk:=G8 (hg t ht);have h4:=hg t ht;unfold Tm.ground at h4;simp only[a_,decide_eq_true_eq] at h4;rw[<-Tm.vars_V hk];exact h4.2
structure RV where
 head:FcV
 clause:Int
 values:List V
 pos:List FcV
 neg:List FcV
def RV.ru (r:RV):Ru:=⟨r.head.fc,r.clause,r.values.map V.tm,r.pos.map FcV.fc,r.neg.map FcV.fc⟩
def E5 (u:List V):Nat->Nat->List V
 | 0,_=>[]
 | n+1,k=>u.getD (k % u.length) .nil :: E5 u n (k / u.length)
theorem M0 (u:List V):∀n k,(E5 u n k).length=n
 | 0,_=>rfl
 | n+1,k=>by simp[E5,M0 u n]
theorem L9 {u:List V} (h:1<=u.length):∀n k v,v∈E5 u n k->v∈u
 | 0,_,_,hv=>by simp[E5] at hv
 | n+1,k,v,hv=>by
  rcases d_.1 hv with rfl | hv
  ·have hlt:k % u.length<u.length:=Nat.mod_lt _ (by omega)
   rw[N_,m_ hlt];exact List.getElem_mem _
  ·exact L9 h n _ v hv
def bK1 (u:List V) (f:FcV):Bool:=f.2.all fun t=>decide (t∈u)
def aK8 (r:Rl) (i:Int) (c:List Gl) (vs:List V):RV:=⟨(r.name,vs.take r.arity.toNat),i,vs,x9 (o7 vs) c,z8 (o7 vs) c⟩
def V5 (u:List V) (c:List Gl) (vs:List V):Bool:=y8 (o7 vs) c && (x9 (o7 vs) c).all (bK1 u) && (z8 (o7 vs) c).all (bK1 u)
def rvK (u:List V) (r:Rl) (i:Int) (c:List Gl) (k:Nat):Option RV:=
 if V5 u c (E5 u (r.arity+r.locals).toNat k)=true then some (aK8 r i c (E5 u (r.arity+r.locals).toNat k)) else none
def aK6 (u:List V) (r:Rl) (i:Int) (c:List Gl):Nat->Nat->List RV
 | _,0=>[]
 | k,m+1=>(rvK u r i c k).toList++aK6 u r i c (k+1) m
def ay7 (u:List V) (r:Rl) (n:Nat):Int->List (List Gl)->List RV
 | _,[]=>[]
 | i,c :: cs=>aK6 u r i c 0 n++ay7 u r n (i+1) cs
def Rl.ways (u:List V) (r:Rl):Nat:=u.length ^ (r.arity+r.locals).toNat
def Pg.gnd (u:List V):List Rl->List RV
 | []=>[]
 | r :: rs=>ay7 u r (r.ways u) 0 r.body.clsS++Pg.gnd u rs
def Rl.gOk (u:List V) (r:Rl):Bool:=decide (r.body.clsS.length<=64) && decide (r.ways u<=4096)
def Pg.gr (p:Pg) (u:List V):Option (List RV):=if p.rels.all (Rl.gOk u)=true/\(Pg.gnd u p.rels).length<=2000 then some (Pg.gnd u p.rels) else none
def RV.fires (F G:List FcV) (r:RV):Bool:=r.pos.all (fun f=>decide (f∈F)) && r.neg.all fun f=>!decide (f∈G)
def Z9 (rs:List RV) (F G:List FcV):List FcV:=al7 FcV.cmp ((rs.filter (RV.fires F G)).map RV.head)
theorem Y0 {rs:List RV} {F G:List FcV} {f:FcV}:f∈Z9 rs F G↔∃r,r∈rs/\r.fires F G=true/\r.head=f:=by
 unfold Z9;rw[at6 FcV.cmp_lin,i_];constructor
 ·rintro ⟨r,h1,h2⟩
  rw[List.mem_filter] at h1;exact⟨r,h1.1,h1.2,h2⟩
 ·rintro ⟨r,h1,h2,h3⟩
  exact⟨r,List.mem_filter.2 ⟨h1,h2⟩,h3⟩
theorem bs5 (rs:List RV) (F G:List FcV):ai0 FcV.cmp (Z9 rs F G):=aK1 FcV.cmp_lin _
theorem bs3 {rs:List RV} {F F':List FcV} (h:∀f,f∈F->f∈F'):∀f,f∈Z9 rs F []->f∈Z9 rs F' []:=fun f hf=>by
 rw[Y0] at hf |-;obtain⟨r,h1,h2,h3⟩:=hf;refine⟨r,h1,?_,h3⟩;unfold RV.fires at h2 |-;simp only[a_,c_,decide_eq_true_eq] at h2 |-;exact⟨fun x hx=>h x (h2.1 x hx),h2.2⟩
theorem bp1 {α:Type} {c:α->α->Int} (l:List α):(al7 c l).length<=l.length:=by
 have ins:∀(l:List α) (x:α),(ad8 c l x).length<=l.length+1:=fun l x=>by
  induction l with
  | nil=>simp[ad8]
  | cons y r ih =>
   unfold ad8;split
   ·simp only[b_];omega
   ·split<;>simp
 have key:∀(l acc:List α),(l.foldl (ad8 c) acc).length<=acc.length+l.length:=fun l=>by
  induction l with
  | nil=>simp
  | cons x r ih =>
   intro acc;have h1:=ih (ad8 c acc x);have h2:=ins acc x;simp only[v_,b_];omega
 have:=key l [];simpa[al7] using this
theorem bs4 (rs:List RV) (F G:List FcV):(Z9 rs F G).length<=rs.length:=by
 have h1:=bp1 (c:=FcV.cmp) ((rs.filter (RV.fires F G)).map RV.head);rw[o_] at h1;exact K_ h1 (T_ _ _)
theorem ar1 {α:Type} {c:α->α->Int} (h:Lin c):∀(l m:List α),ai0 c l->ai0 c m->(∀z,z∈l->z∈m)->l.length<=m.length/\(l.length=m.length->l=m)
 | [],m,_,_,_=>⟨by simp,fun e=>by cases m with | nil=>rfl | cons=>simp at e⟩
 | x :: r,[],_,_,hs=>by have:=hs x (by simp);simp at this
 | x :: r,y :: q,hl,hm,hs=>by
  have hl':=hl;have hm':=hm;unfold ai0 at hl' hm';rw[h_] at hl' hm';rcases d_.1 (hs x (by simp)) with e | e
  ·subst e
   obtain⟨i1,i2⟩:=ar1 h r q hl'.2 hm'.2 (fun z hz=>by
    rcases d_.1 (hs z (by simp[hz])) with e | e
    ·subst e;have:=hl'.1 z hz;rw[h.irr] at this;omega
    ·exact e)
   exact⟨by simp only[b_];omega,fun e=>by rw[i2 (by simpa using e)]⟩
  ·have h1:=hm'.1 x e
   obtain⟨i1,i2⟩:=ar1 h (x :: r) q hl hm'.2 (fun z hz=>by
    rcases d_.1 (hs z hz) with e' | e'
    ·subst e'
     rcases d_.1 hz with e2 | e2
     ·subst e2;rw[h.irr] at h1;omega
     ·have h2:=hl'.1 z e2
      have:=h.tr _ _ _ h1 h2;rw[h.irr] at this;omega
    ·exact e')
   refine⟨by simp only[b_] at i1 |-;omega,fun e'=>?_⟩;exfalso;simp only[b_] at i1 e';omega
def stg (rs:List RV):Nat->List FcV
 | 0=>[]
 | k+1=>Z9 rs (stg rs k) []
theorem Y8 (rs:List RV):∀k,ai0 FcV.cmp (stg rs k)
 | 0=>List.Pairwise.nil
 | k+1=>bs5 _ _ _
theorem aE5 (rs:List RV):∀k f,f∈stg rs k->f∈stg rs (k+1)
 | 0,f,h=>by simp[stg] at h
 | k+1,f,h=>bs3 (aE5 rs k) f h
theorem bo8 (rs:List RV) {j k:Nat} (h:j<=k):∀f,f∈stg rs j->f∈stg rs k:=by
 induction h with
 | refl=>exact fun f hf=>hf
 | step _ ih=>exact fun f hf=>aE5 rs _ f (ih f hf)
theorem af8 (rs:List RV) (k:Nat):(stg rs k).length<=rs.length:=by
 cases k with
 | zero=>simp[stg]
 | succ k=>exact bs4 _ _ _
theorem bB7 {rs:List RV} {k:Nat} (h:stg rs (k+1)=stg rs k):∀j,k<=j->stg rs j=stg rs k:=by
 intro j hj;induction hj with
 | refl=>rfl
 | step _ ih=>show Z9 rs (stg rs _) []=_;rw[ih];exact h
theorem be5 {rs:List RV} {k:Nat}:(stg rs (k+1)).length=(stg rs k).length↔stg rs (k+1)=stg rs k:=
 ⟨fun h=>((ar1 FcV.cmp_lin _ _ (Y8 rs k) (Y8 rs (k+1)) (aE5 rs k)).2 h.symm).symm,fun h=>by rw[h]⟩
theorem bB8 {rs:List RV} {k:Nat} (h:stg rs (k+1)≠stg rs k):(stg rs k).length<(stg rs (k+1)).length:=by
 have h1:=(ar1 FcV.cmp_lin _ _ (Y8 rs k) (Y8 rs (k+1)) (aE5 rs k)).1;have h2:(stg rs (k+1)).length≠(stg rs k).length:=fun e=>h (be5.1 e);omega
def top (rs:List RV):Nat:=aJ9 (fun k=>decide (stg rs (k+1)=stg rs k)) (rs.length+1)
theorem Y7 (rs:List RV):top rs<=rs.length/\stg rs (top rs+1)=stg rs (top rs)/\∀k,k<top rs->stg rs (k+1)≠stg rs k:=by
 obtain⟨k1,k2,k3⟩:=ai8 (p:=fun k=>decide (stg rs (k+1)=stg rs k)) (n:=rs.length+1);have h2:∀k,k<top rs->stg rs (k+1)≠stg rs k:=fun k hk=>by have:=k2 k hk;simpa using this
 have h4:∀k,k<=top rs->k<=(stg rs k).length:=fun k=>by
  induction k with
  | zero=>intro _;omega
  | succ k ih =>
   intro hk;have h5:=bB8 (h2 k (by omega));have h6:=ih (by omega);omega
 have h5:=h4 (top rs) (j_ _);have h6:=af8 rs (top rs);have h7:top rs<rs.length+1:=by omega
 refine⟨by omega,?_,h2⟩;have:=k3 h7;exact of_decide_eq_true this
theorem bW0 {rs:List RV} {k:Nat} (h:stg rs (k+1)=stg rs k) (hb:∀j,j<k->stg rs (j+1)≠stg rs j):k=top rs:=by
 obtain⟨_,t2,t3⟩:=Y7 rs;rcases Nat.lt_trichotomy k (top rs) with e | e | e
 ·exact absurd h (t3 k e)
 ·exact e
 ·exact absurd t2 (hb _ e)
theorem bM8 (rs:List RV) (n:Nat):stg rs (min n (top rs))=stg rs n:=by
 rcases Nat.le_total n (top rs) with h | h
 ·rw[Nat.min_eq_left h]
 ·rw[Nat.min_eq_right h];exact(bB7 (Y7 rs).2.1 n h).symm
def hgt (rs:List RV) (f:FcV):Int:=
 if f∈stg rs (top rs) then (aJ9 (fun k=>decide (f∈stg rs k)) (top rs+1):Int) else -1
def I8 (b L:Nat):Nat->Nat->Nat
 | 0,k=>k
 | n+1,k=>if k<=L then I8 b L n (k * b) else k
theorem aA6 {b L:Nat} (hb:1<=b):∀n k,(k * b ^ n<=L->I8 b L n k=k * b ^ n)/\(L<k * b ^ n->L<I8 b L n k)
 | 0,k=>by simp[I8]
 | n+1,k=>by
  have e:k * b ^ (n+1)=k * b * b ^ n:=by rw[Z_,al_ (b ^ n) b,Nat.mul_assoc]
  obtain⟨h1,h2⟩:=aA6 (L:=L) hb n (k * b);have hp:1<=b ^ (n+1):=Nat.one_le_pow _ _ hb;have hk:k<=k * b ^ (n+1):=Nat.le_mul_of_pos_right _ hp;unfold I8;rw[e] at hk |-;split
  ·exact⟨h1,h2⟩
  ·exact⟨fun h=>by omega,fun h=>by omega⟩
theorem aY2 {b L n k:Nat} (h:¬k<=L):I8 b L n k=k:=by
 cases n with
 | zero=>rfl
 | succ n=>unfold I8;rw[if_neg h]
theorem bo4 {b L n:Nat} (hb:1<=b):(b ^ n<=L↔I8 b L n 1<=L)/\(b ^ n<=L->I8 b L n 1=b ^ n):=by
 obtain⟨h1,h2⟩:=aA6 (L:=L) hb n 1;rw[Nat.one_mul] at h1 h2;refine⟨⟨fun h=>by rw[h1 h];exact h,fun h=>?_⟩,h1⟩;rcases M_ L (b ^ n) with h3 | h3
 ·have:=h2 h3;omega
 ·exact h3
def okG (u vs:List V) (g:Gl):Bool:=
 if g.kind=9 then bK1 u (g.callV (o7 vs)) else if g.kind=10 then (match g.goals.head? with | some x=>bK1 u (x.callV (o7 vs)) | none=>true) else g.testV (o7 vs)
theorem aA7 (u vs:List V):∀c:List Gl,V5 u c vs=c.all (okG u vs)
 | []=>rfl
 | g :: r=>by
  have ih:=aA7 u vs r;unfold V5 at ih |-;rw[z_,<-ih];unfold okG;by_cases h9:g.kind=9
  ·have e1:y8 (o7 vs) (g :: r)=y8 (o7 vs) r:=by simp[y8,h9]
   have e2:z8 (o7 vs) (g :: r)=z8 (o7 vs) r:=by simp[z8,h9]
   have e3:x9 (o7 vs) (g :: r)=g.callV (o7 vs) :: x9 (o7 vs) r:=by simp[x9,h9]
   rw[e1,e2,e3,if_pos h9,z_];cases bK1 u (g.callV (o7 vs))<;>simp
  ·rw[if_neg h9]
   by_cases h10:g.kind=10
   ·have e1:y8 (o7 vs) (g :: r)=y8 (o7 vs) r:=by simp[y8,h10]
    have e3:x9 (o7 vs) (g :: r)=x9 (o7 vs) r:=by simp[x9,h10]
    rw[e1,e3,if_pos h10];cases hg:g.goals with
    | nil =>
     have e2:z8 (o7 vs) (g :: r)=z8 (o7 vs) r:=by simp[z8,h10,hg]
     rw[e2];simp
    | cons x q =>
     have e2:z8 (o7 vs) (g :: r)=x.callV (o7 vs) :: z8 (o7 vs) r:=by simp[z8,h10,hg]
     rw[e2,z_];simp only[List.head?_cons];cases bK1 u (x.callV (o7 vs))<;>simp
   ·rw[if_neg h10]
    have e1:y8 (o7 vs) (g :: r)=(g.testV (o7 vs) && y8 (o7 vs) r):=by simp[y8,h9,h10]
    have e2:z8 (o7 vs) (g :: r)=z8 (o7 vs) r:=by simp[z8,h10]
    have e3:x9 (o7 vs) (g :: r)=x9 (o7 vs) r:=by simp[x9,h9]
    rw[e1,e2,e3];cases g.testV (o7 vs)<;>simp
theorem aY7 (u:List V) (r:Rl) (i:Int) (c:List Gl) (k m:Nat):aK6 u r i c k (m+1)=(rvK u r i c k).toList++aK6 u r i c (k+1) m:=rfl
theorem aK7 (u:List V) (r:Rl) (n:Nat) (i:Int) (c:List Gl) (cs:List (List Gl)):ay7 u r n i (c :: cs)=aK6 u r i c 0 n++ay7 u r n (i+1) cs:=rfl
theorem Pg.gr_none {p:Pg} {u:List V} {L T:List RV} (h:Pg.gnd u p.rels=L++T) (hl:2000<L.length):p.gr u=none:=by
 unfold Pg.gr;rw[if_neg];rintro ⟨_,h2⟩;rw[h,g_] at h2;omega
theorem Pg.gr_bad {p:Pg} {u:List V} {x:Rl} (hx:x∈p.rels) (h:x.gOk u=false):p.gr u=none:=by
 unfold Pg.gr;rw[if_neg];rintro ⟨h1,_⟩;rw[c_] at h1;rw[h1 x hx] at h;cases h
theorem Pg.gr_some {p:Pg} {u:List V} (h:p.rels.all (Rl.gOk u)=true) (hl:(Pg.gnd u p.rels).length<=2000):p.gr u=some (Pg.gnd u p.rels):=by
 unfold Pg.gr;rw[if_pos ⟨h,hl⟩]
theorem Pg.dims {p:Pg} (h:M9 p=true) {r:Rl} (hr:r∈p.rels):0<=r.arity/\r.arity<=4/\0<=r.locals/\r.locals<=8:=by
 unfold M9 at h;simp only[a_] at h;obtain⟨i,hi⟩:=Z8 h.2 r hr;unfold Pg.relOk at hi;simp only[a_,decide_eq_true_eq] at hi;obtain⟨⟨⟨⟨⟨⟨⟨_,_⟩,ha⟩,hl⟩,_⟩,_⟩,_⟩,_⟩:=hi;exact⟨ha.1,ha.2,hl.1,hl.2⟩
theorem aH7 {b g:Gl} {c:List Gl} (hc:c∈b.clsS) (hg:g∈c):g∈b.subs:=(Gl.clsS_row b c hc).2 g hg
theorem bM7 {g x:Gl} (h:g.goals=[x]):x∈g.subs:=by
 rw[Gl.subs_eq,h];simp only[Gl.subss,L_,d_];right;rw[Gl.subs_eq];simp
def ab9:List (List UInt8):=(List.range 11).map fun k:Nat=>U4 (k:Int)
def hdF (w:List UInt8):List (List UInt8)->Nat->Int×List UInt8->Int×List UInt8
 | [],_,s=>s
 | h :: r,k,s=>hdF w r (k+1) (if h=w then ((k:Int),[]) else s)
def aU7 (w:List UInt8):Gl:=⟨(hdF w ab9 0 (9,w)).1,(hdF w ab9 0 (9,w)).2,[],[]⟩
def Gl.nest (g:Gl):Bool:=decide (g.kind=7) || decide (g.kind=8) || decide (g.kind=10)
def Gl.addG (g x:Gl):Gl:=⟨g.kind,g.name,g.terms,g.goals++[x]⟩
def Gl.addT (g:Gl) (t:Tm):Gl:=⟨g.kind,g.name,g.terms++[t],g.goals⟩
mutual
def rgT (T:List (List UInt8)):Nat->Nat->Option (Gl×Nat)
 | 0,_=>none
 | n+1,i=>match T[i]? with
  | none=>none
  | some t=>if t=U4 0 then some (⟨0,[],[],[]⟩,i+1) else if t=U4 1 then some (⟨1,[],[],[]⟩,i+1)
   else match T[i+1]? with
    | none=>none
    | some w=>if t=[40] then rgL T n (i+2) (aU7 w) else none
def rgL (T:List (List UInt8)):Nat->Nat->Gl->Option (Gl×Nat)
 | 0,_,_=>none
 | n+1,i,g=>match T[i]? with
  | none=>none
  | some t=>if t=[41] then (if 1<g.kind then some (g,i+1) else none)
   else if g.nest=true then (match rgT T n i with | some (x,j)=>rgL T n j (g.addG x) | none=>none)
   else match rdT false T (2 * (T.length - i)+1) i with | some (v,j)=>rgL T n j (g.addT v.tm) | none=>none
end
theorem aZ5 {T:List (List UInt8)} {n i:Nat} {t:List UInt8} {g:Gl} {j:Nat} (h:rgT T (n+1) i=some (g,j)) (ht:T[i]? = some t) :
  (t=U4 0/\g=⟨0,[],[],[]⟩/\j=i+1)\/(t≠U4 0/\t=U4 1/\g=⟨1,[],[],[]⟩/\j=i+1)\/(t≠U4 0/\t≠U4 1/\t=[40]/\∃w,T[i+1]? = some w/\rgL T n (i+2) (aU7 w)=some (g,j)):=by
 rw[rgT,ht] at h;dsimp only at h;by_cases h0:t=U4 0
 ·rw[if_pos h0] at h;cases h;exact .inl ⟨h0,rfl,rfl⟩
 ·rw[if_neg h0] at h
  by_cases h1:t=U4 1
  ·rw[if_pos h1] at h;cases h;exact .inr (.inl ⟨h0,h1,rfl,rfl⟩)
  ·rw[if_neg h1] at h
   cases hw:T[i+1]? with
   | none=>rw[hw] at h;cases h
   | some w =>
    rw[hw] at h;dsimp only at h;by_cases h4:t=[40]
    ·rw[if_pos h4] at h;exact .inr (.inr ⟨h0,h1,h4,w,rfl,h⟩)
    ·rw[if_neg h4] at h;cases h
theorem aZ6 {T:List (List UInt8)} {n i:Nat} {g0 g:Gl} {j:Nat} (h:rgL T (n+1) i g0=some (g,j)):∃t,T[i]? = some t /\
  ((t=[41]/\1<g0.kind/\g=g0/\j=i+1)\/(t≠[41]/\g0.nest=true/\∃x k,rgT T n i=some (x,k)/\rgL T n k (g0.addG x)=some (g,j))\/(t≠[41]/\g0.nest=false/\∃v k,rdT false T (2 * (T.length - i)+1) i=some (v,k)/\rgL T n k (g0.addT v.tm)=some (g,j))):=by
 rw[rgL] at h;cases ht:T[i]? with
 | none=>rw[ht] at h;cases h
 | some t =>
  rw[ht] at h;refine⟨t,rfl,?_⟩;dsimp only at h;by_cases h4:t=[41]
  ·rw[if_pos h4] at h
   by_cases h1:1<g0.kind
   ·rw[if_pos h1] at h;cases h;exact .inl ⟨h4,h1,rfl,rfl⟩
   ·rw[if_neg h1] at h;cases h
  ·rw[if_neg h4] at h
   by_cases hn:g0.nest=true
   ·rw[if_pos hn] at h
    cases hx:rgT T n i with
    | none=>rw[hx] at h;cases h
    | some x=>rw[hx] at h;exact .inr (.inl ⟨h4,hn,x.1,x.2,rfl,h⟩)
   ·rw[if_neg hn] at h
    cases hx:rdT false T (2 * (T.length - i)+1) i with
    | none=>rw[hx] at h;cases h
    | some x=>rw[hx] at h;exact .inr (.inr ⟨h4,by simpa using hn,x.1,x.2,rfl,h⟩)
theorem bJ1 (T:List (List UInt8)):∀n:Nat,(∀i g j,rgT T n i=some (g,j)->i<j/\j<=T.length)/\∀i g0 g j,rgL T n i g0=some (g,j)->i<j/\j<=T.length
 | 0=>⟨fun i g j h=>(by rw[rgT] at h;cases h),fun i g0 g j h=>(by rw[rgL] at h;cases h)⟩
 | n+1=>by
  obtain⟨i1,i2⟩:=bJ1 T n;refine⟨fun i g j h=>?_,fun i g0 g j h=>?_⟩
  ·cases ht:T[i]? with
   | none=>rw[rgT,ht] at h;cases h
   | some t =>
    have hl:=(f_.1 ht).1;rcases aZ5 h ht with ⟨_,_,rfl⟩ | ⟨_,_,_,rfl⟩ | ⟨_,_,_,w,_,h⟩
    ·omega
    ·omega
    ·have:=i2 _ _ _ _ h;omega
  ·obtain⟨t,ht,h⟩:=aZ6 h
   have hl:=(f_.1 ht).1;rcases h with ⟨_,_,_,rfl⟩ | ⟨_,_,x,k,h1,h2⟩ | ⟨_,_,v,k,h1,h2⟩
   ·omega
   ·have:=i1 _ _ _ h1
    have:=i2 _ _ _ _ h2;omega
   ·have:=(aL2 false T _).1 _ _ _ h1
    have:=i2 _ _ _ _ h2;omega
def inR:Option Int->Bool
 | some n=>decide (0<=n) && decide (n<=100000)
 | none=>false
def nbB (s:List UInt8):Bool:=D7 s || inR (V6 s)
def nbT:List (List UInt8)->List (List UInt8)->List (List UInt8)->Option (List (List UInt8)×Nat)
 | [],ns,out=>some (out,ns.length)
 | t :: r,ns,out=>if t.head?≠some 63 then nbT r ns (out++[t])
  else if nbB t.tail=true then
   nbT r (if t∈ns then ns else ns++[t]) (out++[63 :: dec (ns.findIdx (fun x=>x == t):Nat)])
  else none
def bN5 (T:List (List UInt8)):Nat->Nat->Nat
 | 0,_=>0
 | n+1,a=>if T[4+a]? = some (63 :: dec (a:Nat)) then 1+bN5 T n (a+1) else 0
def dfT (all:List (List UInt8)):Option Rl:=match nbT all [] [] with
 | none=>none
 | some (T,c)=>if T.length<6 then none else if T[1]? = some [100,101,102,105,110,101]/\T[2]? = some [40] then
   (let a:=bN5 T T.length 0
    if T[4+a]? = some [41] then (match rgT T (2 * T.length+1) (5+a) with
     | some (g,j)=>if j+1=T.length then some ⟨T.getD 3 [],(a:Int),(c:Int) - (a:Int),g⟩ else none
     | none=>none)
    else none)
  else none
def ppT:List (List UInt8)->List (List UInt8)->Int->List Rl->Option (List Rl×Int)
 | [],_,d,rels=>some (rels,d)
 | t :: r,cur,d,rels =>
  (let d':=if t=[40] then d+1 else if t=[41] then d - 1 else d
   if 0<d' then ppT r (cur++[t]) d' rels
   else match dfT (cur++[t]) with
    | some x=>ppT r [] d' (rels++[x])
    | none=>none)
def pgV (s:List UInt8):Option Pg:=match aA3 s with
 | some T=>(match ppT T [] 0 [] with
  | some (rels,d)=>if d=0/\M9 ⟨rels⟩=true then some ⟨rels⟩ else none
  | none=>none)
 | none=>none
def Gl.drA (S:List (List UInt8×Int)) (n mode:Int) (g:Gl):Prop:=g.shape=true/\g.varsLt n=true/\g.kind≠7/\g.kind≠8/\g.cnt<=2/\wtL g.enc<=1000/\(∀x,x∈g.subs->x.kind=9->(x.name,(x.terms.length:Int))∈S)/\(mode≠2->∀x,x∈g.subs->x.kind≠10)
def Gl.nc9 (l:List Gl):Nat:=(l.filter fun x=>decide (x.kind=9)).length
theorem Gl.nc9_app (a b:List Gl):Gl.nc9 (a++b)=Gl.nc9 a+Gl.nc9 b:=by simp[Gl.nc9]
theorem Gl.nc9_snoc (l:List Gl) (x:Gl):Gl.nc9 (l++[x])<=Gl.nc9 l+1:=by
 rw[Gl.nc9_app];have:Gl.nc9 [x]<=1:=T_ _ _;omega
theorem Gl.nc9_no {g:Gl} {n mode:Int} (h:g.drA [] n mode):Gl.nc9 [g]=0:=by
 have h9:¬g.kind=9:=fun e=>by
  have:=h.2.2.2.2.2.2.1 g (by rw[Gl.subs_eq];simp) e;cases this
 simp[Gl.nc9,h9]
def Gl.drC (S:List (List UInt8×Int)) (n mode:Int) (g:Gl):Prop:=g.kind=7/\g.name=[]/\g.terms=[]/\g.goals.length<=4/\(∀x,x∈g.goals->x.drA S n mode)/\Gl.nc9 g.goals<=2
def Gl.drB (S:List (List UInt8×Int)) (n mode:Int) (g:Gl):Prop:=g.drC S n mode\/(g.kind=8/\g.name=[]/\g.terms=[]/\g.goals.length<=3/\∀x,x∈g.goals->x.drC S n mode)
theorem Gl.drA_cls {S:List (List UInt8×Int)} {n mode:Int} {g:Gl} (h:g.drA S n mode):g.clsS.length<=1:=by
 obtain⟨_,_,h7,h8,_⟩:=h;rw[Gl.clsS_eq];split
 ·simp
 ·split
  ·simp
  ·try rw[if_neg h8,if_neg h7]
   simp
theorem Gl.andS_one:∀(l:List Gl) (a:List (List Gl)),(∀x,x∈l->x.clsS.length<=1)->a.length<=1->(Gl.andS l a).length<=1
 | [],a,_,h=>by simpa[Gl.andS] using h
 | g :: r,a,hm,h=>by
  have h1:=hm g (by simp);have h2:(J5 a g.clsS).length<=1:=by rw[au6];exact K_ (Nat.mul_le_mul h h1) (j_ _)
  simp only[Gl.andS];rw[if_neg (by omega),if_neg (by omega)];exact Gl.andS_one r _ (fun x hx=>hm x (by simp[hx])) h2
theorem Gl.drC_cls {S:List (List UInt8×Int)} {n mode:Int} {g:Gl} (h:g.drC S n mode):g.clsS.length<=1:=by
 obtain⟨h7,_,_,_,hm,_⟩:=h;rw[Gl.clsS_eq,if_neg (by omega),if_neg (by omega),if_neg (by omega),if_pos h7];exact Gl.andS_one _ _ (fun x hx=>Gl.drA_cls (hm x hx)) (by simp)
theorem Gl.orS_one:∀(l:List Gl) (a:List (List Gl)),(∀x,x∈l->x.clsS.length<=1)->(Gl.orS l a).length<=a.length+l.length
 | [],a,_=>by simp[Gl.orS]
 | g :: r,a,hm=>by
  have h1:=hm g (by simp);simp only[Gl.orS];rw[if_neg (by omega)];have:=Gl.orS_one r (a++g.clsS) (fun x hx=>hm x (by simp[hx]));simp only[g_,b_] at this |-;omega
theorem Gl.drB_cls {S:List (List UInt8×Int)} {n mode:Int} {g:Gl} (h:g.drB S n mode):g.clsS.length<=3:=by
 rcases h with h | ⟨h8,_,_,hl,hm⟩
 ·have:=Gl.drC_cls h;omega
 ·rw[Gl.clsS_eq,if_neg (by omega),if_neg (by omega),if_pos h8]
  have:=Gl.orS_one g.goals [] (fun x hx=>Gl.drC_cls (hm x hx));simp only[q_] at this;omega
structure Gl.drW (S:List (List UInt8×Int)) (n mode:Int) (c w:Nat) (g:Gl):Prop where
 shape:g.shape=true
 vars:g.varsLt n=true
 cnt:g.cnt<=c
 wt:wtL g.enc<=w
 calls:∀x,x∈g.subs->x.kind=9->(x.name,(x.terms.length:Int))∈S
 nots:mode≠2->∀x,x∈g.subs->x.kind≠10
theorem Gl.drA_W {S:List (List UInt8×Int)} {n mode:Int} {g:Gl} (h:g.drA S n mode):g.drW S n mode 2 1000:=⟨h.1,h.2.1,h.2.2.2.2.1,h.2.2.2.2.2.1,h.2.2.2.2.2.2.1,h.2.2.2.2.2.2.2⟩
theorem Gl.drW_up {S:List (List UInt8×Int)} {n mode:Int} {c w m:Nat} {g:Gl} (hk:g.kind=7\/g.kind=8) (hn:g.name=[]) (ht:g.terms=[]) (hl:g.goals.length<=m) (hm8:m<=8) (hm:∀x,x∈g.goals->x.drW S n mode c w):g.drW S n mode (1+m * c) (m * (1+w)):=by
 have hcs:∀l:List Gl,(∀x,x∈l->x.drW S n mode c w)->Gl.cnts l<=l.length * c/\wtR (l.map Gl.enc)<=l.length * (1+w):=by
  intro l;induction l with
  | nil=>intro _;simp[Gl.cnts,wtR]
  | cons x r ih =>
   intro hx;obtain⟨i1,i2⟩:=ih (fun y hy=>hx y (by simp[hy]));have h1:=(hx x (by simp)).cnt;have h2:=(hx x (by simp)).wt;simp only[Gl.cnts,e_,wtR,b_,ak_];omega
 obtain⟨k1,k2⟩:=hcs g.goals hm;have j1:g.goals.length * c<=m * c:=W_ _ hl;have j2:g.goals.length * (1+w)<=m * (1+w):=W_ _ hl;refine⟨?_,?_,?_,?_,fun x hx h9=>?_,fun h2 x hx=>?_⟩
 ·rw[Gl.shape_eq,Gl.form_and hk hn (by rw[ht];rfl) (by omega),ht]
  simp only[aj_,t_,c_];exact fun x hx=>(hm x hx).shape
 ·unfold Gl.varsLt
  rw[Gl.vars_eq,ht,Gl.varss_eq];simp only[Tm.varss,B_,c_,r_];rintro v ⟨x,hx,hv⟩;have:=(hm x hx).vars;unfold Gl.varsLt at this;exact c_.1 this v hv
 ·rw[Gl.cnt_eq];omega
 ·rw[Gl.enc_eq,hn,ht]
  simp only[wtL,D.wt,u_,wtR,q_];omega
 ·rw[Gl.subs_eq,Gl.subss_eq] at hx
  rcases d_.1 hx with rfl | hx
  ·omega
  ·obtain⟨y,hy,hxy⟩:=r_.1 hx
   exact(hm y hy).calls x hxy h9
 ·rw[Gl.subs_eq,Gl.subss_eq] at hx
  rcases d_.1 hx with rfl | hx
  ·omega
  ·obtain⟨y,hy,hxy⟩:=r_.1 hx
   exact(hm y hy).nots h2 x hxy
theorem Gl.drC_W {S:List (List UInt8×Int)} {n mode:Int} {g:Gl} (h:g.drC S n mode):g.drW S n mode 9 4004:=Gl.drW_up (.inl h.1) h.2.1 h.2.2.1 h.2.2.2.1 (by omega) (fun x hx=>Gl.drA_W (h.2.2.2.2.1 x hx))
theorem Gl.drW_le {S:List (List UInt8×Int)} {n mode:Int} {c w c' w':Nat} {g:Gl} (h:g.drW S n mode c w) (h1:c<=c') (h2:w<=w'):g.drW S n mode c' w':=⟨h.shape,h.vars,K_ h.cnt h1,K_ h.wt h2,h.calls,h.nots⟩
theorem Gl.drB_W {S:List (List UInt8×Int)} {n mode:Int} {g:Gl} (h:g.drB S n mode):g.drW S n mode 28 12015:=by
 rcases h with h | ⟨h8,hn,ht,hl,hm⟩
 ·exact Gl.drW_le (Gl.drC_W h) (by decide) (by decide)
 ·exact Gl.drW_up (.inr h8) hn ht hl (by decide) (fun x hx=>Gl.drC_W (hm x hx))
def ah2:List (List UInt8):=[[112],[113],[114]]
def Pg.sg (p:Pg):List (List UInt8×Int):=p.rels.map fun r=>(r.name,r.arity)
def Pg.drP (mode:Int) (p:Pg):Prop:=(∃k,1<=k/\k<=3/\p.rels.map Rl.name=ah2.take k)/\∀r,r∈p.rels->1<=r.arity/\r.arity<=2/\0<=r.locals/\r.locals<=1/\r.body.drB p.sg (r.arity+r.locals) mode
structure Pg.fine (mode:Int) (p:Pg):Prop where
 ok:M9 p=true
 wt:wtL p.enc<=60000
 cls:∀r,r∈p.rels->r.body.clsS.length<=3
 one:1<=p.rels.length
 nots:mode≠2->p.all false=true
theorem bc4:∀(l:List Rl) (j:Nat) (r:Rl) (i:Int),l[j]? = some r->(l.map Rl.name).Nodup->V9 l r.name i=i+j
 | [],j,r,i,h,_=>by simp at h
 | x :: q,0,r,i,h,_=>by
  simp at h;subst h;simp[V9]
 | x :: q,j+1,r,i,h,hn=>by
  simp only[I_] at h;rw[e_,List.nodup_cons] at hn;have hne:¬x.name=r.name:=fun e=>hn.1 (by rw[e];exact i_.2 ⟨r,p_ h,rfl⟩);simp only[V9,if_neg hne];rw[bc4 q j r (i+1) h hn.2];push_cast;omega
theorem bJ5 {p:Pg} (h:∀(j:Nat) (r:Rl),p.rels[j]? = some r->p.relOk j r=true):∀(l pre:List Rl),p.rels=pre++l->p.okL l=true
 | [],_,_=>rfl
 | x :: q,pre,e=>by
  have hl:p.rels.length - (q.length+1)=pre.length:=by rw[e];simp
  have hx:p.rels[pre.length]? = some x:=by rw[e];simp
  simp only[Pg.okL,a_];exact⟨by rw[hl];exact h _ _ hx,bJ5 h q (pre++[x]) (by rw[e];simp)⟩
theorem V7 {k:Nat} (h3:k<=3):(ah2.take k).Nodup/\(∀s,s∈ah2.take k->J6 s=true/\s.length=1)/\(ah2.take k).length=k:=by
 rcases(show k=0\/k=1\/k=2\/k=3 by omega) with rfl | rfl | rfl | rfl<;>exact⟨by decide,by decide,by decide⟩
theorem Pg.drP_fine {mode:Int} {p:Pg} (h:p.drP mode):p.fine mode:=by
 obtain⟨⟨k,k1,k3,hn⟩,hr⟩:=h;obtain⟨n1,n2,n3⟩:=V7 k3;have hlen:p.rels.length=k:=by have:=congrArg List.length hn;rw[o_,n3] at this;exact this
 have hnd:(p.rels.map Rl.name).Nodup:=by rw[hn];exact n1
 have hfind:∀(j:Nat) (r:Rl),p.rels[j]? = some r->p.find r.name=j:=fun j r hj=>by
  unfold Pg.find;rw[bc4 _ j r 0 hj hnd];omega
 have hW:∀r,r∈p.rels->r.body.drW p.sg (r.arity+r.locals) mode 28 12015:=fun r hm=>Gl.drB_W (hr r hm).2.2.2.2;have hname:∀r,r∈p.rels->J6 r.name=true/\r.name.length=1:=fun r hm=>n2 _ (by rw[<-hn];exact i_.2 ⟨r,hm,rfl⟩);have hok:∀(j:Nat) (r:Rl),p.rels[j]? = some r->p.relOk j r=true:=fun j r hj=>by
  have hm:=p_ hj;obtain⟨a1,a2,a3,a4,_⟩:=hr r hm;have w:=hW r hm;have hc:p.callsFit r.body=true:=by
   unfold Pg.callsFit;rw[c_];intro x hx;by_cases h9:x.kind=9
   ·have hs:=w.calls x hx h9
    unfold Pg.sg at hs;obtain⟨y,hy,e⟩:=i_.1 hs;obtain⟨jy,hjy⟩:=y_ hy;have e1:y.name=x.name:=congrArg Prod.fst e;have e2:y.arity=(x.terms.length:Int):=congrArg Prod.snd e;have hfy:=hfind jy y hjy;rw[e1] at hfy;unfold Pg.fitC;rw[hfy,show ((jy:Int)).toNat=jy by omega,hjy];simp[h9,e2]
   ·exact Pg.fitC_other h9
  unfold Pg.relOk;rw[hfind j r hj,(hname r hm).1,w.shape,w.vars,hc,decide_eq_true (show 0<=r.arity/\r.arity<=4 by omega),decide_eq_true (show 0<=r.locals/\r.locals<=8 by omega),decide_eq_true (show r.body.cnt<=60 by have:=w.cnt;omega)];simp
 have hpg:M9 p=true:=by
  unfold M9;rw[decide_eq_true (by omega),bJ5 hok p.rels [] rfl];rfl
 refine⟨hpg,?_,fun r hm=>Gl.drB_cls (hr r hm).2.2.2.2,by omega,fun h2=>?_⟩
 ·have hw:∀l:List Rl,(∀x,x∈l->x∈p.rels)->wtR (l.map Rl.enc)<=l.length * 12017:=by
   intro l;induction l with
   | nil=>intro _;simp[wtR]
   | cons x r ih =>
    intro hx;have i1:=ih (fun y hy=>hx y (by simp[hy]));have h1:=(hW x (hx x (by simp))).wt;have h2:=(hname x (hx x (by simp))).2;have h3:wtL x.enc=x.name.length+wtL x.body.enc:=by simp only[Rl.enc_eq,Gl.enc_eq,wtL,D.wt];omega
    simp only[e_,wtR,b_,ak_];omega
  have:=hw p.rels (fun x hx=>hx);rw[hlen] at this;simp only[Pg.enc_eq,wtL,D.wt];have:=W_ 12017 k3;omega
 ·unfold Pg.all
  rw[hpg,t_,c_];intro r hm;unfold Gl.only;rw[c_];intro x hx;have:=(hW r hm).nots h2 x hx;simp[Gl.onlyK,this]
def bg9:List UInt8:=[40,100,101,102,105,110,101,32,40,97,112,112,101,110,100,32,63,97,32,63,98,32,63,99,41,32,40,111,114,32,40,97,110,100,32,40,61,32,63,97,32,40,41,41,32,40,61,32,63,98,32,63,99,41,41,32,40,97,110,100,32,40,61,32,63,97,32,40,63,120,32,46,32,63,121,41,41,32,40,61,32,63,99,32,40,63,120,32,46,32,63,122,41,41,32,40,97,112,112,101,110,100,32,63,121,32,63,98,32,63,122,41,41,41,41,10,40,100,101,102,105,110,101,32,40,109,101,109,98,101,114,32,63,120,32,63,108,41,32,40,111,114,32,40,61,32,63,108,32,40,63,120,32,46,32,63,114,41,41,32,40,97,110,100,32,40,61,32,63,108,32,40,63,121,32,46,32,63,114,41,41,32,40,109,101,109,98,101,114,32,63,120,32,63,114,41,41,41,41,10]
def bg8:List UInt8:=[40,100,101,102,105,110,101,32,40,101,100,103,101,32,63,97,32,63,98,41,32,40,111,114,32,40,97,110,100,32,40,61,32,63,97,32,97,41,32,40,61,32,63,98,32,98,41,41,32,40,97,110,100,32,40,61,32,63,97,32,98,41,32,40,61,32,63,98,32,99,41,41,32,40,97,110,100,32,40,61,32,63,97,32,99,41,32,40,61,32,63,98,32,97,41,41,41,41,10,40,100,101,102,105,110,101,32,40,112,97,116,104,32,63,97,32,63,98,41,32,40,111,114,32,40,101,100,103,101,32,63,97,32,63,98,41,32,40,97,110,100,32,40,112,97,116,104,32,63,97,32,63,99,41,32,40,101,100,103,101,32,63,99,32,63,98,41,41,41,41,10]
def bg7:List UInt8:=[40,100,101,102,105,110,101,32,40,111,117,116,115,105,100,101,32,63,120,32,63,108,41,32,40,111,114,32,40,61,32,63,108,32,40,41,41,32,40,97,110,100,32,40,61,32,63,108,32,40,63,121,32,46,32,63,114,41,41,32,40,47,61,32,63,120,32,63,121,41,32,40,111,117,116,115,105,100,101,32,63,120,32,63,114,41,41,41,41,10,40,100,101,102,105,110,101,32,40,100,105,115,116,105,110,99,116,32,63,108,41,32,40,111,114,32,40,61,32,63,108,32,40,41,41,32,40,97,110,100,32,40,61,32,63,108,32,40,63,120,32,46,32,63,114,41,41,32,40,111,117,116,115,105,100,101,32,63,120,32,63,114,41,32,40,100,105,115,116,105,110,99,116,32,63,114,41,41,41,41,10]
def bg6:List UInt8:=[40,100,101,102,105,110,101,32,40,109,111,118,101,32,63,97,32,63,98,41,32,40,111,114,32,40,97,110,100,32,40,61,32,63,97,32,97,41,32,40,61,32,63,98,32,98,41,41,32,40,97,110,100,32,40,61,32,63,97,32,98,41,32,40,61,32,63,98,32,97,41,41,32,40,97,110,100,32,40,61,32,63,97,32,98,41,32,40,61,32,63,98,32,99,41,41,41,41,10,40,100,101,102,105,110,101,32,40,119,105,110,32,63,97,41,32,40,97,110,100,32,40,109,111,118,101,32,63,97,32,63,98,41,32,40,110,111,116,32,40,119,105,110,32,63,98,41,41,41,41,10]
def bz9:Nat->List UInt8
 | 0=>bg9
 | 1=>bg8
 | 2=>bg7
 | _=>bg6
def bh0 (s:List UInt8):Bool:=match aA3 s with
 | some T=>decide (T.length<=200) && T.all (fun t=>decide (t.length<=400)) && (match ppT T [] 0 [] with
  | some (rels,d)=>decide (d=0) && M9 ⟨rels⟩ && decide (wtR (rels.map Rl.enc)<=60000) && rels.all (fun r=>decide (r.body.clsS.length<=3)) && decide (1<=rels.length)
  | none=>false)
 | none=>false
theorem bZ1:bh0 bg9=true:=by kernel_rfl
theorem bZ0:bh0 bg8=true:=by kernel_rfl
theorem bY9:bh0 bg7=true:=by kernel_rfl
theorem bY8:bh0 bg6=true:=by kernel_rfl
theorem bt0 (k:Nat):bh0 (bz9 k)=true:=match k with
 | 0=>bZ1
 | 1=>bZ0
 | 2=>bY9
 | _+3=>bY8
theorem bP1:decide (bg9.length<=400)=true:=by kernel_rfl
theorem bP0:decide (bg8.length<=400)=true:=by kernel_rfl
theorem bO9:decide (bg7.length<=400)=true:=by kernel_rfl
theorem bO8:decide (bg6.length<=400)=true:=by kernel_rfl
theorem bE1 (k:Nat):(bz9 k).length<=400:=match k with
 | 0=>of_decide_eq_true bP1
 | 1=>of_decide_eq_true bP0
 | 2=>of_decide_eq_true bO9
 | _+3=>of_decide_eq_true bO8
theorem bE0 (k:Nat):∃T rels,aA3 (bz9 k)=some T/\T.length<=200/\(∀t,t∈T->t.length<=400)/\ppT T [] 0 []=some (rels,0)/\M9 ⟨rels⟩=true/\(Pg.mk rels).fine 2:=by
 have h:=bt0 k;unfold bh0 at h;cases hT:aA3 (bz9 k) with
 | none=>rw[hT] at h;cases h
 | some T =>
  rw[hT] at h;dsimp only at h;rw[a_,a_] at h;obtain⟨⟨h1,h2⟩,h3⟩:=h;cases hp:ppT T [] 0 [] with
  | none=>rw[hp] at h3;cases h3
  | some x =>
   obtain⟨rels,d⟩:=x;rw[hp] at h3;dsimp only at h3;simp only[a_,decide_eq_true_eq,c_] at h1 h2 h3;obtain⟨⟨⟨⟨d0,ok⟩,wt⟩,cls⟩,one⟩:=h3;subst d0;exact⟨T,rels,rfl,h1,h2,hp,ok,⟨ok,by simpa only[Pg.enc_eq,wtL,D.wt,Nat.add_zero] using wt,cls,one,fun h=>absurd rfl h⟩⟩
theorem V.below_vars {n:Int}:∀v:V,v.vbelow n=true->∀x,x∈v.vars->x<n
 | .nil,_,x,hx=>by simp[V.vars] at hx
 | .sym _,_,x,hx=>by simp[V.vars] at hx
 | .num _,_,x,hx=>by simp[V.vars] at hx
 | .var i,h,x,hx=>by
  simp only[V.vbelow,a_,decide_eq_true_eq] at h;simp[V.vars] at hx;omega
 | .pair a b,h,x,hx=>by
  simp only[V.vbelow,a_] at h;simp only[V.vars,n_] at hx;rcases hx with hx | hx
  ·exact V.below_vars a h.1 x hx
  ·exact V.below_vars b h.2 x hx
theorem V.fine_low:∀v:V,v.fine=true->v.low=true
 | .nil,_=>rfl
 | .num _,_=>rfl
 | .var _,_=>rfl
 | .sym s,h=>by
  simp only[V.fine] at h;unfold D7 at h;simp only[a_,decide_eq_true_eq] at h;simp only[V.low,decide_eq_true_eq];omega
 | .pair a b,h=>by
  simp only[V.fine,a_] at h;simp only[V.low,V.fine_low a h.1,V.fine_low b h.2,C_]
theorem ar0 {n:Int} {v:V} (h:drawn 7 n v):M7 v.tm=true/\wtL v.enc<=112/\∀x,x∈v.tm.vars->x<n:=by
 obtain⟨h1,h2,h3⟩:=h;refine⟨?_,?_,fun x hx=>?_⟩
 ·rw[bo0];unfold V.ok;rw[h1,decide_eq_true (by omega)];rfl
 ·have:=V.wt_low v (V.fine_low v h1);omega
 ·rw[V.vars_tm] at hx;exact V.below_vars v h3 x hx
theorem ax1 {n:Int}:∀vs:List V,(∀v,v∈vs->drawn 7 n v)->wtR (vs.map V.enc)<=113 * vs.length
 | [],_=>by simp[wtR]
 | v :: r,h=>by
  have h1:=ax1 r (fun x hx=>h x (by simp[hx]));have h2:=(ar0 (h v (by simp))).2.1;simp only[e_,wtR,b_];omega
theorem Gl.drA_of {S:List (List UInt8×Int)} {n mode:Int} {k:Int} {nm:List UInt8} {vs:List V} (hf:(Gl.mk k nm (vs.map V.tm) []).form=true) (hv:∀v,v∈vs->drawn 7 n v) (hl:vs.length<=4) (hn:nm.length<=12) (h7:k≠7) (h8:k≠8) (h10:k≠10) (h9:k=9->(nm,(vs.length:Int))∈S):Gl.drA S n mode ⟨k,nm,vs.map V.tm,[]⟩:=by
 have hs:∀x,x∈(Gl.mk k nm (vs.map V.tm) []).subs->x=⟨k,nm,vs.map V.tm,[]⟩:=fun x hx=>by
  rw[Gl.subs_eq] at hx;simpa[Gl.goals,Gl.subss] using hx
 have hw:=ax1 vs hv;refine⟨?_,?_,h7,h8,by rw[Gl.cnt_eq];simp[Gl.goals,Gl.cnts],?_,fun x hx hk=>?_,fun _ x hx=>?_⟩
 ·rw[Gl.shape_eq,hf]
  simp only[Gl.terms,Gl.goals,aj_,ah_,t_,c_];rintro t ht;obtain⟨v,hm,rfl⟩:=i_.1 ht;exact(ar0 (hv v hm)).1
 ·unfold Gl.varsLt
  rw[Gl.vars_eq,Tm.varss_eq];simp only[Gl.terms,Gl.goals,Gl.varss,L_,c_,r_,decide_eq_true_eq];rintro x ⟨t,ht,hx⟩;obtain⟨v,hm,rfl⟩:=i_.1 ht;exact(ar0 (hv v hm)).2.2 x hx
 ·rw[Gl.enc_eq]
  simp only[Gl.name,Gl.terms,Gl.goals,u_,wtL,D.wt,wtR,D5];omega
 ·have:=hs x hx
  subst this;simp only[Gl.name,Gl.terms,o_];exact h9 hk
 ·have:=hs x hx
  subst this;exact h10
theorem Gl.drA_not {S:List (List UInt8×Int)} {n:Int} {g:Gl} (hg:g.drA S n 2) (hk:g.kind=9) (h1:g.cnt=1) (hw:wtL g.enc<=900):Gl.drA S n 2 ⟨10,[],[],[g]⟩:=by
 obtain⟨a1,a2,a3,a4,a5,a6,a7,a8⟩:=hg;have hs:∀x,x∈(Gl.mk 10 [] [] [g]).subs->x=⟨10,[],[],[g]⟩\/x∈g.subs:=fun x hx=>by
  rw[Gl.subs_eq] at hx;simpa[Gl.goals,Gl.subss] using hx
 refine⟨?_,?_,by simp[Gl.kind],by simp[Gl.kind],by rw[Gl.cnt_eq];simp[Gl.goals,Gl.cnts,h1],?_,fun x hx h9=>?_,fun h=>absurd rfl h⟩
 ·rw[Gl.shape_eq,Gl.form_10 (x:=g) rfl rfl rfl rfl rfl]
  simp[Gl.terms,Gl.goals,hk,a1]
 ·unfold Gl.varsLt at a2 |-
  rw[Gl.vars_eq];simpa[Gl.terms,Gl.goals,Gl.varss,Tm.varss] using a2
 ·rw[Gl.enc_eq]
  simp only[Gl.name,Gl.terms,Gl.goals,e_,u_,wtL,D.wt,wtR,q_];omega
 ·rcases hs x hx with rfl | hx
  ·simp[Gl.kind] at h9
  ·exact a7 x hx h9
theorem Gl.drA_call {S:List (List UInt8×Int)} {n mode:Int} {nm:List UInt8} {vs:List V} (hn:J6 nm=true) (hv:∀v,v∈vs->drawn 7 n v) (hl:vs.length<=4) (h9:(nm,(vs.length:Int))∈S):Gl.drA S n mode ⟨9,nm,vs.map V.tm,[]⟩/\(Gl.mk 9 nm (vs.map V.tm) []).cnt=1/\wtL (Gl.mk 9 nm (vs.map V.tm) []).enc<=900:=by
 have hn12:nm.length<=12:=by
  unfold J6 D7 at hn;simp only[a_,decide_eq_true_eq] at hn;omega
 have hw:=ax1 vs hv;refine⟨Gl.drA_of ?_ hv hl hn12 (by decide) (by decide) (by decide) (fun _=>h9),by rw[Gl.cnt_eq];simp[Gl.goals,Gl.cnts],?_⟩
 ·unfold Gl.form
  simp only[Gl.kind,Gl.name,Gl.goals,Gl.terms,if_true,hn,q_,o_];simp;omega
 ·rw[Gl.enc_eq]
  simp only[Gl.name,Gl.terms,Gl.goals,u_,wtL,D.wt,wtR,D5];omega
def Pg.gszL:List Rl->Nat
 | []=>0
 | r :: q=>r.body.clsS.length * 2 ^ (r.arity+r.locals).toNat+Pg.gszL q
theorem aY9 (u:List V) (r:Rl) (i:Int) (c:List Gl):∀m k,(aK6 u r i c k m).length<=m
 | 0,_=>by simp[aK6]
 | m+1,k=>by
  have h1:=aY9 u r i c m (k+1);have h2:((rvK u r i c k).toList).length<=1:=by cases rvK u r i c k<;>simp
  simp only[aK6,g_];omega
theorem aZ2 (u:List V) (r:Rl) (n:Nat):∀(cs:List (List Gl)) (i:Int),(ay7 u r n i cs).length<=cs.length * n
 | [],_=>by simp[ay7]
 | c :: cs,i=>by
  have h1:=aZ2 u r n cs (i+1);have h2:=aY9 u r i c n 0;simp only[ay7,g_,b_,X_,Nat.one_mul];omega
theorem bv3 {u:List V} (hu:u.length<=2):∀l:List Rl,(Pg.gnd u l).length<=Pg.gszL l
 | []=>by simp[Pg.gnd]
 | r :: q=>by
  have h1:=bv3 hu q;have h2:=aZ2 u r (r.ways u) r.body.clsS 0;have h3:r.ways u<=2 ^ (r.arity+r.locals).toNat:=Nat.pow_le_pow_left hu _;have h4:r.body.clsS.length * r.ways u<=r.body.clsS.length * 2 ^ (r.arity+r.locals).toNat:=Nat.mul_le_mul_left _ h3;simp only[Pg.gnd,Pg.gszL,g_];omega
theorem Pg.gr_small {p:Pg} {u:List V} (hok:M9 p=true) (hc:∀r,r∈p.rels->r.body.clsS.length<=64) (hu:u.length<=2) (hg:Pg.gszL p.rels<=2000):p.gr u=some (Pg.gnd u p.rels):=by
 unfold Pg.gr;have hl:=bv3 hu p.rels;rw[if_pos];refine⟨c_.2 fun r hr=>?_,by omega⟩;obtain⟨d1,d2,d3,d4⟩:=Pg.dims hok hr;unfold Rl.gOk;rw[a_,decide_eq_true_eq,decide_eq_true_eq];refine⟨hc r hr,?_⟩;have h3:r.ways u<=2 ^ (r.arity+r.locals).toNat:=Nat.pow_le_pow_left hu _;have h4:2 ^ (r.arity+r.locals).toNat<=2 ^ 12:=V_ (by decide) (by omega);omega
theorem Pg.drP_gsz {mode:Int} {p:Pg} (h:p.drP mode):Pg.gszL p.rels<=2000:=by
 have hl:p.rels.length<=3:=by
  obtain⟨⟨k,k1,k3,hn⟩,_⟩:=h;have:=congrArg List.length hn;rw[o_,(V7 k3).2.2] at this;omega
 have hr:=h.2;have key:∀l:List Rl,(∀r,r∈l->r∈p.rels)->Pg.gszL l<=24 * l.length:=fun l=>by
  induction l with
  | nil=>intro _;simp[Pg.gszL]
  | cons r q ih =>
   intro hm;have h1:=ih (fun x hx=>hm x (by simp[hx]));obtain⟨a1,a2,a3,a4,a5⟩:=hr r (hm r (by simp));have h2:=Gl.drB_cls a5;have h3:2 ^ (r.arity+r.locals).toNat<=2 ^ 3:=V_ (by decide) (by omega);have h4:r.body.clsS.length * 2 ^ (r.arity+r.locals).toNat<=3 * 2 ^ 3:=Nat.mul_le_mul h2 h3;simp only[Pg.gszL,b_];omega
 have:=key p.rels (fun _ h=>h);omega
def bh3 (s:List UInt8):Bool:=match aA3 s with
 | some T=>(match ppT T [] 0 [] with
  | some (rels,d)=>decide (Pg.gszL rels<=2000)
  | none=>false)
 | none=>false
theorem bZ9:bh3 bg9=true:=by kernel_rfl
theorem bZ8:bh3 bg8=true:=by kernel_rfl
theorem bZ7:bh3 bg7=true:=by kernel_rfl
theorem bZ6:bh3 bg6=true:=by kernel_rfl
theorem bt3 (k:Nat):bh3 (bz9 k)=true:=match k with
 | 0=>bZ9
 | 1=>bZ8
 | 2=>bZ7
 | _+3=>bZ6
theorem bO7 {k:Nat} {T:List (List UInt8)} {rels:List Rl} {d:Int} (hT:aA3 (bz9 k)=some T) (hp:ppT T [] 0 []=some (rels,d)):Pg.gszL rels<=2000:=by
 have h:=bt3 k;unfold bh3 at h;rw[hT] at h;dsimp only at h;rw[hp] at h;exact of_decide_eq_true h
def Pg.made (mode:Int) (p:Pg):Prop:=p.drP mode\/∃k T d,aA3 (bz9 k)=some T/\ppT T [] 0 []=some (p.rels,d)/\p.fine mode
theorem Pg.made_fine {m:Int} {p:Pg} (h:p.made m):p.fine m:=by
 rcases h with h | ⟨k,T,d,h1,h2,h3⟩
 ·exact Pg.drP_fine h
 ·exact h3
theorem Pg.made_gsz {m:Int} {p:Pg} (h:p.made m):Pg.gszL p.rels<=2000:=by
 rcases h with h | ⟨k,T,d,h1,h2,h3⟩
 ·exact Pg.drP_gsz h
 ·exact bO7 h1 h2
def Gl.leaf (x:Gl):Prop:=x.kind≠0/\x.kind≠1/\x.kind≠7/\x.kind≠8
theorem Gl.orS_all {Q:List Gl->Prop}:∀(l:List Gl) (a:List (List Gl)),(∀x,x∈l->∀c,c∈x.clsS->Q c)->(∀c,c∈a->Q c)->∀c,c∈Gl.orS l a->Q c
 | [],a,_,ha=>by simpa only[Gl.orS] using ha
 | x :: r,a,hl,ha=>by
  simp only[Gl.orS];split
  ·exact hl x (by simp)
  ·refine Gl.orS_all r _ (fun y hy=>hl y (by simp[hy])) fun c hc=>?_
   rcases n_.1 hc with h | h
   ·exact ha c h
   ·exact hl x (by simp) c h
def cw6 (T:List (List UInt8)):Nat->Nat->List V->Option (List V×Nat)
 | 0,_,_=>none
 | n+1,i,acc=>if T[i]? = some [41] then some (acc,i+1) else match rdO false T i with
  | some (v,j)=>cw6 T n j (acc++[v])
  | none=>none
mutual
def rdP (T:List (List UInt8)):Nat->Nat->Option (Pf×Nat)
 | 0,_=>none
 | n+1,i=>if T[i]? = some [40] then (match T[i+1]? with
  | none=>none
  | some rel=>(match V6 (T[i+2]?.getD []) with
   | none=>none
   | some c=>if T[i+3]? = some [40] then (match cw6 T (T.length+1) (i+4) [] with
    | none=>none
    | some (vs,j)=>rdK T n j rel c vs []) else none)) else none
def rdK (T:List (List UInt8)):Nat->Nat->List UInt8->Int->List V->List Pf->Option (Pf×Nat)
 | 0,_,_,_,_,_=>none
 | n+1,i,rel,c,vs,acc=>if T[i]? = some [41] then some (.mk rel c (vs.map V.tm) acc,i+1) else match rdP T n i with
  | some (k,j)=>rdK T n j rel c vs (acc++[k])
  | none=>none
end
mutual
def Pf.rf:Pf->Bool
 | .mk rel _ _ ks=>decide (rel≠[40]) && (decide (rel≠[41]) && Pf.rfs ks)
def Pf.rfs:List Pf->Bool
 | []=>true
 | k :: r=>k.rf && Pf.rfs r
end
def pfI (T:List (List UInt8)):Option Pf:=match rdP T (2 * T.length+2) 0 with
 | some (pr,j)=>if j=T.length then some pr else none
 | none=>none
def ppI (p:Pg) (s:List UInt8):Option Pf:=match aA3 s with
 | some T=>(match pfI T with | some pr=>if p.prfOk pr=true then some pr else none | none=>none)
 | none=>none
theorem aO3 {u:List V} (h:1<=u.length):∀(n:Nat) (x:List V),x.length=n->(∀v,v∈x->v∈u)->∃k,k<u.length ^ n/\E5 u n k=x
 | 0,x,h1,_=>⟨0,by simp,by rw[A_ h1];rfl⟩
 | n+1,[],h1,_=>by simp at h1
 | n+1,v :: r,h1,h2=>by
  obtain⟨k,hk,hg⟩:=aO3 h n r (by simpa using h1) (fun w hw=>h2 w (by simp[hw]));obtain⟨i,hi⟩:=y_ (h2 v (by simp));have hil:=(f_.1 hi).1;have e1:(i+u.length * k) % u.length=i:=by rw[Nat.add_mul_mod_self_left,Nat.mod_eq_of_lt hil]
  have e2:(i+u.length * k) / u.length=k:=by rw[Nat.add_mul_div_left _ _ (by omega),Nat.div_eq_of_lt hil,Nat.zero_add]
  refine⟨i+u.length * k,?_,?_⟩
  ·have h3:u.length * (k+1)<=u.length * u.length ^ n:=Nat.mul_le_mul_left _ hk
   rw[Z_,al_ (u.length ^ n)];rw[Nat.mul_add] at h3;omega
  ·rw[E5,e1,e2,hg,N_,hi];rfl
theorem ba7 {p:Pg}:∀(l:List Rl),p.okL l=true->l.length<=p.rels.length->∀(i:Nat) (r:Rl),l[i]? = some r->p.relOk (p.rels.length - l.length+i) r=true
 | [],_,_,i,r,hr=>by simp at hr
 | x :: q,ho,hl,i,r,hr=>by
  simp only[Pg.okL,a_] at ho;simp only[b_] at hl |-;match i with
  | 0=>simp at hr;subst hr;exact ho.1
  | i+1 =>
   have:=ba7 q ho.2 (by omega) i r (by simpa using hr);rw[show p.rels.length - (q.length+1)+(i+1)=p.rels.length - q.length+i by omega];exact this
def stp (c:UInt8):Prop:=c=32\/c=41
def bnx (R:List UInt8):Prop:=R=[]\/∃c r,R=c :: r/\stp c
theorem ac7:∀(w w':List UInt8) {R S:List UInt8},(∀c,c∈w->¬stp c)->(∀c,c∈w'->¬stp c)->bnx R->bnx S->w++R=w'++S->w=w'/\R=S
 | [],[],_,_,_,_,_,_,h=>⟨rfl,h⟩
 | [],d :: w',R,S,_,h2,hR,_,h=>by
  rcases hR with e | ⟨c,r,e,hc⟩
  ·rw[e] at h;cases h
  ·rw[e] at h
   obtain rfl:=(List.cons.inj h).1;exact absurd hc (h2 _ (by simp))
 | c :: w,[],R,S,h1,_,_,hS,h=>by
  rcases hS with e | ⟨d,r,e,hd⟩
  ·rw[e] at h;cases h
  ·rw[e] at h
   obtain rfl:=(List.cons.inj h).1;exact absurd hd (h1 _ (by simp))
 | c :: w,d :: w',R,S,h1,h2,hR,hS,h=>by
  obtain⟨e1,e2⟩:=List.cons.inj h;obtain⟨e3,e4⟩:=ac7 w w' (fun x hx=>h1 x (by simp[hx])) (fun x hx=>h2 x (by simp[hx])) hR hS e2;exact⟨by rw[e1,e3],e4⟩
theorem ax2:∀n u,u<=n->∀c,c∈Lib.decDigits u->48<=c.toNat/\c.toNat<=57:=fun n=>by
 induction n with
 | zero =>
  intro u hu c hc;rw[Lib.decDigits,dif_pos (by omega)] at hc;simp at hc;subst hc;simp;omega
 | succ n ih =>
  intro u hu c hc;rw[Lib.decDigits] at hc;split at hc
  ·simp at hc;subst hc
   simp;omega
  ·rcases n_.1 hc with hc | hc
   ·exact ih _ (by omega) c hc
   ·simp at hc;subst hc
    simp;omega
theorem aH3 (u:Nat):Lib.decDigits u≠[]:=by
 rw[Lib.decDigits];split<;>simp
theorem aV6 {a b:Nat} (ha:a<10) (hb:b<10) (h:UInt8.ofNat (48+a)=UInt8.ofNat (48+b)):a=b:=by
 have:=congrArg UInt8.toNat h;simp at this;omega
theorem bc6:∀n u v,u<=n->Lib.decDigits u=Lib.decDigits v->u=v:=fun n=>by
 induction n with
 | zero =>
  intro u v hu h;rw[Lib.decDigits,dif_pos (by omega),Lib.decDigits] at h;split at h
  ·rename_i hv
   exact aV6 (by omega) hv (List.cons.inj h).1
  ·obtain⟨h1,_⟩:=P_ (s₁:=[]) h rfl
   exact absurd h1.symm (aH3 _)
 | succ n ih =>
  intro u v hu h;rw[Lib.decDigits.eq_1 u,Lib.decDigits.eq_1 v] at h;split at h
  ·rename_i hu'
   split at h
   ·rename_i hv
    exact aV6 (by omega) hv (List.cons.inj h).1
   ·obtain⟨h1,_⟩:=P_ (s₁:=[]) h rfl
    exact absurd h1.symm (aH3 _)
  ·split at h
   ·obtain⟨h1,_⟩:=P_ (s₂:=[]) h rfl
    exact absurd h1 (aH3 _)
   ·obtain⟨h1,h2⟩:=P_ h rfl
    have:=ih _ _ (by omega) h1;have:=aV6 (by omega) (by omega) (List.cons.inj h2).1;omega
theorem ak8 (n:Int):∀c,c∈dec n->c.toNat=45\/(48<=c.toNat/\c.toNat<=57):=by
 intro c hc;by_cases hn:n<0
 ·rw[P7 hn] at hc
  rcases d_.1 hc with rfl | hc
  ·exact .inl rfl
  ·exact .inr (ax2 _ _ (j_ _) c hc)
 ·rw[X0 (by omega)] at hc
  exact .inr (ax2 _ _ (j_ _) c hc)
theorem bc9 {n m:Int} (h:dec n=dec m):n=m:=by
 have hne:∀u v,45 :: Lib.decDigits u≠Lib.decDigits v:=fun u v e=>by
  have:=ax2 _ v (j_ _) 45 (by rw[<-e];simp);revert this;decide
 by_cases hn:n<0
 ·rw[P7 hn] at h
  by_cases hm:m<0
  ·rw[P7 hm] at h
   have:=bc6 _ _ _ (j_ _) (List.cons.inj h).2;omega
  ·rw[X0 (by omega)] at h
   exact absurd h (hne _ _)
 ·rw[X0 (by omega)] at h
  by_cases hm:m<0
  ·rw[P7 hm] at h
   exact absurd h.symm (hne _ _)
  ·rw[X0 (by omega)] at h
   have:=bc6 _ _ _ (j_ _) h;omega
theorem aq4 {s:List UInt8} (h:D7 s=true):(∀c,c∈s->¬stp c)/\∃c r,s=c :: r/\97<=c.toNat:=by
 have hl:=H5 h;unfold D7 at h;simp only[a_,c_,ab_] at h;refine⟨fun c hc hs=>?_,?_⟩
 ·obtain⟨j,hj⟩:=y_ hc
  have h1:=h.1.1 j (f_.1 hj).1;unfold aF8 af0 at h1;rw[hj] at h1;simp only[Option.getD_some,Q_,a_,decide_eq_true_eq,bne_iff_ne,ne_eq,beq_iff_eq] at h1;rcases hs with rfl | rfl
  ·have:(32:UInt8).toNat=32:=rfl
   omega
  ·have:(41:UInt8).toNat=41:=rfl
   omega
 ·cases s with
  | nil=>simp at hl
  | cons c r =>
   refine⟨c,r,rfl,?_⟩;have h1:=h.1.1 0 (by simp);unfold aF8 af0 at h1;simp at h1;omega
namespace V
def leaf (v:V):Prop:=v.kind≠4/\v.kind≠0
theorem aq6 {v:V} (h:v.leaf) (hf:v.fine=true):(∀c,c∈v.txt->¬stp c)/\∃c r,v.txt=c :: r/\c≠40/\c≠41/\c≠46:=by
 have hd:∀n,∃c r,dec n=c :: r:=fun n=>by
  cases e:dec n with
  | nil =>
   by_cases hn:n<0
   ·rw[P7 hn] at e;cases e
   ·rw[X0 (by omega)] at e;exact absurd e (aH3 _)
  | cons c r=>exact⟨c,r,rfl⟩
 have hs:∀(n:Int) c,c∈dec n->¬stp c:=fun n c hc hs=>by
  have:=ak8 n c hc;rcases hs with rfl | rfl
  ·have:(32:UInt8).toNat=32:=rfl
   omega
  ·have:(41:UInt8).toNat=41:=rfl
   omega
 cases v with
 | nil=>exact absurd rfl h.2
 | pair a b=>exact absurd rfl h.1
 | var n =>
  refine⟨fun c hc=>?_,63,dec n,rfl,by decide,by decide,by decide⟩;rcases d_.1 hc with rfl | hc
  ·unfold stp;decide
  ·exact hs n c hc
 | sym s =>
  obtain⟨h1,c,r,h2,h3⟩:=aq4 hf;refine⟨h1,c,r,h2,?_,?_,?_⟩<;>(rintro rfl;revert h3;decide)
 | num n =>
  obtain⟨c,r,e⟩:=hd n;refine⟨hs n,c,r,e,?_,?_,?_⟩<;>(rintro rfl;have:=ak8 n _ (by rw[e];exact List.mem_cons_self);revert this;decide)
theorem ba8 {a b:V} (ha:a.leaf) (hb:b.leaf) (fa:a.fine=true) (fb:b.fine=true) (h:a.txt=b.txt):a=b:=by
 have k1:∀n m,63 :: dec n≠dec m:=fun n m e=>by have:=ak8 m 63 (by rw[<-e];simp);revert this;decide
 have k2:∀(n:Int) s,D7 s=true->63 :: dec n≠s:=fun n s hs e=>by
  obtain⟨_,c,r,h2,h3⟩:=aq4 hs;rw[h2] at e;rw[<-(List.cons.inj e).1] at h3;revert h3;decide
 have k3:∀(n:Int) s,D7 s=true->dec n≠s:=fun n s hs e=>by
  obtain⟨_,c,r,h2,h3⟩:=aq4 hs;have:=ak8 n c (by rw[e,h2];simp);omega
 cases a with
 | nil=>exact absurd rfl ha.2
 | pair a b=>exact absurd rfl ha.1
 | var n =>
  cases b with
  | nil=>exact absurd rfl hb.2
  | pair a b=>exact absurd rfl hb.1
  | var m=>rw[bc9 (List.cons.inj h).2]
  | sym s=>exact absurd h (k2 n s fb)
  | num m=>exact absurd h (k1 n m)
 | sym s =>
  cases b with
  | nil=>exact absurd rfl hb.2
  | pair a b=>exact absurd rfl hb.1
  | var m=>exact absurd h.symm (k2 m s fa)
  | sym s'=>exact congrArg V.sym h
  | num m=>exact absurd h.symm (k3 m s fa)
 | num n =>
  cases b with
  | nil=>exact absurd rfl hb.2
  | pair a b=>exact absurd rfl hb.1
  | var m=>exact absurd h.symm (k1 m n)
  | sym s=>exact absurd h (k3 n s fb)
  | num m=>rw[bc9 h]
theorem shp (v:V):v=nil\/v.leaf\/∃a b,v=pair a b:=by
 cases v with
 | nil=>exact .inl rfl
 | pair a b=>exact .inr (.inr ⟨a,b,rfl⟩)
 | _=>exact .inr (.inl ⟨by simp[kind],by simp[kind]⟩)
theorem bI3 {v:V} (hf:v.fine=true):∃c r,v.txt=c :: r/\c≠41/\c≠46:=by
 rcases shp v with rfl | h | ⟨a,b,rfl⟩
 ·exact⟨40,[41],rfl,by decide,by decide⟩
 ·obtain⟨_,c,r,h1,_,h3,h4⟩:=aq6 h hf
  exact⟨c,r,h1,h3,h4⟩
 ·exact⟨40,_,rfl,by decide,by decide⟩
theorem bI5 (v:V) (R:List UInt8):bnx (v.tl++R):=by
 cases v with
 | nil=>exact .inr ⟨_,_,rfl,.inr rfl⟩
 | _=>exact .inr ⟨_,_,rfl,.inl rfl⟩
theorem txt_inj:∀a:V,a.fine=true->∀b:V,b.fine=true->∀R S:List UInt8,(bnx R->bnx S->a.txt++R=b.txt++S->a=b/\R=S)/\(a.tl++R=b.tl++S->a=b/\R=S):=by
 have n1:∀(a b c:V) (R S:List UInt8),b.fine=true->(40 :: 41 :: R:List UInt8)≠(pair b c).txt++S:=fun a b c R S hf e=>by
  obtain⟨x,r,h1,h2,_⟩:=bI3 hf;rw[txt_pair,h1] at e;exact h2 (List.cons.inj (List.cons.inj e).2).1.symm
 have n2:∀(l:V) (R S:List UInt8) ,l.leaf->l.fine=true->(40 :: R:List UInt8)≠l.txt++S:=fun l R S h hf e=>by
  obtain⟨_,c,r,h1,h2,_⟩:=aq6 h hf;rw[h1] at e;exact h2 (List.cons.inj e).1.symm
 have n3:∀(l b c:V) (R S:List UInt8),l.leaf->b.fine=true->l.tl++R≠(pair b c).tl++S:=fun l b c R S h hf e=>by
  obtain⟨x,r,h1,_,h3⟩:=bI3 hf;rw[tl_atom h.1 h.2,tl_pair,h1] at e;exact h3 (List.cons.inj (List.cons.inj e).2).1.symm
 have n4:∀(l:V) (R S:List UInt8),l.leaf->(41 :: R:List UInt8)≠l.tl++S:=fun l R S h e=>by
  rw[tl_atom h.1 h.2] at e;exact absurd (List.cons.inj e).1 (by decide)
 have hlf:∀a:V,a.leaf->a.fine=true->∀b:V,b.fine=true->∀R S:List UInt8,(bnx R->bnx S->a.txt++R=b.txt++S->a=b/\R=S)/\(a.tl++R=b.tl++S->a=b/\R=S):=by
  intro a la fa b fb R S;rcases shp b with rfl | h | ⟨c,d,rfl⟩
  ·exact⟨fun _ _ e=>absurd e.symm (n2 _ _ R la fa),fun e=>absurd e.symm (n4 _ S R la)⟩
  ·obtain⟨w1,_⟩:=aq6 la fa
   obtain⟨w2,_⟩:=aq6 h fb;refine⟨fun hR hS e=>?_,fun e=>?_⟩
   ·obtain⟨e1,e2⟩:=ac7 _ _ w1 w2 hR hS e
    exact⟨ba8 la h fa fb e1,e2⟩
   ·rw[tl_atom la.1 la.2,tl_atom h.1 h.2] at e
    simp only[k_,B_,D_,List.cons.injEq,true_and] at e;obtain⟨e1,e2⟩:=ac7 _ _ w1 w2 (.inr ⟨_,_,rfl,.inr rfl⟩) (.inr ⟨_,_,rfl,.inr rfl⟩) e;exact⟨ba8 la h fa fb e1,(List.cons.inj e2).2⟩
  ·simp only[fine,a_] at fb
   refine⟨fun _ _ e=>absurd ?_ (n2 a (c.txt++d.tl++S) R la fa),fun e=>absurd e (n3 _ c d R S la fb.1)⟩;rw[e,txt_pair];rfl
 intro a;induction a with
 | nil =>
  intro fa b fb R S;rcases shp b with rfl | h | ⟨c,d,rfl⟩
  ·exact⟨fun _ _ h=>⟨rfl,(List.cons.inj (List.cons.inj h).2).2⟩,fun h=>⟨rfl,(List.cons.inj h).2⟩⟩
  ·exact⟨fun _ _ e=>absurd e (n2 b _ S h fb),fun e=>absurd e (n4 b R S h)⟩
  ·simp only[fine,a_] at fb
   exact⟨fun _ _ e=>absurd e (n1 nil c d R S fb.1),fun e=>absurd (List.cons.inj e).1 (by decide)⟩
 | pair a1 a2 ih1 ih2 =>
  intro fa b fb R S;simp only[fine,a_] at fa;rcases shp b with rfl | h | ⟨c,d,rfl⟩
  ·exact⟨fun _ _ e=>absurd e.symm (n1 nil a1 a2 S R fa.1),fun e=>absurd (List.cons.inj e).1 (by decide)⟩
  ·exact⟨fun _ _ e=>absurd (by rw[<-e,txt_pair];rfl) (n2 b (a1.txt++a2.tl++R) S h fb),fun e=>absurd e.symm (n3 b a1 a2 S R h fa.1)⟩
  ·simp only[fine,a_] at fb
   have key:a1.txt++(a2.tl++R)=c.txt++(d.tl++S)->pair a1 a2=pair c d/\R=S:=fun e=>by
    obtain⟨rfl,e2⟩:=(ih1 fa.1 c fb.1 _ _).1 (bI5 a2 R) (bI5 d S) e;obtain⟨rfl,e3⟩:=(ih2 fa.2 d fb.2 _ _).2 e2;exact⟨rfl,e3⟩
   refine⟨fun _ _ e=>key ?_,fun e=>key ?_⟩
   ·simp only[txt_pair,k_,D_,List.cons.injEq,true_and] at e
    exact e
   ·simp only[tl_pair,k_,D_,List.cons.injEq,true_and] at e
    exact e
 | var n=>exact hlf _ ⟨by simp[kind],by simp[kind]⟩
 | sym n=>exact hlf _ ⟨by simp[kind],by simp[kind]⟩
 | num n=>exact hlf _ ⟨by simp[kind],by simp[kind]⟩
end V
structure FcV.good (f:FcV):Prop where
 rel:J6 f.1=true
 len:f.2.length<=4
 ok:∀v,v∈f.2->v.ok=true
 gr:∀v,v∈f.2->v.vars=[]
theorem bX9 {v:V} (h:v.ok=true):v.tm.V=v/\v.fine=true:=by
 have hf:v.fine=true:=by simp[V.ok] at h;exact h.1
 exact⟨by simp[Tm.V,V.v?_tm v hf],hf⟩
theorem args_inj:∀l m:List V,(∀v,v∈l->v.fine=true)->(∀v,v∈m->v.fine=true)->(l.flatMap fun v=>32 :: v.txt)++[41]=(m.flatMap fun v=>32 :: v.txt)++[41]->l=m
 | [],[],_,_,_=>rfl
 | [],x :: m,_,_,h=>by simp only[l_,List.flatMap_nil,k_,B_] at h;exact absurd (List.cons.inj h).1 (by decide)
 | x :: l,[],_,_,h=>by simp only[l_,List.flatMap_nil,k_,B_] at h;exact absurd (List.cons.inj h).1 (by decide)
 | x :: l,y :: m,h1,h2,h=>by
  simp only[l_,k_,D_] at h;have hb:∀z:List V,bnx ((z.flatMap fun v=>32 :: v.txt)++[41]):=fun z=>by
   cases z with
   | nil=>exact .inr ⟨_,_,rfl,.inr rfl⟩
   | cons=>exact .inr ⟨_,_,rfl,.inl rfl⟩
  obtain⟨rfl,e⟩:=(V.txt_inj x (h1 x (by simp)) y (h2 y (by simp)) _ _).1 (hb l) (hb m) (List.cons.inj h).2;rw[args_inj l m (fun v hv=>h1 v (by simp[hv])) (fun v hv=>h2 v (by simp[hv])) e]
theorem FcV.good_gl {f:FcV} (h:f.good):ak5 f.fc.gl=true/\f.fc.gl.vars=[]:=by
 obtain⟨h1,h2,h3,h4⟩:=h;refine⟨?_,?_⟩
 ·have hc:f.fc.gl.cnt=1:=by rw[Gl.cnt_eq];simp[Fc.gl,Gl.goals,Gl.cnts]
  have ht:f.fc.gl.terms.all M7=true:=by
   simp only[Fc.gl,FcV.fc,Gl.terms,List.all_map,c_];exact fun v hv=>aR5 (h3 v hv)
  unfold ak5;rw[hc,Gl.shape_eq,ht];simp[Gl.form,Fc.gl,FcV.fc,Gl.kind,Gl.name,Gl.goals,Gl.terms,h1,h2];omega
 ·rw[Gl.vars_eq]
  simp only[Fc.gl,FcV.fc,Gl.terms,Gl.goals,Gl.varss,L_];have:∀l:List V,(∀v,v∈l->v.ok=true/\v.vars=[])->Tm.varss (l.map V.tm)=[]:=fun l=>by
   induction l with
   | nil=>intro _;rfl
   | cons x l ih =>
    intro hl;simp only[e_,Tm.varss,V.vars_tm,(hl x (by simp)).2,B_];exact ih (fun v hv=>hl v (by simp[hv]))
  exact this f.2 (fun v hv=>⟨h3 v hv,h4 v hv⟩)
theorem FcV.txt_eq {f:FcV} (h:f.good):Fc.txt f.fc=40 :: (f.1++((f.2.flatMap fun v=>32 :: v.txt)++[41])):=by
 unfold Fc.txt;rw[if_pos (FcV.good_gl h),Gl.txt_eq,if_neg (by simp[Fc.gl,Gl.kind])];have e:(f.fc.gl.terms.map fun t=>t.V.txt)=f.2.map V.txt:=by
  simp only[Fc.gl,FcV.fc,Gl.terms,x_];exact w_ (fun v hv=>by simp[(bX9 (h.ok v hv)).1])
 unfold Gl.words;rw[e];simp[ab6,Fc.gl,Gl.kind,Gl.name,Gl.goals,U4,FcV.fc,List.flatMap_map]
theorem FcV.txt_inj {f g:FcV} (hf:f.good) (hg:g.good) (h:Fc.txt f.fc=Fc.txt g.fc):f=g:=by
 rw[FcV.txt_eq hf,FcV.txt_eq hg] at h;have hn:∀s,J6 s=true->∀c,c∈s->¬stp c:=fun s hs=>(aq4 (by unfold J6 at hs;simp at hs;exact hs.2)).1;have hb:∀z:List V,bnx ((z.flatMap fun v=>32 :: v.txt)++[41]):=fun z=>by
  cases z with
  | nil=>exact .inr ⟨_,_,rfl,.inr rfl⟩
  | cons=>exact .inr ⟨_,_,rfl,.inl rfl⟩
 obtain⟨e1,e2⟩:=ac7 _ _ (hn _ hf.rel) (hn _ hg.rel) (hb _) (hb _) (List.cons.inj h).2;have e3:=args_inj f.2 g.2 (fun v hv=>(bX9 (hf.ok v hv)).2) (fun v hv=>(bX9 (hg.ok v hv)).2) e2;exact Prod.ext e1 e3
def hN (rs:List RV) (f:FcV):Nat:=(hgt rs f).toNat
def rlF (rs:List RV) (f:FcV):Option RV:=rs.find? fun r=>decide (r.head=f) && r.pos.all fun k=>decide (k∈stg rs (hN rs f - 1))
def prT (rs:List RV):Nat->FcV->Pf
 | 0,f=>.mk f.1 0 [] []
 | n+1,f=>match rlF rs f with
  | some r=>.mk f.1 r.clause (r.values.map V.tm) (r.pos.map (prT rs n))
  | none=>.mk f.1 0 [] []
def szT (rs:List RV):Nat->FcV->Nat
 | 0,_=>1
 | n+1,f=>match rlF rs f with
  | some r=>r.pos.foldl (fun a k=>min (a+szT rs n k) 201) 1
  | none=>1
theorem aX9 (rs:List RV) (n:Nat) (ih:∀f,szT rs n f=min (prT rs n f).cnt 201):∀(l:List FcV) (a:Nat),a<=201->l.foldl (fun a k=>min (a+szT rs n k) 201) a=min (a+Pf.cnts (l.map (prT rs n))) 201
 | [],a,h=>by simp only[List.foldl_nil,u_,Pf.cnts];omega
 | k :: l,a,h=>by
  rw[v_,aX9 rs n ih l _ (by omega),ih k];simp only[e_,Pf.cnts];omega
theorem bI6 (rs:List RV):∀(n:Nat) (f:FcV),szT rs n f=min (prT rs n f).cnt 201
 | 0,f=>by simp[szT,prT,Pf.cnt,Pf.cnts]
 | n+1,f=>by
  rw[szT,prT];cases rlF rs f with
  | none=>simp[Pf.cnt,Pf.cnts]
  | some r =>
   dsimp only;rw[aX9 rs n (bI6 rs n) r.pos 1 (by omega)];simp only[Pf.cnt]
theorem bW4 {rs:List RV} {n:Nat} {f:FcV} (hf:f∈stg rs n):f∈stg rs (top rs):=by
 rw[<-bM8] at hf;exact bo8 rs (Nat.min_le_right _ _) f hf
theorem J7 {rs:List RV} {f:FcV} (hf:f∈stg rs (top rs)):∃j,hgt rs f=(j+1:Nat)/\hN rs f=j+1/\j+1<=top rs/\f∈stg rs (j+1)/\∀k,f∈stg rs k->j+1<=k:=by
 obtain⟨k1,k2,k3⟩:=ai8 (p:=fun k=>decide (f∈stg rs k)) (n:=top rs+1);have e:hgt rs f=(aJ9 (fun k=>decide (f∈stg rs k)) (top rs+1):Int):=by unfold hgt;rw[if_pos hf]
 unfold hN;rw[e];generalize aJ9 (fun k=>decide (f∈stg rs k)) (top rs+1)=j at k1 k2 k3;have hmin:∀k,f∈stg rs k->j<=k:=fun k hk=>by
  rcases M_ k j with e | e
  ·have:=k2 k e
   simp only[decide_eq_false_iff_not] at this;exact absurd hk this
  ·exact e
 have hjt:=hmin _ hf;have hin:f∈stg rs j:=of_decide_eq_true (k3 (by omega));cases j with
 | zero=>simp[stg] at hin
 | succ j=>exact⟨j,rfl,rfl,hjt,hin,hmin⟩
theorem bQ0 {rs:List RV} {f:FcV} (hf:f∉stg rs (top rs)):hgt rs f=-1:=by unfold hgt;rw[if_neg hf]
theorem Z6 {rs:List RV} {f:FcV} (hf:f∈stg rs (top rs)):∃r,rlF rs f=some r/\r∈rs/\r.head=f/\∀k,k∈r.pos->k∈stg rs (top rs)/\hN rs k+1<=hN rs f/\k∈stg rs (hN rs f - 1):=by
 obtain⟨j,_,h2,_,h4,_⟩:=J7 hf;have h5:f∈Z9 rs (stg rs j) []:=h4;obtain⟨r0,r1,r2,r3⟩:=Y0.1 h5;unfold RV.fires at r2;simp only[a_] at r2;have hex:(rlF rs f).isSome=true:=by
  unfold rlF;rw[List.find?_isSome];refine⟨r0,r1,?_⟩;rw[h2,a_,decide_eq_true_eq];exact⟨r3,r2.1⟩
 obtain⟨r,hr⟩:=aa_.1 hex;have hp:=List.find?_some hr;have hm:=List.mem_of_find?_eq_some hr;simp only[a_,decide_eq_true_eq,c_] at hp;refine⟨r,hr,hm,hp.1,fun k hk=>?_⟩;have h6:=hp.2 k hk;have h7:=bW4 h6;obtain⟨i,_,i2,_,_,i5⟩:=J7 h7;have:=i5 _ h6;exact⟨h7,by omega,h6⟩
theorem ba5 (rs:List RV):∀(n m:Nat) (f:FcV),f∈stg rs (top rs)->hN rs f<=n->n<=m->prT rs m f=prT rs n f
 | 0,m,f,hf,h,_=>by obtain⟨j,_,h2,_⟩:=J7 hf;omega
 | n+1,0,f,_,_,h=>by omega
 | n+1,m+1,f,hf,h,hm=>by
  obtain⟨r,r1,_,_,r4⟩:=Z6 hf;rw[prT,prT,r1];dsimp only;rw[w_ (l:=r.pos) (f:=prT rs m) (g:=prT rs n) (fun k hk=>by have:=r4 k hk;exact ba5 rs n m k this.1 (by omega) (by omega))]
def prF (rs:List RV) (f:FcV):Pf:=prT rs (top rs) f
def szF (rs:List RV) (f:FcV):Nat:=szT rs (top rs) f
theorem aY0 (rs:List RV) (f:FcV):szF rs f=min (prF rs f).cnt 201:=bI6 _ _ _
theorem br6 {rs:List RV} {f:FcV} (hf:f∈stg rs (top rs)) {r:RV} (hr:rlF rs f=some r):prF rs f=.mk f.1 r.clause (r.values.map V.tm) (r.pos.map (prF rs)):=by
 obtain⟨j,_,h2,h3,_⟩:=J7 hf;obtain⟨r',r1,_,_,r4⟩:=Z6 hf;obtain rfl:r=r':=Option.some.inj (hr.symm.trans r1);unfold prF;obtain⟨t,ht⟩:∃t,top rs=t+1:=⟨top rs - 1,by omega⟩;rw[ht,prT,hr];dsimp only;rw[w_ (l:=r.pos) (f:=prT rs t) (g:=prT rs (t+1)) (fun k hk=>by have:=r4 k hk;exact(ba5 rs t (t+1) k this.1 (by omega) (by omega)).symm)]
theorem bM6 {rs:List RV} {f:FcV} (hf:f∈stg rs (top rs)) {r:RV} (hr:rlF rs f=some r):szF rs f=r.pos.foldl (fun a k=>min (a+szF rs k) 201) 1:=by
 rw[aY0,br6 hf hr];have key:∀(l:List FcV) (a:Nat),a<=201->l.foldl (fun a k=>min (a+szF rs k) 201) a=min (a+Pf.cnts (l.map (prF rs))) 201:=fun l=>by
  induction l with
  | nil=>intro a h;simp only[List.foldl_nil,u_,Pf.cnts];omega
  | cons k l ih =>
   intro a h;rw[v_,ih _ (by omega),aY0];simp only[e_,Pf.cnts];omega
 rw[key _ _ (by omega)];simp only[Pf.cnt]
def ba3 (rs:List RV) (f:FcV):Option Pf:=if f∈stg rs (top rs)/\(prF rs f).cnt<=200 then some (prF rs f) else none
def cf4 (rs:List RV):Prop:=∀r,r∈rs->wtR (r.values.map V.enc)<=2000000/\r.head.1.length<=12/\r.pos.length<=60/\r.values.length<=12
def rlP (rs:List RV) (f:FcV) (r:RV):Bool:=decide (r.head=f) && r.pos.all fun k=>decide (k∈stg rs (hN rs f - 1))
theorem bJ0 (rs:List RV) (f:FcV):rlF rs f=rs.find? (rlP rs f):=rfl
theorem bw1 (r:RV) (F:List FcV):r.fires F []=r.pos.all fun k=>decide (k∈F):=by
 unfold RV.fires;have:(r.neg.all fun f=>!decide (f∈([]:List FcV)))=true:=by simp
 rw[this,ah_]
def MI (rs:List RV) (es:List (D×D)):Prop:=∀f,f∈stg rs (top rs)->∀v,ah9 es (.str (Fc.txt f.fc))=some v->v=.int .i64 (szF rs f)
theorem cd1 (rs:List RV):MI rs []:=fun f _ v h=>by cases h
theorem aM1 (a b:List UInt8) (v:D):∀es:List (D×D),ah9 (am3 es (.str a) v) (.str b)=if a=b then some v else ah9 es (.str b)
 | []=>by
  by_cases h:a=b
  ·subst h;simp[am3,ah9,kEq]
  ·have:¬b=a:=fun e=>h e.symm
   simp[am3,ah9,kEq,h,this]
 | p :: r=>by
  have ih:=aM1 a b v r;obtain⟨k,x⟩:=p;cases k with
  | str s =>
   by_cases h1:a=s
   ·subst h1
    by_cases h:a=b
    ·subst h;simp[am3,ah9,kEq]
    ·have:¬b=a:=fun e=>h e.symm
     simp[am3,ah9,kEq,h,this]
   ·by_cases h2:b=s
    ·subst h2
     simp[am3,ah9,kEq,h1]
    ·simp[am3,ah9,kEq,h1,h2,ih]
  | _=>simp[am3,ah9,kEq,ih]
theorem cd0 {rs:List RV} {es:List (D×D)} (h:MI rs es) (hg:∀f,f∈stg rs (top rs)->f.good) {f:FcV} (hf:f∈stg rs (top rs)):MI rs (am3 es (.str (Fc.txt f.fc)) (.int .i64 (szF rs f))):=fun g hgm v hv=>by
 rw[aM1] at hv;split at hv
 ·rename_i e
  obtain rfl:=FcV.txt_inj (hg f hf) (hg g hgm) e;exact(Option.some.inj hv).symm
 ·exact h g hgm v hv
mutual
def Pf.hei:Pf->Nat
 | .mk _ _ _ ks=>Pf.heis ks 0+1
def Pf.heis:List Pf->Nat->Nat
 | [],h=>h
 | k :: r,h=>Pf.heis r (max h k.hei)
end
theorem Pf.hei_eq (t:Pf):t.hei=Pf.heis t.kids 0+1:=by cases t;simp only[Pf.hei,Pf.kids]
theorem Pf.heis_spec:∀(l:List Pf) (h:Nat),h<=Pf.heis l h/\(∀k,k∈l->k.hei<=Pf.heis l h)/\∀m,h<=m->(∀k,k∈l->k.hei<=m)->Pf.heis l h<=m
 | [],h=>by simp only[Pf.heis];exact⟨j_ _,fun k hk=>(by cases hk),fun m hm _=>hm⟩
 | x :: r,h=>by
  obtain⟨h1,h2,h3⟩:=Pf.heis_spec r (max h x.hei);simp only[Pf.heis];refine⟨by omega,fun k hk=>?_,fun m hm hk=>h3 m (by have:=hk x (by simp);omega) (fun k h=>hk k (by simp[h]))⟩;rcases d_.1 hk with rfl | hk
  ·omega
  ·exact h2 k hk
theorem Pf.mea_hei:∀(t:Pf) (c:Int),0<=c->c+t.cnt<=200->(t.mea c).1=t.hei:=by
 intro t;induction t using Pf.ind' with
 | h t ih =>
  have key:∀(l:List Pf),(∀x,x∈l->x∈t.kids)->∀(h:Nat) (c:Int),0<=c->c+Pf.cnts l<=200->(Pf.meas l h c).1=(Pf.heis l h:Int)+1:=fun l=>by
   induction l with
   | nil=>intro _ h c _ _;simp[Pf.meas,Pf.heis]
   | cons k r ihl =>
    intro hl h c h0 hc;simp only[Pf.cnts] at hc;have hk:=ih k (hl k (by simp)) c h0 (by omega);have hs:=Pf.mea_spec k c;simp only[Pf.meas,Pf.heis];rw[if_neg (by omega),hk];have hmx:bs7 (h:Int) (k.hei:Int)=((max h k.hei:Nat):Int):=by unfold bs7;split<;>omega
    rw[hmx];exact ihl (fun x hx=>hl x (by simp[hx])) _ _ (by omega) (by have:=hs.2.2.2.2.1 (by omega);omega)
  intro c h0 hc;rw[Pf.cnt_eq] at hc;rw[Pf.mea_eq,Pf.hei_eq];have:=key t.kids (fun _ h=>h) 0 (c+1) (by omega) (by omega);simpa using this
mutual
def Pf.inU (u:List V):Pf->Prop
 | .mk r _ vs ks=>r.length<=12/\vs.length<=12/\(∀v,v∈vs->∃x,x∈u/\v=x.tm)/\Pf.inUs u ks
def Pf.inUs (u:List V):List Pf->Prop
 | []=>True
 | k :: r=>k.inU u/\Pf.inUs u r
end
theorem Pf.inUs_iff {u:List V}:∀{l:List Pf},Pf.inUs u l↔∀k,k∈l->k.inU u
 | []=>by simp[Pf.inUs]
 | x :: r=>by
  have ih:=Pf.inUs_iff (u:=u) (l:=r);simp only[Pf.inUs,ih,d_,forall_eq_or_imp]
theorem Pf.inU_iff {u:List V} {t:Pf}:t.inU u↔t.rel.length<=12/\t.values.length<=12/\(∀v,v∈t.values->∃x,x∈u/\v=x.tm)/\∀k,k∈t.kids->k.inU u:=by
 cases t;simp only[Pf.inU,Pf.inUs_iff,Pf.rel,Pf.values,Pf.kids]
theorem Pf.inU_wt {u:List V} (hu:∀v,v∈u->wtL v.enc<=112):∀t:Pf,t.inU u->wtL t.enc+1<=t.cnt * 1500:=by
 intro t;induction t using Pf.ind' with
 | h t ih =>
  intro h;obtain⟨h1,h2,h3,h4⟩:=Pf.inU_iff.1 h;have hv:∀l:List Tm,(∀v,v∈l->∃x,x∈u/\v=x.tm)->wtR (l.map Tm.enc)<=113 * l.length:=fun l=>by
   induction l with
   | nil=>intro _;simp[wtR]
   | cons v r ihv =>
    intro hl;have a:=ihv (fun x hx=>hl x (by simp[hx]));obtain⟨x,hx,rfl⟩:=hl v (by simp);have b:=hu x hx;have e:x.tm.enc=x.enc:=rfl;simp only[e_,wtR,b_,e];omega
  have hk:∀l:List Pf,(∀k,k∈l->k∈t.kids)->wtR (l.map Pf.enc)<=Pf.cnts l * 1500:=fun l=>by
   induction l with
   | nil=>intro _;simp[wtR,Pf.cnts]
   | cons k r ihk =>
    intro hl;have a:=ihk (fun x hx=>hl x (by simp[hx]));have b:=ih k (hl k (by simp)) (h4 k (hl k (by simp)));simp only[e_,wtR,Pf.cnts];omega
  have a:=hv t.values h3;have b:=hk t.kids (fun _ h=>h);rw[Pf.enc_eq t,Pf.cnt_eq t];simp only[wtL,D.wt];omega
theorem br4 {rs:List RV} {u:List V} (hv:∀r,r∈rs->r.head.1.length<=12/\r.values.length<=12/\∀v,v∈r.values->v∈u):∀(n:Nat) (f:FcV),f∈stg rs (top rs)->hN rs f<=n->(prT rs n f).inU u/\(prT rs n f).hei<=hN rs f
 | 0,f,hf,h=>by obtain⟨j,_,h2,_⟩:=J7 hf;omega
 | n+1,f,hf,h=>by
  obtain⟨r,r1,r2,r3,r4⟩:=Z6 hf;obtain⟨v1,v2,v3⟩:=hv r r2;rw[r3] at v1;rw[prT,r1];dsimp only;have hk:∀k,k∈r.pos.map (prT rs n)->k.inU u/\k.hei+1<=hN rs f:=fun k hk=>by
   obtain⟨g,hg,rfl⟩:=i_.1 hk;have a:=r4 g hg;have b:=br4 hv n g a.1 (by omega);exact⟨b.1,by omega⟩
  obtain⟨j,_,h2,_⟩:=J7 hf;refine⟨Pf.inU_iff.2 ⟨v1,by simpa[Pf.values] using v2,fun v hvm=>?_,fun k hkm=>(hk k hkm).1⟩,?_⟩
  ·obtain⟨x,hx,rfl⟩:=i_.1 hvm
   exact⟨x,v3 x hx,rfl⟩
  ·rw[Pf.hei_eq]
   have:=(Pf.heis_spec (r.pos.map (prT rs n)) 0).2.2 (hN rs f - 1) (by omega) (fun k h=>by have:=(hk k h).2;omega);show Pf.heis (r.pos.map (prT rs n)) 0+1<=_;omega
theorem aZ0 {u:List V} {x:Rl} {i:Int} {c:List Gl}:∀(m k w:Nat),k<=w->w<k+m->V5 u c (E5 u (x.arity+x.locals).toNat w)=true->aK8 x i c (E5 u (x.arity+x.locals).toNat w)∈aK6 u x i c k m
 | 0,k,w,h1,h2,_=>by omega
 | m+1,k,w,h1,h2,h3=>by
  rw[aY7,n_];by_cases e:w=k
  ·subst e
   exact .inl (by unfold rvK;rw[if_pos h3];simp)
  ·exact .inr (aZ0 m (k+1) w (by omega) (by omega) h3)
theorem aZ3 {u:List V} {x:Rl} {n:Nat} {r:RV}:∀(cs:List (List Gl)) (i:Int) (j:Nat) (c:List Gl),cs[j]? = some c->r∈aK6 u x (i+j) c 0 n->r∈ay7 u x n i cs
 | [],i,j,c,h,_=>by simp at h
 | d :: cs,i,0,c,h,hr=>by
  simp at h;subst h;rw[aK7,n_];exact .inl (by simpa using hr)
 | d :: cs,i,j+1,c,h,hr=>by
  rw[aK7,n_];refine .inr (aZ3 cs (i+1) j c (by simpa using h) ?_);rw[show i+1+(j:Int)=i+((j+1:Nat):Int) by omega];exact hr
theorem bv5 {u:List V} {r:RV} {x:Rl}:∀rels:List Rl,x∈rels->r∈ay7 u x (x.ways u) 0 x.body.clsS->r∈Pg.gnd u rels
 | y :: q,h,hr=>by
  rw[show Pg.gnd u (y :: q)=ay7 u y (y.ways u) 0 y.body.clsS++Pg.gnd u q from rfl,n_];rcases d_.1 h with rfl | h
  ·exact .inl hr
  ·exact .inr (bv5 q h hr)
theorem FcV.eq_of {a b:FcV} (h:a.eq b=true):a=b:=(FcV.cmp_lin.zero a b).1 (by unfold FcV.eq at h;exact of_decide_eq_true h)
theorem aa4 {f:Int->V}:∀{c:List Gl} {ks:List (Bool×FcV)},H7 f c ks=true->x9 f c=ks.map (·.2)/\z8 f c=[]/\y8 f c=true/\∀k,k∈ks->k.1=true
 | [],ks,h=>by
  simp only[H7,List.isEmpty_iff] at h;subst h;simp[x9,z8,y8]
 | g :: r,ks,h=>by
  simp only[H7] at h;by_cases h10:g.kind=10
  ·rw[if_pos h10] at h;cases h
  ·rw[if_neg h10] at h
   by_cases h9:g.kind=9
   ·rw[if_pos h9] at h
    cases ks with
    | nil=>cases h
    | cons k ks =>
     simp only[a_] at h;obtain⟨i1,i2,i3,i4⟩:=aa4 h.2;have e:=FcV.eq_of h.1.2;refine⟨?_,?_,?_,fun x hx=>?_⟩
     ·rw[e_,<-i1,e]
      simp[x9,h9]
     ·simpa[z8,h9] using i2
     ·have e2:y8 f (g :: r)=((decide (g.kind=9) || decide (g.kind=10) || g.testV f) && y8 f r):=rfl
      rw[e2,i3,decide_eq_true h9];rfl
     ·rcases d_.1 hx with rfl | hx
      ·exact h.1.1
      ·exact i4 x hx
   ·rw[if_neg h9] at h
    simp only[a_] at h;obtain⟨i1,i2,i3,i4⟩:=aa4 h.2;refine⟨?_,?_,?_,i4⟩
    ·rw[<-i1];simp[x9,h9]
    ·simpa[z8,h10] using i2
    ·have e2:y8 f (g :: r)=((decide (g.kind=9) || decide (g.kind=10) || g.testV f) && y8 f r):=rfl
     rw[e2,i3,h.1,Bool.or_true];rfl
theorem bb9:∀(l:List Rl) (s:List UInt8) (i:Int) (r:Rl),i<=V9 l s i->0<=i->l[(V9 l s i - i).toNat]? = some r->r.name=s
 | [],s,i,r,h,h0,_=>by simp only[V9] at h;omega
 | x :: q,s,i,r,h,h0,hr=>by
  simp only[V9] at h hr;by_cases hn:x.name=s
  ·rw[if_pos hn,show (i - i).toNat=0 by omega] at hr
   simp at hr;subst hr;exact hn
  ·rw[if_neg hn] at h hr
   rcases ag9 q s (i+1) with h1 | h1
   ·omega
   ·rw[show (V9 q s (i+1) - i).toNat=(V9 q s (i+1) - (i+1)).toNat+1 by omega,I_] at hr
    exact bb9 q s (i+1) r h1.1 (by omega) hr
theorem Pg.find_nm {p:Pg} {s:List UInt8} {r:Rl} (h:0<=p.find s) (hr:p.rels[(p.find s).toNat]? = some r):r.name=s:=by
 unfold Pg.find at h hr;exact bb9 p.rels s 0 r h (Int.le_refl _) (by rw[Int.sub_zero];exact hr)
theorem Pg.prf_kid {p:Pg} {t k:Pf} (h:p.prf t=true) (hk:k∈t.kids):p.prf k=true:=by
 rw[Pg.prf_eq] at h;unfold Pg.prfAt at h;simp only[a_] at h;obtain⟨_,h1⟩:=h;split at h1
 ·cases h1
 ·simp only[a_] at h1
  obtain⟨_,_,_,_,h2⟩:=h1;split at h2
  ·cases h2
  ·exact(aa4 h2).2.2.2 (p.prf k,p.headV k.rel k.values) (by rw[Pg.prfs_eq];exact i_.2 ⟨k,hk,rfl⟩)
theorem br2 {p:Pg} {u:List V} {rs:List RV} (hu:Uni u) (hg:p.gr u=some rs):∀t:Pf,p.prf t=true->t.inU u->p.headV t.rel t.values∈stg rs t.hei:=by
 have hrs:rs=Pg.gnd u p.rels:=by
  unfold Pg.gr at hg;split at hg
  ·exact(Option.some.inj hg).symm
  ·cases hg
 intro t;induction t using Pf.ind' with
 | h t ih =>
  intro h hin;obtain⟨i1,i2,i3,i4⟩:=Pf.inU_iff.1 hin;obtain⟨h0,r,hr,hlen,hgr,hhd⟩:=Pg.prf_head h;have hnm:=Pg.find_nm h0 hr;have hkv:=fun k hk=>Pg.prf_kid (k:=k) h hk;rw[Pg.prf_eq,Pg.prfAt_at h0 hr] at h;simp only[a_,decide_eq_true_eq] at h;obtain⟨_,_,_,hc0,hc⟩:=h;split at hc
  ·cases hc
  rename_i c hcc;have hU:∀l:List Tm,(∀v,v∈l->∃x,x∈u/\v=x.tm)->∀v,v∈l.map Tm.V->v∈u:=fun l hl v hv=>by
   obtain⟨w,hw,rfl⟩:=i_.1 hv;obtain⟨x,hx,rfl⟩:=hl w hw;rw[(bX9 (hu.ok x hx)).1];exact hx
  have hvu:=hU t.values i3;obtain⟨q1,q2,q3,q4⟩:=aa4 hc;rw[Pg.prfs_eq,x_] at q1;obtain⟨w,hw1,hw2⟩:=aO3 hu.pos (r.arity+r.locals).toNat (t.values.map Tm.V) (by rw[o_];omega) hvu;have hm:∀f,f∈x9 (o7 (t.values.map Tm.V)) c->∃k,k∈t.kids/\f=p.headV k.rel k.values:=fun f hf=>by
   rw[q1] at hf;obtain⟨k,hk,rfl⟩:=i_.1 hf;exact⟨k,hk,rfl⟩
  have hfine:V5 u c (E5 u (r.arity+r.locals).toNat w)=true:=by
   rw[hw2];unfold V5;rw[q3,q2,t_,a_];refine⟨c_.2 fun f hf=>?_,rfl⟩;obtain⟨k,hk,rfl⟩:=hm f hf;obtain⟨_,rk,hrk,_,_,hhk⟩:=Pg.prf_head (hkv k hk);rw[hhk];refine c_.2 fun v hv=>decide_eq_true ?_;exact hU k.values (Pf.inU_iff.1 (i4 k hk)).2.2.1 v (List.mem_of_mem_take hv)
  have hrm:aK8 r t.clause c (t.values.map Tm.V)∈rs:=by
   rw[hrs];refine bv5 p.rels (p_ hr) (aZ3 _ 0 t.clause.toNat c hcc ?_);rw[show (0:Int)+(t.clause.toNat:Int)=t.clause by omega];have:=aZ0 (u:=u) (x:=r) (i:=t.clause) (c:=c) (r.ways u) 0 w (Nat.zero_le _) (by rw[Nat.zero_add];exact hw1) hfine;rw[hw2] at this;exact this
  rw[Pf.hei_eq,hhd];show _∈Z9 rs (stg rs (Pf.heis t.kids 0)) [];refine Y0.2 ⟨_,hrm,?_,?_⟩
  ·rw[bw1]
   refine c_.2 fun f hf=>decide_eq_true ?_;obtain⟨k,hk,rfl⟩:=hm f hf;exact bo8 rs ((Pf.heis_spec t.kids 0).2.1 k hk) _ (ih k hk (hkv k hk) (i4 k hk))
  ·show (r.name,_)=_
   rw[hnm]
def Pg.arL:List Rl->Nat
 | []=>0
 | r :: q=>2 ^ r.arity.toNat+Pg.arL q
def cA0 (s:List UInt8):Bool:=match aA3 s with
 | some T=>(match ppT T [] 0 [] with
  | some (rels,d)=>decide (Pg.arL rels<=99)
  | none=>false)
 | none=>false
theorem Gl.andS_nc:∀(l:List Gl) (a:List (List Gl)) (m:Nat),(∀x,x∈l->∀c,c∈x.clsS->Gl.nc9 c<=Gl.nc9 [x])->(∀c,c∈a->Gl.nc9 c<=m)->∀c,c∈Gl.andS l a->Gl.nc9 c<=m+Gl.nc9 l
 | [],a,m,_,ha=>by
  intro c hc;have:=ha c (by simpa only[Gl.andS] using hc);omega
 | x :: r,a,m,hl,ha=>by
  have h3:=hl x (by simp);have h5:Gl.nc9 (x :: r)=Gl.nc9 [x]+Gl.nc9 r:=Gl.nc9_app [x] r;have h4:∀c,c∈J5 a x.clsS->Gl.nc9 c<=m+Gl.nc9 [x]:=fun c hc=>by
   obtain⟨u,v,hu,hv,rfl⟩:=au9 hc;have k1:=ha u hu;have k2:=h3 v hv;rw[Gl.nc9_app];omega
  simp only[Gl.andS];split
  ·exact fun c hc=>by have:=h3 c hc;omega
  ·split
   ·exact fun c hc=>by have:=h4 c hc;omega
   ·intro c hc
    have:=Gl.andS_nc r _ (m+Gl.nc9 [x]) (fun y hy=>hl y (by simp[hy])) h4 c hc;omega
theorem Gl.drA_nc {S:List (List UInt8×Int)} {n mode:Int} {g:Gl} (h:g.drA S n mode):∀c,c∈g.clsS->Gl.nc9 c<=Gl.nc9 [g]:=by
 intro c hc;obtain⟨_,_,h7,h8,_⟩:=h;rw[Gl.clsS_eq] at hc;split at hc
 ·simp at hc;subst hc;exact Nat.zero_le _
 ·split at hc
  ·simp at hc
  ·try rw[if_neg h8,if_neg h7] at hc
   simp at hc;subst hc;exact j_ _
theorem Gl.drC_nc {S:List (List UInt8×Int)} {n mode:Int} {g:Gl} (h:g.drC S n mode):∀c,c∈g.clsS->Gl.nc9 c<=2:=by
 obtain⟨h7,_,_,hl,hm,h9⟩:=h;rw[Gl.clsS_eq,if_neg (by omega),if_neg (by omega),if_neg (by omega),if_pos h7];intro c hc;have:=Gl.andS_nc g.goals [[]] 0 (fun x hx=>Gl.drA_nc (hm x hx)) (by simp[Gl.nc9]) c hc;omega
theorem Gl.drB_nc {S:List (List UInt8×Int)} {n mode:Int} {g:Gl} (h:g.drB S n mode):∀c,c∈g.clsS->Gl.nc9 c<=2:=by
 rcases h with h | ⟨h8,_,_,hl,hm⟩
 ·exact Gl.drC_nc h
 ·rw[Gl.clsS_eq,if_neg (by omega),if_neg (by omega),if_pos h8]
  exact Gl.orS_all (Q:=fun c=>Gl.nc9 c<=2) g.goals [] (fun x hx=>Gl.drC_nc (hm x hx)) (by simp)
def bh2 (s:List UInt8):Bool:=match aA3 s with
 | some T=>(match ppT T [] 0 [] with
  | some (rels,d)=>rels.all fun r=>r.body.clsS.all fun c=>decide (Gl.nc9 c<=2)
  | none=>false)
 | none=>false
theorem bZ5:bh2 bg9=true:=by kernel_rfl
theorem bZ4:bh2 bg8=true:=by kernel_rfl
theorem bZ3:bh2 bg7=true:=by kernel_rfl
theorem bZ2:bh2 bg6=true:=by kernel_rfl
theorem bt1 (k:Nat):bh2 (bz9 k)=true:=match k with
 | 0=>bZ5
 | 1=>bZ4
 | 2=>bZ3
 | _+3=>bZ2
theorem Pg.made_nc {m:Int} {p:Pg} (h:p.made m):∀r,r∈p.rels->∀c,c∈r.body.clsS->Gl.nc9 c<=2:=by
 rcases h with h | ⟨k,T,d,h1,h2,_⟩
 ·exact fun r hr=>Gl.drB_nc (h.2 r hr).2.2.2.2
 ·have h:=bt1 k
  unfold bh2 at h;rw[h1] at h;dsimp only at h;rw[h2] at h;exact fun r hr c hc=>of_decide_eq_true (c_.1 (c_.1 h r hr) c hc)
theorem bx8 (f:Int->V) (c:List Gl):(x9 f c).length=Gl.nc9 c:=by simp[x9,Gl.nc9]
theorem bp7 {u:List V} {x:Rl} {i:Int} {c:List Gl} {r:RV}:∀m k,r∈aK6 u x i c k m->∃w,V5 u c (E5 u (x.arity+x.locals).toNat w)=true/\r=aK8 x i c (E5 u (x.arity+x.locals).toNat w)
 | 0,k,h=>by simp[aK6] at h
 | m+1,k,h=>by
  rw[aY7] at h;rcases n_.1 h with h | h
  ·unfold rvK at h
   split at h
   ·rename_i hf
    simp at h;exact⟨k,hf,h⟩
   ·simp at h
  ·exact bp7 m (k+1) h
theorem bp8 {u:List V} {x:Rl} {n:Nat} {r:RV}:∀(cs:List (List Gl)) (i:Int),r∈ay7 u x n i cs->∃(j:Nat) (c:List Gl) (w:Nat),cs[j]? = some c/\V5 u c (E5 u (x.arity+x.locals).toNat w)=true/\r=aK8 x (i+j) c (E5 u (x.arity+x.locals).toNat w)
 | [],i,h=>by simp[ay7] at h
 | c :: cs,i,h=>by
  rw[aK7] at h;rcases n_.1 h with h | h
  ·obtain⟨w,h1,h2⟩:=bp7 _ _ h
   exact⟨0,c,w,rfl,h1,by simpa using h2⟩
  ·obtain⟨j,c',w,h1,h2,h3⟩:=bp8 cs (i+1) h
   exact⟨j+1,c',w,by simpa using h1,h2,by rw[h3,show i+1+(j:Int)=i+((j+1:Nat):Int) by omega]⟩
theorem bv4 {u:List V} {r:RV}:∀rels:List Rl,r∈Pg.gnd u rels->∃x,x∈rels/\∃(j:Nat) (c:List Gl) (w:Nat),x.body.clsS[j]? = some c/\V5 u c (E5 u (x.arity+x.locals).toNat w)=true/\r=aK8 x j c (E5 u (x.arity+x.locals).toNat w)
 | [],h=>by simp[Pg.gnd] at h
 | x :: q,h=>by
  rw[show Pg.gnd u (x :: q)=ay7 u x (x.ways u) 0 x.body.clsS++Pg.gnd u q from rfl] at h;rcases n_.1 h with h | h
  ·obtain⟨j,c,w,h1,h2,h3⟩:=bp8 _ _ h
   exact⟨x,by simp,j,c,w,h1,h2,by rw[h3,Int.zero_add]⟩
  ·obtain⟨y,h1,h2⟩:=bv4 q h
   exact⟨y,by simp[h1],h2⟩
theorem bJ6 {p:Pg}:∀{l:List Rl},p.okL l=true->∀j x,l[j]? = some x->p.relOk (p.rels.length - (l.length - j)) x=true
 | [],_,j,x,h=>by simp at h
 | r :: q,ho,0,x,h=>by
  simp only[Pg.okL,a_] at ho;simp at h;subst h;exact ho.1
 | r :: q,ho,j+1,x,h=>by
  simp only[Pg.okL,a_] at ho;have:=bJ6 ho.2 j x (by simpa using h);simpa using this
theorem bR0 {p:Pg} (hp:M9 p=true) {x:Rl} (hx:x∈p.rels):0<=p.find x.name/\p.rels[(p.find x.name).toNat]? = some x:=by
 obtain⟨i,h⟩:=y_ hx;unfold M9 at hp;rw[a_] at hp;have h1:=bJ6 hp.2 i x h;have hi:=(f_.1 h).1;rw[show p.rels.length - (p.rels.length - i)=i by omega] at h1;unfold Pg.relOk at h1;simp only[a_,decide_eq_true_eq] at h1;have e:p.find x.name=(i:Int):=h1.1.1.1.1.1.1.1;rw[e];exact⟨by omega,by simpa using h⟩
theorem FcV.eq_refl (a:FcV):a.eq a=true:=by unfold FcV.eq;exact decide_eq_true ((FcV.cmp_lin.zero a a).2 rfl)
theorem ao5:∀l:List FcV,am5 (l.map fun k=>(true,k)) l=true
 | []=>rfl
 | k :: l=>by simp only[e_,am5,FcV.eq_refl,ao5 l,t_]
theorem cn7 {v:V} (h:v.ok=true) (hg:v.vars=[]):v.tm.ground=true:=by
 unfold Tm.ground;rw[aR5 h,V.vars_tm,hg];rfl
theorem bJ4 {p:Pg} {u:List V} {rs:List RV} (hp:M9 p=true) (hu:Uni u) (hg:p.gr u=some rs) (hno:∀x,x∈p.rels->∀c,c∈x.body.clsS->∀g,g∈c->¬g.kind=10):∀(n:Nat) (f:FcV),f∈stg rs (top rs)->hN rs f<=n->p.prf (prT rs n f)=true/\p.headV (prT rs n f).rel (prT rs n f).values=f
 | 0,f,hf,h=>by obtain⟨j,_,h2,_⟩:=J7 hf;omega
 | n+1,f,hf,h=>by
  have hrs:rs=Pg.gnd u p.rels/\p.rels.all (Rl.gOk u)=true:=by
   unfold Pg.gr at hg;split at hg
   ·rename_i h1;exact⟨(Option.some.inj hg).symm,h1.1⟩
   ·cases hg
  obtain⟨r,r1,r2,r3,r4⟩:=Z6 hf;rw[hrs.1] at r2;obtain⟨x,hx,j,c,w,hc,hfi,hre⟩:=bv4 p.rels r2;obtain⟨d1,d2,d3,d4⟩:=Pg.dims hp hx;obtain⟨f0,f1⟩:=bR0 hp hx;have h64:=c_.1 hrs.2 x hx;unfold Rl.gOk at h64;rw[a_,decide_eq_true_eq] at h64;have hvl:=M0 u (x.arity+x.locals).toNat w;have hvm:=L9 hu.pos (x.arity+x.locals).toNat w;rw[prT,r1];dsimp only;have hk:∀k,k∈r.pos->p.prf (prT rs n k)=true/\p.headV (prT rs n k).rel (prT rs n k).values=k:=fun k hk=>by
   have a:=r4 k hk;exact bJ4 hp hu hg hno n k a.1 (by omega)
  subst hre;generalize hvs:E5 u (x.arity+x.locals).toNat w=vs at *;have e1:x.name=f.1:=congrArg Prod.fst r3;have e2:vs.take x.arity.toNat=f.2:=congrArg Prod.snd r3;have hVV:(vs.map V.tm).map Tm.V=vs:=by
   rw[x_];conv=>rhs;rw[<-List.map_id vs]
   exact w_ fun v hv=>(bX9 (hu.ok v (hvm v hv))).1
  rw[e1] at f0 f1;have hpos:(aK8 x j c vs).pos=x9 (o7 vs) c:=rfl;have hval:(aK8 x j c vs).values=vs:=rfl;have hcl:(aK8 x j c vs).clause=(j:Int):=rfl;unfold V5 at hfi;simp only[a_] at hfi;rw[hpos] at hk |-;rw[hval,hcl];have hns:z8 (o7 vs) c=[]:=by
   unfold z8;have:c.filter (fun g=>decide (g.kind=10))=[]:=List.filter_eq_nil_iff.2 fun g hgc=>by
    have:=hno x hx c (p_ hc) g hgc;simpa using this
   rw[this];rfl
  refine⟨?_,?_⟩
  ·rw[Pg.prf_eq]
   show p.prfAt f.1 (j:Int) (vs.map V.tm) (p.prfs ((x9 (o7 vs) c).map (prT rs n)))=true;have hks:p.prfs ((x9 (o7 vs) c).map (prT rs n))=(x9 (o7 vs) c).map fun k=>(true,k):=by
    rw[Pg.prfs_eq,x_];refine w_ fun k h=>?_;have:=hk k h;show (_,_)=_;rw[this.1,this.2]
   rw[Pg.prfAt_at f0 f1,hks];simp only[a_,decide_eq_true_eq];refine⟨by rw[o_,hvl];omega,c_.2 fun t ht=>?_,h64.1,by omega,?_⟩
   ·obtain⟨v,hv,rfl⟩:=i_.1 ht
    exact cn7 (hu.ok v (hvm v hv)) (hu.gr v (hvm v hv))
   ·rw[show ((j:Int)).toNat=j from rfl,hc]
    dsimp only;rw[hVV,ap3 _ _ _ (fun g hgc h10=>absurd h10 (hno x hx c (p_ hc) g hgc)),hfi.1.1,hns,o_,ao5];simp
  ·show p.headV f.1 (vs.map V.tm)=f
   unfold Pg.headV;rw[f1,hVV];show (f.1,vs.take x.arity.toNat)=f;rw[e2]
theorem br5 {rs:List RV} (h2:∀r,r∈rs->r.pos.length<=2):∀(n:Nat) (f:FcV),f∈stg rs (top rs)->hN rs f<=n->(prT rs n f).cnt+1<=2 ^ hN rs f
 | 0,f,hf,h=>by obtain⟨j,_,h2,_⟩:=J7 hf;omega
 | n+1,f,hf,h=>by
  obtain⟨r,r1,r2,r3,r4⟩:=Z6 hf;obtain⟨j,_,hj,_⟩:=J7 hf;rw[prT,r1];dsimp only;have key:∀l:List FcV,(∀k,k∈l->k∈r.pos)->Pf.cnts (l.map (prT rs n))+l.length<=l.length * 2 ^ j:=fun l=>by
   induction l with
   | nil=>intro _;simp[Pf.cnts]
   | cons k l ih =>
    intro hl;have a:=ih (fun x hx=>hl x (by simp[hx]));have b:=r4 k (hl k (by simp));have c:=br5 h2 n k b.1 (by omega);have d:2 ^ hN rs k<=2 ^ j:=V_ (by decide) (by omega);simp only[e_,Pf.cnts,b_,X_,Nat.one_mul];omega
  have a:=key r.pos (fun _ h=>h);have b:=h2 r r2;have d:1<=2 ^ j:=Nat.one_le_two_pow;rw[hj,Z_];simp only[Pf.cnt];rcases(show r.pos.length=0\/r.pos.length=1\/r.pos.length=2 by omega) with e | e | e<;>rw[e] at a<;>omega
theorem bN6 {p:Pg} {u:List V} {rs:List RV} (hp:M9 p=true) (hu:Uni u) (hg:p.gr u=some rs) (hno:∀x,x∈p.rels->∀c,c∈x.body.clsS->∀g,g∈c->¬g.kind=10) (hv:∀r,r∈rs->r.head.1.length<=12/\r.values.length<=12/\∀v,v∈r.values->v∈u) {f:FcV} (hf:f∈stg rs (top rs)):((prF rs f).hei:Int)=hgt rs f/\p.prf (prF rs f)=true/\p.headV (prF rs f).rel (prF rs f).values=f/\(prF rs f).inU u:=by
 obtain⟨j,h1,h2,h3,h4,h5⟩:=J7 hf;obtain⟨a,b⟩:=br4 hv (top rs) f hf (by omega);obtain⟨c,d⟩:=bJ4 hp hu hg hno (top rs) f hf (by omega);have e:=br2 hu hg (prT rs (top rs) f) c a;rw[d] at e;have g:=h5 _ e;unfold prF;exact⟨by rw[h1];omega,c,d,a⟩
end Go.Abs
