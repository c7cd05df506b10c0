import Derived.Test.YtmfkcdelddmfpaaGreatJ13
import Derived.Shelf.Small.Bits
import Derived.Shelf.Small.Wraps
import Derived.Shelf.Strconv.Itoa0
import Derived.Shelf.Sort.Plain
import Derived.Ground.GgsProg
import Derived.Shelf.GgSortFunc.Insertion
import Derived.Shelf.GgSortFunc.Tiny
import Derived.Shelf.GgSortFunc.Compose
import Derived.Ground.GgtProg
import Derived.Shelf.GgSortMore.Stable
import Derived.Ground.Names2Prog
import Derived.Shelf.Slices.SearchI
import Derived.Shelf.Slices.In.SortNone
import Derived.Shelf.Slices.In.SortNone2
import Derived.Test.YtmfkcdelddmfpaaGreatProg
open List renaming length_cons->a_,all_cons->b_,length_append->c_,all_nil->d_,getElem?_eq_some_iff->e_,mem_of_getElem?->f_,length_nil->g_,getElem?_eq_getElem->h_,append_assoc->j_,mem_append->l_,drop_eq_getElem_cons->n_,length_map->o_,foldl_append->p_,drop_eq_nil_of_le->r_,map_nil->s_,length_drop->t_,all_eq_true->u_,eq_nil_of_length_eq_zero->w_,getD_eq_getElem?_getD->x_,foldl_nil->y_,getElem?_eq_none_iff->A_,getElem?_map->B_,getElem?_eq_none->D_,mem_of_mem_take->F_,mem_of_mem_drop->G_,map_cons->H_,findIdx_cons->J_,mem_map->N_
open Bool renaming and_eq_true->i_,true_and->v_,not_eq_true->C_,and_eq_false_iff->E_,and_true->I_,and_false->K_,false_or->M_
open Nat renaming lt_succ_iff_lt_or_eq->k_,le_refl->m_,zero_le->q_
open Int renaming tdiv_eq_ediv_of_nonneg->z_,tmod_eq_emod_of_nonneg->L_
namespace Go.Proofs.YtmfkcdelddmfpaaGreat
open Go.Abs
set_option maxRecDepth 100000
set_option maxHeartbeats 4000000
set_option linter.unusedSimpArgs false
set_option linter.unusedVariables false
theorem E9 (a lo hi:Int):Gives Tryz.prog 73 [.int .i64 a,.int .i64 lo,.int .i64 hi] (.d (.bool (decide (lo<=a) && decide (a<=hi)))):=by
 refine aE_ Tryz.func73 ?_;refine rS_ Tryz.func73 ?_;simp only [go_sem,seval]
 repeat' (first
  | ((refine C9 (fun hq=>?_) (fun hq=>?_))<;>(try simp only [go_sem,seval,hq]))
  | fail)
 all_goals (simp_all;try omega)
theorem aR6 (s:List UInt8) (i:Nat):0<=((s[i]?.getD 0).toNat:Int)/\((s[i]?.getD 0).toNat:Int)<=255:=by
 have:=UInt8.toNat_lt (s[i]?.getD 0);omega
theorem ac0 (s:List UInt8) (hm:s.length<=9000000):Gives Tryz.prog 119 [.str s] (.d (.bool (F9 s))):=by
 refine aE_ Tryz.func119 ?_;refine rS_ Tryz.func119 ?_;simp only [go_sem,seval];refine AW.lp [0] (fun i:Nat=>[(3,.d (.int .i64 i))]) (fun H _=>H) (fun i=>i<=s.length/\∀j,j<i->aM0 s j=true) (fun i=>s.length - i) 0 ⟨by omega,by omega⟩ H6 ?_;rintro i ⟨hi,hall⟩ hnext;by_cases h:i<s.length
 ·have hlt:(i:Int)<(s.length:Int):=by omega
  have next:aM0 s i=true->∀j,j<i+1->aM0 s j=true:=fun h j hj=>by
   rcases k_.1 hj with h' | rfl
   ·exact hall j h'
   ·exact h
  have bad:=am2 h;obtain ⟨b,hb⟩:∃b:Int,((s[i]?.getD 0).toNat:Int)=b:=⟨_,rfl⟩;have hb0:=aR6 s i;have hok:aM0 s i=((decide (97<=b) && decide (b<=122)) || (i != 0 && (b == 45 || (decide (48<=b) && decide (b<=57))))):=by unfold aM0 ao8;rw [hb]
  rw [hb] at hb0;rw [hok] at next bad
  refine rS_ Tryz.func119 ?_;simp only [go_sem,seval,hlt,hb]
  repeat' (first
   | ((refine C9 (fun hq=>?_) (fun hq=>?_))<;>(try simp only [go_sem,seval,hlt,hb,hq]))
   | (simp (disch:=omega) only [l6])
   | (refine hnext (i+1) _ ⟨by omega,next (by simp;omega)⟩ (by omega) H6)
   | ((refine (E9 _ _ _).calls rfl ?_)<;>(try simp only [go_sem,seval,hlt,hb]))
   | fail)
  all_goals (rw [bad (by simp;omega)])
 ·obtain rfl:i=s.length:=by omega
  refine rS_ Tryz.func119 ?_;simp only [go_sem,seval]
  repeat' (first
   | ((refine (E9 _ _ _).calls rfl ?_)<;>(try simp only [go_sem,seval]))
   | fail)
  all_goals (rw [aB8 hall];congr 3<;>simp<;>omega)
theorem aC0 (s:List UInt8) (hm:s.length<=9000000):Gives Tryz.prog 100 [.str s] (.d (.bool (F9 s))):=by
 obtain ⟨b0,hb0⟩:∃b:Int,((s[0]?.getD 0).toNat:Int)=b:=⟨_,rfl⟩;have h0b:=aR6 s 0;have hok0:aM0 s 0=(decide (97<=b0) && decide (b0<=122)):=by unfold aM0 ao8;rw [hb0];simp
 rw [hb0] at h0b;have bad0:=fun h:0<s.length=>am2 h;have badl:¬(1<=s.length/\s.length<=12)->F9 s=false:=fun h=>by
  cases hn:F9 s with
  | false=>rfl
  | true=>exact absurd (ac8 hn) h
 refine aE_ Tryz.func100 ?_;refine rS_ Tryz.func100 ?_;simp only [go_sem,seval]
 repeat' (first
  | ((refine C9 (fun hq=>?_) (fun hq=>?_))<;>(try simp only [go_sem,seval,hb0,hq]))
  | ((refine ⟨sd,?_⟩)<;>(try simp only [go_sem,seval,hb0]))
  | fail)
 all_goals try (rw [badl (by omega)];done)
 all_goals try (rw [bad0 (by omega) (by rw [hok0];simp;omega)];done)
 have st:∀j,j<1->aM0 s j=true:=fun j hj=>by
  obtain rfl:j=0:=by omega
  rw [hok0];simp;omega
 refine AW.lp [0] (fun i:Nat=>[(3,.d (.int .i64 i))]) (fun H _=>H) (fun i=>1<=i/\i<=s.length/\∀j,j<i->aM0 s j=true) (fun i=>s.length - i) 1 ⟨by omega,by omega,st⟩ H6 ?_;rintro i ⟨hi1,hi,hall⟩ hnext;by_cases h:i<s.length
 ·have hlt:(i:Int)<(s.length:Int):=by omega
  have next:aM0 s i=true->∀j,j<i+1->aM0 s j=true:=fun h j hj=>by
   rcases k_.1 hj with h' | rfl
   ·exact hall j h'
   ·exact h
  have bad:=am2 h;obtain ⟨b,hb⟩:∃b:Int,((s[i]?.getD 0).toNat:Int)=b:=⟨_,rfl⟩;have hb0:=aR6 s i;have hok:aM0 s i=((decide (97<=b) && decide (b<=122)) || (i != 0 && (b == 45 || (decide (48<=b) && decide (b<=57))))):=by unfold aM0 ao8;rw [hb]
  rw [hb] at hb0;rw [hok] at next bad
  refine rS_ Tryz.func100 ?_;simp only [go_sem,seval,hlt,hb]
  repeat' (first
   | ((refine C9 (fun hq=>?_) (fun hq=>?_))<;>(try simp only [go_sem,seval,hlt,hb,hq]))
   | (simp (disch:=omega) only [l6])
   | (refine hnext (i+1) _ ⟨by omega,by omega,next (by simp;omega)⟩ (by omega) H6)
   | fail)
  all_goals (rw [bad (by simp;omega)])
 ·obtain rfl:i=s.length:=by omega
  refine rS_ Tryz.func100 ?_;simp only [go_sem,seval];rw [aB8 hall];congr 2;simp;omega
theorem bf2:∀(t:Tm) (room:Int),wtL t.enc<=9000000->-10000000<=room->room<=10000000->Gives Tryz.prog 146 [.agg t.enc,.int .i64 room] (.d (.int .i64 (nodes t room))):=by
 intro t;induction t using Tm.ind' with
 | h t ih =>
  intro room hw h0 h1;have hn:=bp6 t;have lf:=aT2 t (room:=room);have bd:=bf1 t (room:=room);have nl:=nodes_lt (t:=t) (room:=room);by_cases h2:t.args.length=2
  ·obtain ⟨a,b,hab⟩:∃a b,t.args=[a,b]:=by
    match h:t.args,h2 with
    | [a,b],_=>exact ⟨a,b,rfl⟩
   have ia:=ih a (by simp [hab]);have ib:=ih b (by simp [hab]);have wa:=ak6 (t:=t) (x:=a) (by simp [hab]);have wb:=ak6 (t:=t) (x:=b) (by simp [hab]);have kds:=aT3 t a b hab (room:=room);have ga:=nodes_ge (t:=a) (room:=room - 1);have gb:=nodes_ge (t:=b) (room:=room - 1 - nodes a (room - 1));generalize nodes t room=N at lf bd kds nl |-;refine aE_ Tryz.func146 ?_;refine rS_ Tryz.func146 ?_;simp only [go_sem,seval]
   repeat' (first
    | ((refine C9 (fun hq=>?_) (fun hq=>?_))<;>(try simp only [go_sem,seval,hab,hq]))
    | (simp (disch:=omega) only [l6])
    | ((first
     | (refine (ia _ (by omega) (by omega) (by omega)).calls rfl ?_)
     | (refine (ib _ (by omega) (by omega) (by omega)).calls rfl ?_))<;>(try simp only [go_sem,seval,hab]))
    | fail)
   all_goals clear ia ib
   all_goals try clear ih
   all_goals try clear hnext
   all_goals first
    | (simp_all;done)
    | (simp_all;omega)
    | (simp_all;split<;>simp_all<;>omega)
    | (exfalso;omega)
    | assumption
  ·generalize nodes t room=N at lf bd nl |-
   refine aE_ Tryz.func146 ?_;refine rS_ Tryz.func146 ?_;simp only [go_sem,seval]
   repeat' (first
    | ((first | (refine C9 (fun hq=>?_) (fun hq=>?_)) | (refine y7 (fun x hx=>have hq:=hx;?_)))<;>(try simp only [go_sem,seval,hq]))
    | (simp (disch:=omega) only [l6])
    | ((refine (aC0 _ sd).calls rfl ?_)<;>(try simp only [go_sem,seval]))
    | fail)
   all_goals try clear ih
   all_goals try clear hnext
   all_goals first
    | (simp_all;done)
    | (simp_all;omega)
    | (simp_all;split<;>simp_all<;>omega)
    | (exfalso;omega)
    | assumption
theorem am3 (t:Tm) (hw:wtL t.enc<=9000000):Gives Tryz.prog 105 [.agg t.enc] (.d (.bool (Q5 t))):=by
 refine aE_ Tryz.func105 ?_;refine rS_ Tryz.func105 ?_;simp only [go_sem,seval]
 repeat' (first
  | ((refine (bf2 _ _ sd sd sd).calls rfl ?_)<;>(try simp only [go_sem,seval]))
  | fail)
 all_goals (rw [bA4])
theorem af7 (l:List Tm) (hl:∀t,t∈l->wtL t.enc<=9000000):Gives Tryz.prog 101 [.sl (l.map Tm.enc)] (.d (.bool (l.all Q5))):=by
 refine aE_ Tryz.func101 ?_;refine rS_ Tryz.func101 ?_;simp only [go_sem,seval];refine AW.rng l [5,6] 7 5 (fun _:Unit=>[]) (fun H _=>H) (fun r _=>r.all Q5=l.all Q5) () rfl (by simp) rfl H6 (fun i x r acc hxi hdr hlt hm hinv hnext=>?_) (fun acc hinv=>?_)
 ·have hw:=hl x (f_ hxi)
  refine rS_ Tryz.func101 ?_;simp only [go_sem,seval,hlt,d9 hxi]
  repeat' (first
   | ((refine C9 (fun hq=>?_) (fun hq=>?_))<;>(try simp only [go_sem,seval,hq]))
   | (simp (disch:=omega) only [l6])
   | (refine hnext () _ ?_ H6)
   | ((refine (am3 _ sd).calls rfl ?_)<;>(try simp only [go_sem,seval]))
   | fail)
  all_goals (simp_all;done)
 ·refine rS_ Tryz.func101 ?_
  simp only [go_sem,seval];simp_all
theorem aU4:∀(t:Tm) (most:Int),wtL t.enc<=9000000->-10000000<=most->most<=10000000->Gives Tryz.prog 161 [.agg t.enc,.int .i64 most] (.d (.int .i64 (countF t most))):=by
 intro t;induction t using Tm.ind with
 | h k i nm ks ih =>
  intro most hw h0 h1;have hwk:=fun x (hx:x∈ks)=>ak6 (t:=.mk k i nm ks) (x:=x) hx;have e4:(Tm.mk k i nm ks).args=ks:=rfl;have hc:=cnt_le_wt (.mk k i nm ks);simp only [Tm.cnt] at hc;refine aE_ Tryz.func161 ?_;refine rS_ Tryz.func161 ?_;simp only [go_sem,seval];simp only [go_sem,seval,e4];refine AW.rng ks [1,9,10] 11 9 (fun n:Int=>[(5,.d (.int .i64 n))]) (fun H _=>H) (fun r n=>1<=n/\n+Tm.cnts r<=1+Tm.cnts ks/\countL r most n=countF (.mk k i nm ks) most) 1 rfl (by simp) ⟨by omega,by omega,rfl⟩ H6 (fun i x r acc hxi hdr hlt hm hinv hnext=>?_) (fun acc hinv=>?_)
  ·have hx:=f_ hxi
   have ihx:=ih x hx;have hwx:=hwk x hx;have hcs:=count_spec x (most - acc);obtain ⟨v1,v2,v3⟩:=hinv;simp only [countL,Tm.cnts] at v2 v3;refine rS_ Tryz.func161 ?_;simp only [go_sem,seval,hlt,d9 hxi]
   repeat' (first
    | ((refine C9 (fun hq=>?_) (fun hq=>?_))<;>(try simp only [go_sem,seval,hq]))
    | (simp (disch:=omega) only [l6])
    | (refine hnext (acc+countF x (most - acc)) _ ⟨by omega,by omega,?_⟩ H6)
    | ((refine (ihx _ (by omega) (by omega) (by omega)).calls rfl ?_)<;>(try simp only [go_sem,seval]))
    | fail)
   all_goals clear hnext ihx ih
   ·rw [if_pos (by omega)] at v3;rw [v3]
   ·rw [if_neg (by omega)] at v3;exact v3
  ·refine rS_ Tryz.func161 ?_
   simp only [go_sem,seval];simp_all [countL]
theorem af5:∀(t:Tm),wtL t.enc<=9000000->Gives Tryz.prog 162 [.agg t.enc] (.d (.bool (t.v?.isSome))):=by
 intro t;induction t using Tm.ind' with
 | h t ih =>
  intro hw;have hn:=bp6 t;have bd:=bn5 t;have lf:=bd7 t;have pr:=bd6 t;by_cases h2:t.args.length=2
  ·obtain ⟨a,b,hab⟩:∃a b,t.args=[a,b]:=by
    match h:t.args,h2 with
    | [a,b],_=>exact ⟨a,b,rfl⟩
   have ia:=ih a (by simp [hab]);have ib:=ih b (by simp [hab]);have wa:=ak6 (t:=t) (x:=a) (by simp [hab]);have wb:=ak6 (t:=t) (x:=b) (by simp [hab]);generalize t.v?.isSome=N at bd lf pr |-;refine aE_ Tryz.func162 ?_;refine rS_ Tryz.func162 ?_;simp only [go_sem,seval]
   repeat' (first
    | ((refine C9 (fun hq=>?_) (fun hq=>?_))<;>(try simp only [go_sem,seval,hab,hq]))
    | ((first
     | (refine (ia (by omega)).calls rfl ?_)
     | (refine (ib (by omega)).calls rfl ?_))<;>(try simp only [go_sem,seval,hab]))
    | fail)
   all_goals clear ia ib
   all_goals try clear ih
   all_goals try clear hnext
   all_goals first
    | (simp_all;done)
    | (simp_all;omega)
    | (simp_all;split<;>simp_all<;>omega)
    | (exfalso;omega)
    | assumption
  ·generalize t.v?.isSome=N at bd lf pr |-
   refine aE_ Tryz.func162 ?_;refine rS_ Tryz.func162 ?_;simp only [go_sem,seval]
   repeat' (first
    | ((first | (refine C9 (fun hq=>?_) (fun hq=>?_)) | (refine y7 (fun x hx=>have hq:=hx;?_)))<;>(try simp only [go_sem,seval,hq]))
    | ((first
     | (refine (E9 _ _ _).calls rfl ?_)
     | (refine (ac0 _ sd).calls rfl ?_))<;>(try simp only [go_sem,seval]))
    | fail)
   all_goals try clear ih
   all_goals try clear hnext
   all_goals first
    | (simp_all;done)
    | (simp_all;omega)
    | (simp_all;split<;>simp_all<;>omega)
    | (exfalso;omega)
    | assumption
theorem al4 (t:Tm) (hw:wtL t.enc<=9000000):Gives Tryz.prog 134 [.agg t.enc] (.d (.bool (Q5 t))):=by
 have hc:=count_ok t;generalize Q5 t=N at hc |-;refine aE_ Tryz.func134 ?_;refine rS_ Tryz.func134 ?_;simp only [go_sem,seval]
 repeat' (first
  | ((refine C9 (fun hq=>?_) (fun hq=>?_))<;>(try simp only [go_sem,seval,hq]))
  | ((first
   | (refine (aU4 _ _ sd sd sd).calls rfl ?_)
   | (refine (af5 _ sd).calls rfl ?_))<;>(try simp only [go_sem,seval]))
  | fail)
 all_goals first
  | (rw [<-hc,decide_eq_false (by omega)];rfl)
  | (simp_all;done)
theorem au9 (l:List Tm) (hl:∀t,t∈l->wtL t.enc<=9000000):Gives Tryz.prog 175 [.sl (l.map Tm.enc)] (.d (.bool (l.all Q5))):=by
 refine aE_ Tryz.func175 ?_;refine rS_ Tryz.func175 ?_;simp only [go_sem,seval];refine AW.rng l [5,6] 7 5 (fun _:Unit=>[]) (fun H _=>H) (fun r _=>r.all Q5=l.all Q5) () rfl (by simp) rfl H6 (fun i x r acc hxi hdr hlt hm hinv hnext=>?_) (fun acc hinv=>?_)
 ·have hw:=hl x (f_ hxi)
  refine rS_ Tryz.func175 ?_;simp only [go_sem,seval,hlt,d9 hxi]
  repeat' (first
   | ((refine C9 (fun hq=>?_) (fun hq=>?_))<;>(try simp only [go_sem,seval,hq]))
   | (simp (disch:=omega) only [l6])
   | (refine hnext () _ ?_ H6)
   | ((refine (al4 _ sd).calls rfl ?_)<;>(try simp only [go_sem,seval]))
   | fail)
  all_goals try clear ih
  all_goals try clear hnext
  all_goals first
   | (simp_all;done)
   | (simp_all;omega)
   | (simp_all;split<;>simp_all<;>omega)
   | (exfalso;omega)
   | assumption
 ·refine rS_ Tryz.func175 ?_
  simp only [go_sem,seval];simp_all
theorem ac7 (b:Bool):Gives Tryz.prog 127 [.bool b] (.d (.int .i64 (if b then -1 else 1))):=by
 refine aE_ Tryz.func127 ?_;refine rS_ Tryz.func127 ?_;simp only [go_sem,seval]
 repeat' (first
  | ((refine C9 (fun hq=>?_) (fun hq=>?_))<;>(try simp only [go_sem,seval,hq]))
  | fail)
 all_goals try clear ih
 all_goals try clear hnext
 all_goals first
  | (simp_all;done)
  | (simp_all;omega)
  | (simp_all;split<;>simp_all<;>omega)
  | (exfalso;omega)
  | assumption
theorem an4 (a b:Int):Gives Tryz.prog 148 [.int .i64 a,.int .i64 b] (.d (.int .i64 (F8 a b))):=by
 refine aE_ Tryz.func148 ?_;refine rS_ Tryz.func148 ?_;simp only [go_sem,seval]
 repeat' (first
  | ((refine C9 (fun hq=>?_) (fun hq=>?_))<;>(try simp only [go_sem,seval,hq]))
  | fail)
 all_goals try clear ih
 all_goals try clear hnext
 all_goals first
  | (simp_all [F8];done)
  | (simp_all [F8];omega)
  | (simp_all [F8];split<;>simp_all<;>omega)
  | (exfalso;omega)
  | assumption
theorem O9:∀(m:Nat) (a b:V),a.size<=m->Gives Tryz.prog 112 [.agg a.enc,.agg b.enc] (.d (.int .i64 (a.cmp b))):=by
 intro m;induction m with
 | zero=>intro a b h;have:=a.size_pos;omega
 | succ m ih =>
  intro a b hm;by_cases h:(∃x y,a=.pair x y)/\(∃x y,b=.pair x y)
  ·obtain ⟨⟨a1,a2,rfl⟩,b1,b2,rfl⟩:=h
   have:=a1.size_pos;have:=a2.size_pos;have hc:=V.cmp_pair a1 a2 b1 b2;have hab:∀x y:V,(V.pair x y).kids=[x,y]/\(V.pair x y).kind=4/\(V.pair x y).int=0/\(V.pair x y).name=[]:=fun _ _=>⟨rfl,rfl,rfl,rfl⟩;simp only [V.size] at hm;generalize V.cmp (.pair a1 a2) (.pair b1 b2)=N at hc |-;refine aE_ Tryz.func112 ?_;refine rS_ Tryz.func112 ?_;simp only [go_sem,seval];simp only [go_sem,seval,hab]
   repeat' (first
    | ((refine C9 (fun hq=>?_) (fun hq=>?_))<;>(try simp only [go_sem,seval,hab,hq]))
    | ((first
     | (refine (ih a1 b1 (by omega)).callQ rfl ?_)
     | (refine (ih a2 b2 (by omega)).callQ rfl ?_))<;>(try simp only [go_sem,seval,hab]))
    | fail)
   all_goals try clear ih
   all_goals try clear hnext
   all_goals first
    | (simp_all;done)
    | (simp_all;omega)
    | (simp_all;split<;>simp_all<;>omega)
    | (exfalso;omega)
    | assumption
  ·have hk:a.kind≠4\/b.kind≠4:=by
    rcases a.pair_or with ha | ⟨ha,_⟩
    ·rcases b.pair_or with hb | ⟨hb,_⟩
     ·exact absurd ⟨ha,hb⟩ h
     ·exact .inr hb
    ·exact .inl ha
   have hc:=V.cmp_else hk;generalize V.cmp a b=N at hc |-;clear ih h hm;refine aE_ Tryz.func112 ?_;refine rS_ Tryz.func112 ?_;simp only [go_sem,seval]
   repeat' (first
    | ((first | (refine C9 (fun hq=>?_) (fun hq=>?_)) | (refine y7 (fun x hx=>have hq:=hx;?_)))<;>(try simp only [go_sem,seval,hq]))
    | ((first
     | (refine (an4 _ _).calls rfl ?_)
     | (refine ⟨sd,?_⟩))<;>(try simp only [go_sem,seval]))
    | fail)
   all_goals first
    | (exfalso;omega)
    | (simp_all [F8];done)
    | (simp_all [F8];omega)
    | (simp_all [F8];split<;>simp_all<;>omega)
theorem X6:∀(m:Nat) (a b:V),a.size<=m->Gives Tryz.prog 83 [.agg a.enc,.agg b.enc] (.d (.int .i64 (a.cmp b))):=by
 intro m;induction m with
 | zero=>intro a b h;have:=a.size_pos;omega
 | succ m ih =>
  intro a b hm;by_cases h:(∃x y,a=.pair x y)/\(∃x y,b=.pair x y)
  ·obtain ⟨⟨a1,a2,rfl⟩,b1,b2,rfl⟩:=h
   have:=a1.size_pos;have:=a2.size_pos;have hc:=V.cmp_pair a1 a2 b1 b2;have hab:∀x y:V,(V.pair x y).kids=[x,y]/\(V.pair x y).kind=4/\(V.pair x y).int=0/\(V.pair x y).name=[]:=fun _ _=>⟨rfl,rfl,rfl,rfl⟩;simp only [V.size] at hm;generalize V.cmp (.pair a1 a2) (.pair b1 b2)=N at hc |-;refine aE_ Tryz.func83 ?_;refine rS_ Tryz.func83 ?_;simp only [go_sem,seval];simp only [go_sem,seval,hab]
   repeat' (first
    | ((refine C9 (fun hq=>?_) (fun hq=>?_))<;>(try simp only [go_sem,seval,hab,hq]))
    | (simp (disch:=omega) only [l6])
    | ((first
     | (refine AW.loop ?_<;>(refine rS_ Tryz.func83 ?_))
     | (refine AW.round ?_<;>(refine rS_ Tryz.func83 ?_))
     | (refine (ih a1 b1 (by omega)).callQ rfl ?_)
     | (refine (ih a2 b2 (by omega)).callQ rfl ?_))<;>(try simp only [go_sem,seval,hab]))
    | fail)
   all_goals try clear ih
   all_goals try clear hnext
   all_goals first
    | (simp_all;done)
    | (simp_all;omega)
    | (simp_all;split<;>simp_all<;>omega)
    | (exfalso;omega)
    | assumption
  ·have hk:(a.kind≠4/\a.kids=[])\/(b.kind≠4/\b.kids=[]):=by
    rcases a.pair_or with ha | ha
    ·rcases b.pair_or with hb | hb
     ·exact absurd ⟨ha,hb⟩ h
     ·exact .inr hb
    ·exact .inl ha
   have hc:=V.cmp_else (a:=a) (b:=b) (by rcases hk with h | h;exact .inl h.1;exact .inr h.1);generalize V.cmp a b=N at hc |-;clear ih h hm;rcases hk with ⟨hk,hk'⟩ | ⟨hk,hk'⟩
   ·refine aE_ Tryz.func83 ?_
    refine rS_ Tryz.func83 ?_;simp only [go_sem,seval]
    repeat' (first
     | ((refine C9 (fun hq=>?_) (fun hq=>?_))<;>(try simp only [go_sem,seval,hk',hq]))
     | ((first
      | (refine AW.loop ?_<;>(refine rS_ Tryz.func83 ?_))
      | (refine (ac7 _).calls rfl ?_))<;>(try simp only [go_sem,seval,hk']))
     | fail)
    all_goals try clear ih
    all_goals try clear hnext
    all_goals first
     | (simp_all;done)
     | (simp_all;omega)
     | (simp_all;split<;>simp_all<;>omega)
     | (exfalso;omega)
     | assumption
   ·refine aE_ Tryz.func83 ?_
    refine rS_ Tryz.func83 ?_;simp only [go_sem,seval]
    repeat' (first
     | ((refine C9 (fun hq=>?_) (fun hq=>?_))<;>(try simp only [go_sem,seval,hk',hq]))
     | ((first
      | (refine AW.loop ?_<;>(refine rS_ Tryz.func83 ?_))
      | (refine (ac7 _).calls rfl ?_))<;>(try simp only [go_sem,seval,hk']))
     | fail)
    all_goals try clear ih
    all_goals try clear hnext
    all_goals first
     | (simp_all;done)
     | (simp_all;omega)
     | (simp_all;split<;>simp_all<;>omega)
     | (exfalso;omega)
     | assumption
theorem M5 (b:Int):Gives Tryz.prog 72 [.int .u8 b] (.d (.bool (brI b))):=by
 unfold brI;refine aE_ Tryz.func72 ?_;refine rS_ Tryz.func72 ?_;simp only [go_sem,seval]
 repeat' (first
  | ((refine C9 (fun hq=>?_) (fun hq=>?_))<;>(try simp only [go_sem,seval,hq]))
  | fail)
 all_goals (simp_all;try omega)
theorem bw9 {i:Nat} {s:List UInt8} (hs:s.length<=100000) (hi:i<s.length):IntKind.i64.wrap ((i:Int)+1)=((i+1:Nat):Int):=by simp (disch:=omega) only [l6];omega
theorem bI8 {s:List UInt8} (h0:s.length<=100000) (h:s.all okB=true):aD9 s=if (toks s).length<=20000 then some (toks s) else none:=by
 unfold aD9;simp [h0,h]
theorem be0 (s:List UInt8) (hm:s.length<=1048576):Gives Tryz.prog 40 [.str s] (tkC (aD9 s)):=by
 have hmx:maxLen=9223372036854775807:=rfl;have htl:=ah3 _ s (m_ _);by_cases h0:s.length<=100000
 ·have n0:¬(100000:Int)<(s.length:Int):=by omega
  refine aE_ Tryz.func40 ?_;refine rS_ Tryz.func40 ?_;simp only [go_sem,seval,n0];refine AW.adopt 4 1 9 (by decide) rfl ?_;refine AW.lp [0] (fun u:Nat×Nat×List (List UInt8)=>[(5,.d (.int .i64 u.1)),(4,.own 0 u.2.1)]) (fun _ u=>[.grow u.2.1 1 9 (Y1 u.2.2)]) (fun u=>u.1<=s.length/\u.2.2++toks (s.drop u.1)=toks s) (fun u=>s.length - u.1) (0,0,[]) ⟨q_ _,by simp⟩ (by refine ⟨by simp [mkS,Y1],by simp [mkS,Y1],by simp only [mkS,b_,d_,O.refsLt,C.refsLt,C.refsLt1,o5];first | done | rfl | (simp;done),?_⟩;simp [mkS,Abs.get,C.refsLtT,C.refsLt,C.refsLt1]) ?_;rintro ⟨i,q,L⟩ ⟨hi,hinv⟩ hnext;dsimp only at hi hinv hnext |-;have hLl:L.length<=100000:=by have:=congrArg List.length hinv;simp at this;omega
  by_cases h:i<s.length
  ·have hlt:(i:Int)<(s.length:Int):=by omega
   obtain ⟨c,hc,hb⟩:=byte_at h;have hw:=bw9 h0 h;have hnx:=fun k q' L' s'=>hnext (k,q',L') s';clear hnext;dsimp only at hnx;have hbr:=bu5 c;by_cases h59:(c.toNat:Int)=59
   ·have hc59:c=59:=(ap1 (n:=59) (by omega)).2 h59
    refine rS_ Tryz.func40 ?_;simp only [go_sem,seval,hlt,hb,h59,hw];refine AW.lp [0,4] (fun k:Nat=>[(6,.d (.int .i64 k))]) (fun H _=>H) (fun k=>i<k/\k<=s.length/\∀j,i<j->j<k->∀c,s[j]? = some c->bf3 c=true) (fun k=>s.length - k) (i+1) ⟨by omega,by omega,by omega⟩ A8 ?_;rintro k ⟨hik,hk,hall⟩ hnk;dsimp only at hik hk hall hnk |-;have hstep:(∀c,s[k]? = some c->bf3 c=false)->L++toks (s.drop k)=toks s:=fun he=>by
     rw [hc59] at hc;rw [<-hinv,bx6 hc (by omega) hk (fun j h1 h2 d hd=>by
      rcases Nat.lt_or_ge i j with h3 | h3
      ·exact hall j h3 h2 d hd
      ·have hj:j=i:=by omega
       rw [hj,hc] at hd;cases hd;rfl) he]
    by_cases hkl:k<s.length
    ·have hlk:(k:Int)<(s.length:Int):=by omega
     obtain ⟨c2,hc2,hb2⟩:=byte_at hkl;have hw2:=bw9 h0 hkl;by_cases h10:(c2.toNat:Int)=10
     ·refine rS_ Tryz.func40 ?_
      simp only [go_sem,seval,hlk,hb2,h10];refine hnx k q L _ ⟨hk,hstep (fun d hd=>by rw [hc2] at hd;cases hd;rw [bT2];simp [h10])⟩ (by omega) A8
     ·have hne:((c2.toNat:Int) != 10)=true:=by simp [h10]
      refine rS_ Tryz.func40 ?_;simp only [go_sem,seval,hlk,hb2,hne,hw2];refine hnk (k+1) _ ⟨by omega,by omega,fun j h1 h2 d hd=>?_⟩ (by omega) A8;rcases k_.1 h2 with h' | rfl
      ·exact hall j h1 h' d hd
      ·rw [hc2] at hd;cases hd;rw [bT2];simp [h10]
    ·obtain rfl:k=s.length:=by omega
     refine rS_ Tryz.func40 ?_;simp only [go_sem,seval];refine hnx s.length q L _ ⟨by omega,hstep (fun d hd=>by rw [D_ (m_ _)] at hd;cases hd)⟩ (by omega) A8
   ·by_cases hbk:bQ0 c=true
    ·by_cases hpar:(c.toNat:Int)=40\/(c.toNat:Int)=41
     ·have hcp:c=40\/c=41:=hpar.imp (fun h=>(ap1 (n:=40) (by omega)).2 h) (fun h=>(ap1 (n:=41) (by omega)).2 h)
      have ht:=bx5 hc hcp;rw [ht] at hinv;have h1:=bT0 hc;have hLl2:=congrArg List.length hinv;simp only [c_,a_] at hLl2;have hl1:=ah3 _ (s.drop (i+1)) (m_ _);rw [hbk] at hbr;have b40:brI 40=true:=rfl;have b41:brI 41=true:=rfl;rcases hpar with hp | hp
      ·refine rS_ Tryz.func40 ?_
       simp only [go_sem,seval,hlt,hb,h59,hw,hbr,hp,b40,b41]
       repeat' (first
        | ((first
         | (refine (M5 _).calls rfl ?_)
         | (refine ⟨sd,?_⟩))<;>(try simp only [go_sem,seval,hlt,hb,h59,hw,hbr,hp,b40,b41,h1,l9]))
        | fail)
       refine hnx (i+1) (q+1) (L++[[c]]) _ ⟨by omega,by rw [<-hinv];simp⟩ (by omega) (by refine ⟨by simp [mkS,y5,E8,h1],by simp [mkS,y5,E8,h1],by simp only [mkS,b_,d_,O.refsLt,C.refsLt,C.refsLt1,o5];first | done | rfl | (simp;done),?_⟩;simp [mkS,Abs.get,C.refsLtT,C.refsLt,C.refsLt1])
      ·refine rS_ Tryz.func40 ?_
       simp only [go_sem,seval,hlt,hb,h59,hw,hbr,hp,b40,b41]
       repeat' (first
        | ((first
         | (refine (M5 _).calls rfl ?_)
         | (refine ⟨sd,?_⟩))<;>(try simp only [go_sem,seval,hlt,hb,h59,hw,hbr,hp,b40,b41,h1,l9]))
        | fail)
       refine hnx (i+1) (q+1) (L++[[c]]) _ ⟨by omega,by rw [<-hinv];simp⟩ (by omega) (by refine ⟨by simp [mkS,y5,E8,h1],by simp [mkS,y5,E8,h1],by simp only [mkS,b_,d_,O.refsLt,C.refsLt,C.refsLt1,o5];first | done | rfl | (simp;done),?_⟩;simp [mkS,Abs.get,C.refsLtT,C.refsLt,C.refsLt1])
     ·have hsp:c=32\/c=10:=by
       rw [<-bu5] at hbk;unfold brI at hbk;simp only [Bool.or_eq_true,decide_eq_true_eq] at hbk;rcases hbk with (((h | h) | h) | h) | h
       ·exact .inl ((ap1 (n:=32) (by omega)).2 h)
       ·exact .inr ((ap1 (n:=10) (by omega)).2 h)
       ·exact absurd (.inl h) hpar
       ·exact absurd (.inr h) hpar
       ·exact absurd h h59
      have ht:=bI6 hc hsp;rw [ht] at hinv;have h40:¬(c.toNat:Int)=40:=fun h=>hpar (.inl h);have h41:¬(c.toNat:Int)=41:=fun h=>hpar (.inr h);rw [hbk] at hbr;refine rS_ Tryz.func40 ?_;simp only [go_sem,seval,hlt,hb,h59,hw,hbr,h40,h41]
      repeat' (first
       | ((refine (M5 _).calls rfl ?_)<;>(try simp only [go_sem,seval,hlt,hb,h59,hw,hbr,h40,h41]))
       | fail)
      refine hnx (i+1) q L _ ⟨by omega,hinv⟩ (by omega) A8
    ·rw [C_] at hbk
     rw [hbk] at hbr;refine rS_ Tryz.func40 ?_;simp only [go_sem,seval,hlt,hb,h59,hw,hbr]
     repeat' (first
      | ((refine (M5 _).calls rfl ?_)<;>(try simp only [go_sem,seval,hlt,hb,h59,hw,hbr]))
      | fail)
     refine AW.lp [0,4,5] (fun k:Nat=>[(6,.d (.int .i64 k))]) (fun H _=>H) (fun k=>i<k/\k<=s.length/\∀j,i<=j->j<k->∀c,s[j]? = some c->aG0 c=true) (fun k=>s.length - k) (i+1) ⟨by omega,by omega,fun j h1 h2 d hd=>by have hj:j=i:=(by omega);rw [hj,hc] at hd;cases hd;unfold aG0;rw [hbk];rfl⟩ A8 ?_;rintro k ⟨hik,hk,hall⟩ hnk;dsimp only at hik hk hall hnk |-;have hstep:(∀c,s[k]? = some c->aG0 c=false)->(L++[(s.take k).drop i])++toks (s.drop k)=toks s/\L.length+1<=100000:=fun he=>by
      rw [bl8 hc hbk hik hk hall he] at hinv;have:=congrArg List.length hinv;simp only [c_,a_] at this;exact ⟨by rw [<-hinv];simp,by omega⟩
     by_cases hkl:k<s.length
     ·have hlk:(k:Int)<(s.length:Int):=by omega
      obtain ⟨c2,hc2,hb2⟩:=byte_at hkl;have hw2:=bw9 h0 hkl;have hbr2:=bu5 c2;cases hk2:bQ0 c2 with
      | true =>
       rw [hk2] at hbr2;obtain ⟨hs1,hs2⟩:=hstep (fun d hd=>by rw [hc2] at hd;cases hd;unfold aG0;rw [hk2];rfl);refine rS_ Tryz.func40 ?_;simp only [go_sem,seval,hlk,hb2,hbr2]
       repeat' (first
        | ((first
         | (refine (M5 _).calls rfl ?_)
         | (refine ⟨sd,?_⟩))<;>(try simp only [go_sem,seval,hlk,hb2,hbr2,l9]))
        | fail)
       refine hnx k (q+1) (L++[(s.take k).drop i]) _ ⟨hk,hs1⟩ (by omega) (by refine ⟨by simp [mkS,y5,E8],by simp [mkS,y5,E8],by simp only [mkS,b_,d_,O.refsLt,C.refsLt,C.refsLt1,o5];first | done | rfl | (simp;done),?_⟩;simp [mkS,Abs.get,C.refsLtT,C.refsLt,C.refsLt1])
      | false =>
       rw [hk2] at hbr2;refine rS_ Tryz.func40 ?_;simp only [go_sem,seval,hlk,hb2,hbr2,hw2]
       repeat' (first
        | ((refine (M5 _).calls rfl ?_)<;>(try simp only [go_sem,seval,hlk,hb2,hbr2,hw2]))
        | fail)
       refine hnk (k+1) _ ⟨by omega,by omega,fun j h1 h2 d hd=>?_⟩ (by omega) A8;rcases k_.1 h2 with h' | rfl
       ·exact hall j h1 h' d hd
       ·rw [hc2] at hd;cases hd;unfold aG0;rw [hk2];rfl
     ·obtain rfl:k=s.length:=by omega
      obtain ⟨hs1,hs2⟩:=hstep (fun d hd=>by rw [D_ (m_ _)] at hd;cases hd);refine rS_ Tryz.func40 ?_;simp only [go_sem,seval]
      repeat' (first
       | ((refine ⟨sd,?_⟩)<;>(try simp only [go_sem,seval,l9]))
       | fail)
      refine hnx s.length (q+1) (L++[(s.take s.length).drop i]) _ ⟨by omega,hs1⟩ (by omega) (by refine ⟨by simp [mkS,y5,E8],by simp [mkS,y5,E8],by simp only [mkS,b_,d_,O.refsLt,C.refsLt,C.refsLt1,o5];first | done | rfl | (simp;done),?_⟩;simp [mkS,Abs.get,C.refsLtT,C.refsLt,C.refsLt1])
  ·obtain rfl:i=s.length:=by omega
   rw [bl9 (m_ _),List.append_nil] at hinv;refine rS_ Tryz.func40 ?_;simp only [go_sem,seval];refine AW.lp [0,4] (fun k:Nat=>[(7,.d (.int .i64 k))]) (fun H _=>H) (fun k=>k<=s.length/\∀j,j<k->∀c,s[j]? = some c->okB c=true) (fun k=>s.length - k) 0 ⟨q_ _,by omega⟩ (by refine ⟨by simp [mkS,Y1],by simp [mkS,Y1],by simp only [mkS,b_,d_,O.refsLt,C.refsLt,C.refsLt1,o5];first | done | rfl | (simp;done),?_⟩;simp [mkS,Abs.get,C.refsLtT,C.refsLt,C.refsLt1]) ?_;rintro k ⟨hk,hall⟩ hnk;dsimp only at hk hall hnk |-;by_cases hkl:k<s.length
   ·have hlt:(k:Int)<(s.length:Int):=by omega
    obtain ⟨c,hc,hb⟩:=byte_at hkl;have hw:=bw9 h0 hkl;have hnx:=fun (ho:okB c=true) s'=>hnk (k+1) s' ⟨by omega,fun j hj d hd=>by
     rcases k_.1 hj with h' | rfl
     ·exact hall j h' d hd
     ·rw [hc] at hd;cases hd;exact ho⟩ (by omega)
    clear hnk;have hok:=ch4 (c:=c);have hbad:okB c=false->aD9 s=none:=fun h=>by unfold aD9;rw [if_neg];rintro ⟨_,h2,_⟩;rw [bO2 hc h] at h2;cases h2
    rw [hok] at hbad hnx;obtain ⟨b,hbb⟩:∃b:Int,(c.toNat:Int)=b:=⟨_,rfl⟩;have hb0:0<=b/\b<=255:=by have:=UInt8.toNat_lt c;omega
    rw [hbb] at hb hbad hnx;clear hok hc hbb hall;refine rS_ Tryz.func40 ?_;simp only [go_sem,seval,hlt,hb]
    repeat' (first
     | ((refine C9 (fun hq=>?_) (fun hq=>?_))<;>(try simp only [go_sem,seval,hlt,hb,hw,hq]))
     | (simp (disch:=omega) only [l6])
     | (refine hnx (by simp;omega) _ A8)
     | ((refine (E9 _ _ _).calls rfl ?_)<;>(try simp only [go_sem,seval,hlt,hb,hw]))
     | fail)
    all_goals (rw [hbad (by simp;omega)];rfl)
   ·obtain rfl:k=s.length:=by omega
    have hok:=bO4 hall;clear hall hnk;have hT:=bI8 h0 hok;by_cases hT2:(toks s).length<=20000
    ·have n2:¬(20000:Int)<(L.length:Int):=by rw [hinv];omega
     rw [hT,if_pos hT2,<-hinv];refine rS_ Tryz.func40 ?_;simp only [go_sem,seval,n2,l9];all_goals rfl
    ·have n2:(20000:Int)<(L.length:Int):=by rw [hinv];omega
     rw [hT,if_neg hT2];refine rS_ Tryz.func40 ?_;simp only [go_sem,seval,n2,l9];all_goals rfl
 ·have n0:(100000:Int)<(s.length:Int):=by omega
  rw [show aD9 s=none from by unfold aD9;rw [if_neg];rintro ⟨h,_⟩;exact h0 h];refine aE_ Tryz.func40 ?_;refine rS_ Tryz.func40 ?_;simp only [go_sem,seval,n0];all_goals rfl
def pIN (l:List UInt8):Int:=(U3 l).getD 0
def pIC (l:List UInt8):C:=.tup [.d (.int .i64 (pIN l)),.d (.bool (U3 l).isSome)]
theorem I9 {l:List UInt8} (h:U3 l=none):pIC l=.tup [.d (.int .i64 0),.d (.bool false)]:=by unfold pIC pIN;rw [h];rfl
theorem ai4 {l:List UInt8} {n:Int} (h:U3 l=some n):pIC l=.tup [.d (.int .i64 n),.d (.bool true)]:=by unfold pIC pIN;rw [h];rfl
theorem T9 (n:Int) (h0:0<=n) (h1:n<=9223372036854775807):Gives Tryz.prog 75 [.int .i64 n] (.d (.str (dec n))):=by
 have hmx:maxLen=9223372036854775807:=rfl;refine aE_ Tryz.func75 ?_;refine rS_ Tryz.func75 ?_;simp only [go_sem,seval]
 repeat' (first
  | ((refine C9 (fun hq=>?_) (fun hq=>?_))<;>(try simp only [go_sem,seval,hq]))
  | (simp (disch:=omega) only [l6])
  | ((refine ⟨sd,?_⟩)<;>(try simp only [go_sem,seval]))
  | fail)
 ·exfalso;omega
 ·exfalso;omega
 refine AW.lp [] (fun p:Int×List UInt8=>[(0,.d (.int .i64 p.1)),(3,.d (.str p.2))]) (fun H _=>H) (fun p=>0<=p.1/\p.1<=n/\(p.2.length:Int)<=n - p.1/\Lib.decDigits p.1.toNat++p.2=dec n) (fun p=>p.1.toNat) (n,[]) ⟨by omega,by omega,by simp,by simp [aI0 h0]⟩ H6 ?_;rintro ⟨m,acc⟩ ⟨i1,i2,i4,i3⟩ hnext;dsimp only at i1 i2 i3 i4 hnext;have hacc:acc.length<=21:=by
  have h3:=congrArg List.length i3;have h4:=aQ2 (n:=n) (by omega) (by omega);rw [c_] at h3;omega
 by_cases hm:9<m
 ·have hd0:0<=m.tmod 10/\m.tmod 10<10/\(m.tmod 10).toNat=m.toNat % 10:=by
   rw [L_ (by omega)];omega
  have hq0:0<=m.tdiv 10/\m.tdiv 10<m/\(m.tdiv 10).toNat=m.toNat / 10:=by
   rw [z_ (by omega)];omega
  have hw8:IntKind.u8.wrap (48+m.tmod 10)=48+m.tmod 10:=by
   unfold IntKind.wrap;simp [IntKind.bits,IntKind.signed];omega
  refine rS_ Tryz.func75 ?_;simp only [go_sem,seval,hm,hw8,bytesOf]
  repeat' (first
   | (simp (disch:=omega) only [l6])
   | ((refine ⟨sd,?_⟩)<;>(try simp only [go_sem,seval,hm,hw8,bytesOf]))
   | fail)
  refine hnext (m.tdiv 10,UInt8.ofNat (48+m.tmod 10).toNat :: acc) _ ⟨by omega,by omega,by simp only [a_];omega,?_⟩ (by dsimp only;omega) (by refine ⟨by simp [mkS],by simp [mkS],by simp [mkS,O.refsLt],?_⟩;simp [mkS,Abs.get,C.refsLtT,C.refsLt,C.refsLt1]);dsimp only;rw [<-i3,hq0.2.2,Lib.decDigits.eq_def m.toNat,dif_neg (by omega),show (48+m.tmod 10).toNat=48+m.toNat % 10 by omega];simp
 ·have hw8:IntKind.u8.wrap (48+m)=48+m:=by
   unfold IntKind.wrap;simp [IntKind.bits,IntKind.signed];omega
  rw [Lib.decDigits.eq_def,dif_pos (by omega)] at i3;refine rS_ Tryz.func75 ?_;simp only [go_sem,seval,hm,hw8,bytesOf]
  repeat' (first
   | (simp (disch:=omega) only [l6])
   | ((refine ⟨sd,?_⟩)<;>(try simp only [go_sem,seval,hm,hw8,bytesOf]))
   | fail)
  all_goals (rw [<-i3,show (48+m).toNat=48+m.toNat by omega];rfl)
theorem ah5:∀(k:Nat) (n:Int),n<0->-9223372036854775808<=n->n.natAbs<=k->Gives Tryz.prog 75 [.int .i64 n] (.d (.str (dec n))):=by
 intro k;induction k with
 | zero=>intro n h0 h1 hk;omega
 | succ k ih =>
  intro n h0 h1 hk;have hmx:maxLen=9223372036854775807:=rfl;obtain ⟨m,hm⟩:∃m:Nat,n=-(m:Int):=⟨n.natAbs,by omega⟩;have e1:n.tdiv 10=-((m / 10:Nat):Int):=by rw [hm,Int.neg_tdiv,z_ (by omega)];omega
  have e2:n.tmod 10=-((m % 10:Nat):Int):=by rw [hm,Int.neg_tmod,L_ (by omega)];omega
  have hl:=aQ2 (n:=n.tdiv 10) (by omega) (by omega);have hw:IntKind.i64.wrap (n.tdiv 10)=n.tdiv 10:=by
   unfold IntKind.wrap;simp [IntKind.bits,IntKind.signed];omega
  by_cases h9:-10<n
  ·have hw8:IntKind.u8.wrap (48 - n)=48 - n:=by
    unfold IntKind.wrap;simp [IntKind.bits,IntKind.signed];omega
   have hz:n.tdiv 10=0:=by omega
   rw [bN4 h0 h9];refine aE_ Tryz.func75 ?_;refine rS_ Tryz.func75 ?_;simp only [go_sem,seval,h0,hw,hw8,bytesOf]
   repeat' (first
    | ((refine C9 (fun hq=>?_) (fun hq=>?_))<;>(try simp only [go_sem,seval,h0,hw,hw8,bytesOf,hq]))
    | (simp (disch:=omega) only [l6])
    | ((refine ⟨sd,?_⟩)<;>(try simp only [go_sem,seval,h0,hw,hw8,bytesOf]))
    | fail)
   all_goals first | (exfalso;omega) | rfl
  ·have hw8:IntKind.u8.wrap (48 - n.tmod 10)=48 - n.tmod 10:=by
    unfold IntKind.wrap;simp [IntKind.bits,IntKind.signed];omega
   have hz:¬n.tdiv 10=0:=by omega
   rw [bD3 h0 (by omega)];have hrec:=ih (n.tdiv 10) (by omega) (by omega) (by omega);generalize dec (n.tdiv 10)=N at hrec hl |-;refine aE_ Tryz.func75 ?_;refine rS_ Tryz.func75 ?_;simp only [go_sem,seval,h0,hw,hw8,bytesOf]
   repeat' (first
    | ((refine C9 (fun hq=>?_) (fun hq=>?_))<;>(try simp only [go_sem,seval,h0,hw,hw8,bytesOf,hq]))
    | (simp (disch:=omega) only [l6])
    | ((first
     | (refine hrec.callQ rfl ?_)
     | (refine ⟨sd,?_⟩))<;>(try simp only [go_sem,seval,h0,hw,hw8,bytesOf]))
    | fail)
   all_goals first | (exfalso;omega) | rfl
theorem V9 (n:Int) (h0:-9223372036854775808<=n) (h1:n<=9223372036854775807):Gives Tryz.prog 75 [.int .i64 n] (.d (.str (dec n))):=by
 by_cases h:n<0
 ·exact ah5 _ n h h0 (m_ _)
 ·exact T9 n (by omega) h1
theorem U2 (l:List UInt8) (hl:l.length<=1048576):Gives Tryz.prog 118 [.str l] (pIC l):=by
 have hmx:maxLen=9223372036854775807:=rfl;by_cases hneg:∃T,l=45 :: T
 ·obtain ⟨T,hT⟩:=hneg
  have hTn:∀n,U3 l=some n->T=Lib.decDigits n.natAbs:=fun n hn=>(aL9 hT hn).2;have hng:∀n,U3 l=some n->n<0:=fun n hn=>(aL9 hT hn).1;have g1:(l.length:Int)=(T.length:Int)+1:=by rw [hT];simp
  have g2:((l[0]?.getD 0).toNat:Int)=45:=by rw [hT];rfl
  have g3:l.drop 1=T:=by rw [hT];rfl
  have g4:(0:Int)<(l.length:Int):=by omega
  have hlen:(T.length<1\/19<T.length)->U3 l=none:=fun h=>by
   cases hp:U3 l with
   | none=>rfl
   | some n =>
    exfalso;obtain ⟨_,b0,b1⟩:=O0 hp;have h1:=bb4 (u:=n.natAbs) (by omega);rw [<-hTn n hp] at h1;omega
  by_cases hln:1<=T.length/\T.length<=19
  ·have n1:¬(T.length:Int)<1:=by omega
   have n2:¬(19:Int)<(T.length:Int):=by omega
   refine aE_ Tryz.func118 ?_;refine rS_ Tryz.func118 ?_;simp only [go_sem,seval,g4,g2,g3,n1,n2]
   repeat' (first
    | ((refine ⟨sd,?_⟩)<;>(try simp only [go_sem,seval,g4,g2,g3,n1,n2]))
    | fail)
   refine AW.lp [0,4,5] (fun u:Nat×Int=>[(7,.d (.int .i64 u.1)),(6,.d (.int .i64 u.2))]) (fun H _=>H) (fun u=>u.1<=T.length/\Rdg l T u.1 u.2) (fun u=>T.length - u.1) (0,0) ⟨q_ _,⟨by decide,by decide,fun n hn=>by simp [bb6]⟩⟩ A8 ?_;rintro ⟨i,acc⟩ ⟨hi,hR⟩ hnext;dsimp only at hi hR hnext |-;have hlo:=hR.lo;have hhi:=hR.hi;by_cases h:i<T.length
   ·have hlt:(i:Int)<(T.length:Int):=by omega
    obtain ⟨c,hc,hb⟩:=byte_at h;have hbad:=hR.bad hTn hc;have hnx:=hR.next hTn hc;have hw1:IntKind.i64.wrap ((i:Int)+1)=((i+1:Nat):Int):=by simp (disch:=omega) only [l6];omega
    have hd0:0<=(c.toNat:Int)/\(c.toNat:Int)<=255:=by have:=UInt8.toNat_lt c;omega
    generalize (c.toNat:Int)=b at hb hbad hnx hd0;have hw2:IntKind.i64.wrap (b - 48)=b - 48:=by simp (disch:=omega) only [l6]
    have hw3:0<=b - 48->b - 48<=9->IntKind.i64.wrap (-9223372036854775808+(b - 48))=-9223372036854775808+(b - 48):=fun _ _=>by simp (disch:=omega) only [l6]
    by_cases hdg:(0:Int)<=b - 48/\b - 48<=9
    ·have hw3:=hw3 hdg.1 hdg.2
     have hdg1:=hdg.1;have hdg2:=hdg.2;have hqn:=aF7 (x:=-9223372036854775808+(b - 48)) (by omega);have hw4:IntKind.i64.wrap ((-9223372036854775808+(b - 48)).tdiv 10)=(-9223372036854775808+(b - 48)).tdiv 10:=by rw [hqn];simp (disch:=omega) only [l6]
     by_cases hq:acc<(-9223372036854775808+(b - 48)).tdiv 10
     ·rw [I9 (hbad (.inr hq))]
      refine rS_ Tryz.func118 ?_;simp only [go_sem,seval,hlt,hb,hw2,hdg1,hdg2,hw3,hw4,hq]
      repeat' (first
       | (simp (disch:=omega) only [l6])
       | ((refine (E9 _ _ _).calls rfl ?_)<;>(try simp only [go_sem,seval,hlt,hb,hw2,hdg1,hdg2,hw3,hw4,hq]))
       | fail)
     ·have hnx:=hnx hdg1 hdg2 hq
      have hq2:=hq;rw [hqn] at hq2;have hw5:IntKind.i64.wrap (acc * 10)=acc * 10:=by simp (disch:=omega) only [l6]
      have hw6:IntKind.i64.wrap (acc * 10 - (b - 48))=acc * 10 - (b - 48):=by simp (disch:=omega) only [l6]
      refine rS_ Tryz.func118 ?_;simp only [go_sem,seval,hlt,hb,hw2,hdg1,hdg2,hw3,hw4,hq,hw5,hw6,hw1]
      repeat' (first
       | (simp (disch:=omega) only [l6])
       | ((refine (E9 _ _ _).calls rfl ?_)<;>(try simp only [go_sem,seval,hlt,hb,hw2,hdg1,hdg2,hw3,hw4,hq,hw5,hw6,hw1]))
       | fail)
      refine hnext (i+1,acc * 10 - (b - 48)) _ ⟨by dsimp only;omega,hnx⟩ (by dsimp only;omega) A8
    ·have hdf:(decide (0<=b - 48) && decide (b - 48<=9))=false:=by simp only [E_,decide_eq_false_iff_not];omega
     rw [I9 (hbad (.inl hdg))];refine rS_ Tryz.func118 ?_;simp only [go_sem,seval,hlt,hb,hw2,hdf]
     repeat' (first
      | (simp (disch:=omega) only [l6])
      | ((refine (E9 _ _ _).calls rfl ?_)<;>(try simp only [go_sem,seval,hlt,hb,hw2,hdf]))
      | fail)
     all_goals first | (exfalso;omega) | skip
   ·obtain rfl:i=T.length:=by omega
    have hdn:=hR.done hTn;clear hnext hR;have hdec:=V9 acc hlo (by omega);by_cases he:dec acc=l
    ·have hp:U3 l=some acc:=by rw [<-he];exact ba0 hlo (by omega)
     rw [ai4 hp];refine rS_ Tryz.func118 ?_;simp only [go_sem,seval,he]
     repeat' (first
      | ((refine hdec.calls rfl ?_)<;>(try simp only [go_sem,seval,he]))
      | fail)
    ·have hp:U3 l=none:=by
      cases hp:U3 l with
      | none=>rfl
      | some n =>
       exfalso;have h1:=hdn n hp;have h2:=hng n hp;have h3:=(O0 hp).1;rw [show acc=n from by omega] at he;exact he h3
     rw [I9 hp];refine rS_ Tryz.func118 ?_;simp only [go_sem,seval,he]
     repeat' (first
      | ((refine hdec.calls rfl ?_)<;>(try simp only [go_sem,seval,he]))
      | fail)
  ·rw [I9 (hlen (by omega))]
   refine aE_ Tryz.func118 ?_;refine rS_ Tryz.func118 ?_;simp only [go_sem,seval,g4,g2,g3]
   repeat' (first
    | ((refine C9 (fun hq=>?_) (fun hq=>?_))<;>(try simp only [go_sem,seval,g4,g2,g3,hq]))
    | ((refine ⟨sd,?_⟩)<;>(try simp only [go_sem,seval,g4,g2,g3]))
    | fail)
   all_goals first | (exfalso;omega) | skip
 ·have hno:∀T,l≠45 :: T:=fun T h=>hneg ⟨T,h⟩
  obtain ⟨T,hT⟩:∃T,l=T:=⟨l,rfl⟩;have hTn:∀n,U3 l=some n->T=Lib.decDigits n.natAbs:=fun n hn=>by rw [<-hT];exact (aL8 hno hn).2
  have hng:∀n,U3 l=some n->0<=n:=fun n hn=>(aL8 hno hn).1;have g1:(l.length:Int)=(T.length:Int):=by rw [hT]
  have hlen:(T.length<1\/19<T.length)->U3 l=none:=fun h=>by
   cases hp:U3 l with
   | none=>rfl
   | some n =>
    exfalso;obtain ⟨_,b0,b1⟩:=O0 hp;have h1:=bb4 (u:=n.natAbs) (by omega);rw [<-hTn n hp] at h1;omega
  by_cases hln:1<=T.length/\T.length<=19
  ·have n1:¬(T.length:Int)<1:=by omega
   have n2:¬(19:Int)<(T.length:Int):=by omega
   have g4:(0:Int)<(l.length:Int):=by omega
   have g2:¬((l[0]?.getD 0).toNat:Int)=45:=by
    cases l with
    | nil=>simp at g4
    | cons c r =>
     intro h;have hc:c=45:=(ap1 (n:=45) (by omega)).2 (by simpa using h);exact hno r (by rw [hc])
   have g3:D.str l=D.str T:=by rw [hT]
   rw [show ([D.str l]:List D)=[D.str T] from by rw [hT]] at *;rw [hT] at g2 g4;refine aE_ Tryz.func118 ?_;refine rS_ Tryz.func118 ?_;simp only [go_sem,seval,g4,g2,n1,n2];refine AW.lp [0,4,5] (fun u:Nat×Int=>[(7,.d (.int .i64 u.1)),(6,.d (.int .i64 u.2))]) (fun H _=>H) (fun u=>u.1<=T.length/\Rdg l T u.1 u.2) (fun u=>T.length - u.1) (0,0) ⟨q_ _,⟨by decide,by decide,fun n hn=>by simp [bb6]⟩⟩ A8 ?_;rintro ⟨i,acc⟩ ⟨hi,hR⟩ hnext;dsimp only at hi hR hnext |-;have hlo:=hR.lo;have hhi:=hR.hi;by_cases h:i<T.length
   ·have hlt:(i:Int)<(T.length:Int):=by omega
    obtain ⟨c,hc,hb⟩:=byte_at h;have hbad:=hR.bad hTn hc;have hnx:=hR.next hTn hc;have hw1:IntKind.i64.wrap ((i:Int)+1)=((i+1:Nat):Int):=by simp (disch:=omega) only [l6];omega
    have hd0:0<=(c.toNat:Int)/\(c.toNat:Int)<=255:=by have:=UInt8.toNat_lt c;omega
    generalize (c.toNat:Int)=b at hb hbad hnx hd0;have hw2:IntKind.i64.wrap (b - 48)=b - 48:=by simp (disch:=omega) only [l6]
    have hw3:0<=b - 48->b - 48<=9->IntKind.i64.wrap (-9223372036854775808+(b - 48))=-9223372036854775808+(b - 48):=fun _ _=>by simp (disch:=omega) only [l6]
    by_cases hdg:(0:Int)<=b - 48/\b - 48<=9
    ·have hw3:=hw3 hdg.1 hdg.2
     have hdg1:=hdg.1;have hdg2:=hdg.2;have hqn:=aF7 (x:=-9223372036854775808+(b - 48)) (by omega);have hw4:IntKind.i64.wrap ((-9223372036854775808+(b - 48)).tdiv 10)=(-9223372036854775808+(b - 48)).tdiv 10:=by rw [hqn];simp (disch:=omega) only [l6]
     by_cases hq:acc<(-9223372036854775808+(b - 48)).tdiv 10
     ·rw [I9 (hbad (.inr hq))]
      refine rS_ Tryz.func118 ?_;simp only [go_sem,seval,hlt,hb,hw2,hdg1,hdg2,hw3,hw4,hq]
      repeat' (first
       | (simp (disch:=omega) only [l6])
       | ((refine (E9 _ _ _).calls rfl ?_)<;>(try simp only [go_sem,seval,hlt,hb,hw2,hdg1,hdg2,hw3,hw4,hq]))
       | fail)
     ·have hnx:=hnx hdg1 hdg2 hq
      have hq2:=hq;rw [hqn] at hq2;have hw5:IntKind.i64.wrap (acc * 10)=acc * 10:=by simp (disch:=omega) only [l6]
      have hw6:IntKind.i64.wrap (acc * 10 - (b - 48))=acc * 10 - (b - 48):=by simp (disch:=omega) only [l6]
      refine rS_ Tryz.func118 ?_;simp only [go_sem,seval,hlt,hb,hw2,hdg1,hdg2,hw3,hw4,hq,hw5,hw6,hw1]
      repeat' (first
       | (simp (disch:=omega) only [l6])
       | ((refine (E9 _ _ _).calls rfl ?_)<;>(try simp only [go_sem,seval,hlt,hb,hw2,hdg1,hdg2,hw3,hw4,hq,hw5,hw6,hw1]))
       | fail)
      refine hnext (i+1,acc * 10 - (b - 48)) _ ⟨by dsimp only;omega,hnx⟩ (by dsimp only;omega) A8
    ·have hdf:(decide (0<=b - 48) && decide (b - 48<=9))=false:=by simp only [E_,decide_eq_false_iff_not];omega
     rw [I9 (hbad (.inl hdg))];refine rS_ Tryz.func118 ?_;simp only [go_sem,seval,hlt,hb,hw2,hdf]
     repeat' (first
      | (simp (disch:=omega) only [l6])
      | ((refine (E9 _ _ _).calls rfl ?_)<;>(try simp only [go_sem,seval,hlt,hb,hw2,hdf]))
      | fail)
     all_goals first | (exfalso;omega) | skip
   ·obtain rfl:i=T.length:=by omega
    have hdn:=hR.done hTn;clear hnext hR;by_cases hmin:acc=-9223372036854775808
    ·have hp:U3 l=none:=by
      cases hp:U3 l with
      | none=>rfl
      | some n =>
       exfalso;have h1:=hdn n hp;have h2:=hng n hp;obtain ⟨_,b0,b1⟩:=O0 hp;omega
     rw [I9 hp];refine rS_ Tryz.func118 ?_;simp only [go_sem,seval,hmin]
    ·have hwn:IntKind.i64.wrap (0 - acc)=0 - acc:=by simp (disch:=omega) only [l6]
     have hdec:=V9 (0 - acc) (by omega) (by omega);by_cases he:dec (0 - acc)=T
     ·have hp:U3 l=some (0 - acc):=by rw [hT,<-he];exact ba0 (by omega) (by omega)
      rw [ai4 hp];refine rS_ Tryz.func118 ?_;simp only [go_sem,seval,he,hmin,hwn]
      repeat' (first
       | ((refine hdec.calls rfl ?_)<;>(try simp only [go_sem,seval,he,hmin,hwn]))
       | fail)
     ·have hp:U3 l=none:=by
       cases hp:U3 l with
       | none=>rfl
       | some n =>
        exfalso;have h1:=hdn n hp;have h2:=hng n hp;have h3:=(O0 hp).1;rw [show 0 - acc=n from by omega,<-hT] at he;exact he h3
      rw [I9 hp];refine rS_ Tryz.func118 ?_;simp only [go_sem,seval,he,hmin,hwn]
      repeat' (first
       | ((refine hdec.calls rfl ?_)<;>(try simp only [go_sem,seval,he,hmin,hwn]))
       | fail)
  ·rw [I9 (hlen (by omega))]
   have hlen2:l.length<1\/19<l.length:=by omega
   by_cases g4:(0:Int)<(l.length:Int)
   ·have g2:¬((l[0]?.getD 0).toNat:Int)=45:=by
     cases l with
     | nil=>simp at g4
     | cons c r =>
      intro h;have hc:c=45:=(ap1 (n:=45) (by omega)).2 (by simpa using h);exact hno r (by rw [hc])
    refine aE_ Tryz.func118 ?_;refine rS_ Tryz.func118 ?_;simp only [go_sem,seval,g4,g2]
    repeat' (first
     | ((refine C9 (fun hq=>?_) (fun hq=>?_))<;>(try simp only [go_sem,seval,g4,g2,hq]))
     | fail)
    all_goals first | (exfalso;omega) | skip
   ·refine aE_ Tryz.func118 ?_
    refine rS_ Tryz.func118 ?_;simp only [go_sem,seval,g4]
    repeat' (first
     | ((refine C9 (fun hq=>?_) (fun hq=>?_))<;>(try simp only [go_sem,seval,g4,hq]))
     | fail)
    all_goals first | (exfalso;omega) | skip
theorem br3 (s:List UInt8):Gives Tryz.prog 126 [.str s] (.d (.agg (V.sym s).enc)):=by
 rw [V.enc_sym];refine aE_ Tryz.func126 ?_;refine rS_ Tryz.func126 ?_;simp only [go_sem,seval]
theorem al9 (a b:V):Gives Tryz.prog 85 [.agg a.enc,.agg b.enc] (.d (.agg (V.pair a b).enc)):=by
 rw [V.enc_pair];refine aE_ Tryz.func85 ?_;refine rS_ Tryz.func85 ?_;simp only [go_sem,seval]
def aW7 (o:Option V):C:=match o with | some v=>.tup [.d (.agg v.enc),.d (.bool true)] | none=>.tup [.d (.agg [.int .i64 0,.int .i64 0,.str [],.sl []]),.d (.bool false)]
theorem X8:aW7 none=.tup [.d (.agg [.int .i64 0,.int .i64 0,.str [],.sl []]),.d (.bool false)]:=rfl
theorem bv3 (n:Int):aW7 (some (.var n))=.tup [.d (.agg [.int .i64 1,.int .i64 n,.str [],.sl []]),.d (.bool true)]:=rfl
theorem bv4 (n:Int):aW7 (some (.num n))=.tup [.d (.agg [.int .i64 3,.int .i64 n,.str [],.sl []]),.d (.bool true)]:=rfl
theorem bn3 (n:Int):(Tm.mk 1 n [] []).v?.isSome=decide (0<=n/\n<=100000):=by
 rw [Tm.v?_mk];unfold mkV;by_cases h:0<=n/\n<=100000
 ·simp [h]
 ·have h2:0<=n->¬n<=100000:=fun a b=>h ⟨a,b⟩
  simp [h]
theorem bn4 (n:Int):(Tm.mk 3 n [] []).v?.isSome=decide (-1000000000<=n/\n<=1000000000):=by
 rw [Tm.v?_mk];unfold mkV;by_cases h:-1000000000<=n/\n<=1000000000
 ·simp [h]
 ·have h2:-1000000000<=n->¬n<=1000000000:=fun a b=>h ⟨a,b⟩
  simp [h]
theorem bT8 (k n:Int):wtL (Tm.mk k n [] []).enc=0:=by rw [Tm.enc_eq];simp [wtL,D.wt,wtR,Tm.args,Tm.name]
theorem bG3 (k n:Int):(Tm.mk k n [] []).enc=[.int .i64 k,.int .i64 n,.str [],.sl []]:=by rw [Tm.enc_eq];rfl
theorem bh5 (t:List UInt8) (hl:t.length<=1048576):Gives Tryz.prog 156 [.str t] (aW7 (atom false t)):=by
 have hn:=ac0 t (by omega);by_cases h1:F9 t=true
 ·rw [h1] at hn
  rw [show atom false t=some (.sym t) from by unfold atom;rw [if_pos h1]];unfold aW7;refine aE_ Tryz.func156 ?_;refine rS_ Tryz.func156 ?_;simp only [go_sem,seval]
  repeat' (first
   | ((first
    | (refine hn.calls rfl ?_)
    | (refine (br3 _).calls rfl ?_))<;>(try simp only [go_sem,seval]))
   | fail)
 ·have h1f:F9 t=false:=by simpa using h1
  rw [h1f] at hn;cases t with
  | nil =>
   have hp:=U2 [] (by simp);have hpn:U3 []=none:=by rfl
   rw [I9 hpn] at hp;rw [show atom false []=none from by unfold atom;rw [if_neg h1];simp [hpn]];unfold aW7;refine aE_ Tryz.func156 ?_;refine rS_ Tryz.func156 ?_;simp only [go_sem,seval]
   repeat' (first
    | ((first
     | (refine hn.calls rfl ?_)
     | (refine hp.calls rfl ?_))<;>(try simp only [go_sem,seval]))
    | fail)
  | cons c r =>
   obtain ⟨l,hll⟩:∃l,(c :: r)=l:=⟨_,rfl⟩;have g1:(0:Int)<(l.length:Int):=by rw [<-hll,a_];omega
   have g3:l.drop 1=r:=by rw [<-hll];rfl
   have g4:(((l[0]?).getD 0).toNat:Int)=c.toNat:=by rw [<-hll];rfl
   have hrl:r.length<=1048576:=by rw [<-g3,t_];simp only [a_] at hl;rw [<-hll,a_];omega
   have hhd:l.head? = some c:=by rw [<-hll];rfl
   have htl:l.tail=r:=by rw [<-hll];rfl
   rw [hll] at hn h1 |-;have hl:l.length<=1048576:=by rw [<-hll];exact hl
   clear hll;by_cases h63:c=63
   ·have g2:(((l[0]?).getD 0).toNat:Int)=63:=by rw [g4,h63];rfl
    have hp:=U2 r hrl;have hat:atom false l=(match U3 r with | some n=>if 0<=n/\n<=100000 then some (.var n) else none | none=>none):=by
     unfold atom;rw [if_neg h1,if_pos (by rw [hhd,h63]),htl];all_goals rfl
    rw [hat];cases hpr:U3 r with
    | none =>
     rw [I9 hpr] at hp;dsimp only;rw [X8];refine aE_ Tryz.func156 ?_;refine rS_ Tryz.func156 ?_;simp only [go_sem,seval,g1,g2,g3]
     repeat' (first
      | ((first
       | (refine hn.calls rfl ?_)
       | (refine hp.calls rfl ?_)
       | (refine ⟨sd,?_⟩))<;>(try simp only [go_sem,seval,g1,g2,g3]))
      | fail)
    | some n =>
     rw [ai4 hpr] at hp;have hsh:=af5 (Tm.mk 1 n [] []) (by rw [bT8];omega);rw [bG3,bn3] at hsh;dsimp only;by_cases hb:0<=n/\n<=100000
     ·rw [if_pos hb,bv3]
      rw [decide_eq_true hb] at hsh;refine aE_ Tryz.func156 ?_;refine rS_ Tryz.func156 ?_;simp only [go_sem,seval,g1,g2,g3]
      repeat' (first
       | ((first
        | (refine hn.calls rfl ?_)
        | (refine hp.calls rfl ?_)
        | (refine hsh.calls rfl ?_)
        | (refine ⟨sd,?_⟩))<;>(try simp only [go_sem,seval,g1,g2,g3]))
       | fail)
     ·rw [if_neg hb,X8]
      rw [decide_eq_false hb] at hsh;refine aE_ Tryz.func156 ?_;refine rS_ Tryz.func156 ?_;simp only [go_sem,seval,g1,g2,g3]
      repeat' (first
       | ((first
        | (refine hn.calls rfl ?_)
        | (refine hp.calls rfl ?_)
        | (refine hsh.calls rfl ?_)
        | (refine ⟨sd,?_⟩))<;>(try simp only [go_sem,seval,g1,g2,g3]))
       | fail)
   ·have g2:¬(((l[0]?).getD 0).toNat:Int)=63:=fun h=>h63 ((ap1 (n:=63) (by omega)).2 (by rw [<-g4];exact h))
    have hp:=U2 l hl;have hat:atom false l=(match U3 l with | some n=>if false=true\/(-1000000000<=n/\n<=1000000000) then some (.num n) else none | none=>none):=by
     unfold atom;rw [if_neg h1,if_neg (by rw [hhd];intro h;exact h63 (Option.some.inj h))];rfl
    rw [hat];cases hpr:U3 l with
    | none =>
     rw [I9 hpr] at hp;dsimp only;rw [X8];refine aE_ Tryz.func156 ?_;refine rS_ Tryz.func156 ?_;simp only [go_sem,seval,g1,g2]
     repeat' (first
      | ((first
       | (refine hn.calls rfl ?_)
       | (refine hp.calls rfl ?_))<;>(try simp only [go_sem,seval,g1,g2]))
      | fail)
    | some n =>
     rw [ai4 hpr] at hp;have hsh:=af5 (Tm.mk 3 n [] []) (by rw [bT8];omega);rw [bG3,bn4] at hsh;dsimp only;by_cases hb:-1000000000<=n/\n<=1000000000
     ·rw [if_pos (.inr hb),bv4]
      rw [decide_eq_true hb] at hsh;refine aE_ Tryz.func156 ?_;refine rS_ Tryz.func156 ?_;simp only [go_sem,seval,g1,g2]
      repeat' (first
       | ((first
        | (refine hn.calls rfl ?_)
        | (refine hp.calls rfl ?_)
        | (refine hsh.calls rfl ?_))<;>(try simp only [go_sem,seval,g1,g2]))
       | fail)
     ·rw [if_neg (fun h=>h.elim (fun h=>by cases h) hb),X8]
      rw [decide_eq_false hb] at hsh;refine aE_ Tryz.func156 ?_;refine rS_ Tryz.func156 ?_;simp only [go_sem,seval,g1,g2]
      repeat' (first
       | ((first
        | (refine hn.calls rfl ?_)
        | (refine hp.calls rfl ?_)
        | (refine hsh.calls rfl ?_))<;>(try simp only [go_sem,seval,g1,g2]))
       | fail)
theorem aB7 (l:List V) (t:V) (hl:l.length<=1048576):Gives Tryz.prog 157 [.sl (l.map V.enc),.agg t.enc] (.d (.agg (lst l t).enc)):=by
 refine aE_ Tryz.func157 ?_;refine rS_ Tryz.func157 ?_;simp only [go_sem,seval]
 repeat' (first
  | (simp (disch:=omega) only [l6])
  | fail)
 refine AW.lp [0,3,4] (fun j:Nat=>[(5,.d (.int .i64 ((j:Int) - 1)))]) (fun _ j=>[.box ((lst (l.drop j) t).enc.map .d),.box [.d (.int .i64 0),.d (.int .i64 0),.d (.str []),.nil0]]) (fun j=>j<=l.length) (fun j=>j) l.length (m_ _) (by refine ⟨by simp [mkS,lst],by simp [mkS,lst],by simp only [mkS,b_,d_,O.refsLt,C.refsLt,C.refsLt1,o5];first | done | rfl | (simp;done),?_⟩;simp [mkS,Abs.get,C.refsLtT,C.refsLt,C.refsLt1]) ?_;rintro j hj hnext;cases j with
 | zero =>
  refine rS_ Tryz.func157 ?_;simp only [go_sem,seval];all_goals (rw [List.drop_zero])
 | succ m =>
  have hm1:(m:Int)+1 - 1=m:=by omega
  obtain ⟨x,hx⟩:∃x,l[m]? = some x:=⟨l[m],h_ hj⟩;have hdr:lst (l.drop m) t=.pair x (lst (l.drop (m+1)) t):=by
   obtain ⟨h1,h2⟩:=e_.1 hx;rw [n_ h1,h2];rfl
  have hw:IntKind.i64.wrap ((m:Int) - 1)=(m:Int) - 1:=by simp (disch:=omega) only [l6]
  have hxe:(l.map V.enc)[m]? = some x.enc:=by rw [B_,hx];rfl
  refine l7 Tryz.func157 mixed 7 _ _ (by kernel_rfl) ?_;simp only [go_sem,seval,run.eq_1,hm1];refine AW.drawA mixed #[true,true,true,true,true,true,false] [(0,.box ((lst (l.drop (m+1)) t).enc.map .d))] [] [0,1,2,3,4,5] [6] none (by kernel_rfl) trivial (by simp [x9]) ?_;simp only [go_sem,seval,hm1,d9 hxe]
  repeat' (first
   | ((first
    | (refine (al9 _ _).calls rfl ?_)
    | (refine ⟨sd,?_⟩))<;>(try simp only [go_sem,seval,hm1,d9 hxe]))
   | fail)
  refine rS_ Tryz.func157 ?_;simp only [go_sem,seval]
  repeat' (first
   | (simp (disch:=omega) only [l6])
   | fail)
  refine hnext m _ (by omega) (by omega) (by refine ⟨by simp [mkS,hdr],by simp [mkS,hdr],by simp only [mkS,b_,d_,O.refsLt,C.refsLt,C.refsLt1,o5];first | done | rfl | (simp;done),?_⟩;simp [mkS,Abs.get,C.refsLtT,C.refsLt,C.refsLt1])
def nilD:List D:=[.int .i64 0,.int .i64 0,.str [],.sl []]
def rdC (o:Option (V×Nat)):C:=match o with | some (v,j)=>.tup [.d (.agg v.enc),.d (.int .i64 j),.d (.bool true)] | none=>.tup [.d (.agg [.int .i64 0,.int .i64 0,.str [],.sl []]),.d (.int .i64 0),.d (.bool false)]
theorem ac3:rdC none=.tup [.d (.agg [.int .i64 0,.int .i64 0,.str [],.sl []]),.d (.int .i64 0),.d (.bool false)]:=rfl
theorem aZ9 (v:V) (j:Nat):rdC (some (v,j))=.tup [.d (.agg v.enc),.d (.int .i64 j),.d (.bool true)]:=rfl
def rdG (T:List (List UInt8)) (n i:Nat):Prop:=match rdT false T n i with
 | some (v,j)=>Gives Tryz.prog 121 [.sl (Y1 T),.int .i64 i] (.tup [.d (.agg v.enc),.d (.int .i64 j),.d (.bool true)])
 | none=>∃k:Int,Gives Tryz.prog 121 [.sl (Y1 T),.int .i64 i] (.tup [.d (.agg [.int .i64 0,.int .i64 0,.str [],.sl []]),.d (.int .i64 k),.d (.bool false)])
theorem aF5 {T:List (List UInt8)} {n i:Nat} {v:V} {j:Nat} (h:rdT false T n i=some (v,j)) (g:rdG T n i):Gives Tryz.prog 121 [.sl (Y1 T),.int .i64 i] (.tup [.d (.agg v.enc),.d (.int .i64 j),.d (.bool true)]):=by
 unfold rdG at g;rw [h] at g;exact g
theorem aZ8 {T:List (List UInt8)} {n i:Nat} (h:rdT false T n i=none) (g:rdG T n i):∃k:Int,Gives Tryz.prog 121 [.sl (Y1 T),.int .i64 i] (.tup [.d (.agg [.int .i64 0,.int .i64 0,.str [],.sl []]),.d (.int .i64 k),.d (.bool false)]):=by
 unfold rdG at g;rw [h] at g;exact g
theorem aN8 (T:List (List UInt8)) (hTl:T.length<=20000) (n i:Nat) (hi:T[i]? = some [40]) (hn:2 * (T.length - i)+1<=n+1) (ih:∀m,m<=n->∀i,i<=T.length->2 * (T.length - i)+1<=m->rdG T m i) :
  Gives Tryz.prog 121 [.sl (Y1 T),.int .i64 i] (rdC (rdL false T n (i+1) [])):=by
 have hmx:maxLen=9223372036854775807:=rfl;have hil:=(e_.1 hi).1;have n0:¬(T.length:Int)<=(i:Int):=by omega
 have hix:=G8 hi;have hw:IntKind.i64.wrap ((i:Int)+1)=((i+1:Nat):Int):=by simp (disch:=omega) only [l6];omega
 obtain ⟨R,hR⟩:∃R,rdL false T n (i+1) []=R:=⟨_,rfl⟩;rw [hR];refine aE_ Tryz.func121 ?_;refine rS_ Tryz.func121 ?_;simp only [go_sem,seval,n0,l9,d9 hix,hw]
 repeat' (first
  | ((refine ⟨sd,?_⟩)<;>(try simp only [go_sem,seval,n0,l9,d9 hix,hw]))
  | fail)
 refine AW.adopt 9 4 60 (by decide) rfl ?_;refine AW.lp [0,4] (fun u:Nat×Nat×Nat×List V=>[(1,.d (.int .i64 u.2.1)),(9,.own 1 u.2.2.1)]) (fun _ u=>[.box [.d (.int .i64 0),.d (.int .i64 0),.d (.str []),.nil0],.grow u.2.2.1 4 60 (u.2.2.2.map V.enc)]) (fun u=>u.1<=n/\u.2.1<=T.length/\2 * (T.length - u.2.1)+2<=u.1/\rdL false T u.1 u.2.1 u.2.2.2=R/\u.2.2.2.length<=u.2.1) (fun u=>T.length - u.2.1) (n,i+1,0,[]) ⟨m_ _,by dsimp only;omega,by dsimp only;omega,hR,by simp⟩ A8 ?_;rintro ⟨m,j,q,L⟩ ⟨hm,hj,hf,hi2,hL⟩ hnext;dsimp only at hm hj hf hi2 hL hnext |-;obtain ⟨m,rfl⟩:∃m',m=m'+1:=⟨m - 1,by omega⟩;have hwj:IntKind.i64.wrap ((j:Int)+1)=((j+1:Nat):Int):=by simp (disch:=omega) only [l6];omega
 have hmap:∀x:List V,(x.map V.enc).length=x.length:=fun x=>o_ _;cases hTj:T[j]? with
 | none =>
  rw [bz9 hTj] at hi2;have hjl:=A_.1 hTj;have n1:¬(j:Int)<(T.length:Int):=by omega
  have n2:(T.length:Int)<=(j:Int):=by omega
  rw [<-hi2,ac3];refine rS_ Tryz.func121 ?_;simp only [go_sem,seval,n1,n2,l9]
 | some t =>
  have hjl:=(e_.1 hTj).1;have n1:(j:Int)<(T.length:Int):=by omega
  have n2:¬(T.length:Int)<=(j:Int):=by omega
  have hjx:=G8 hTj;by_cases h41:t=[41]
  ·subst h41
   rw [bJ7 hTj] at hi2;refine AW.readG 9 1 rfl rfl ?_;have hl:=aB7 L .nil (by omega);rw [V.enc_nil] at hl;rw [<-hi2,aZ9];refine rS_ Tryz.func121 ?_;simp only [go_sem,seval,n1,n2,l9,d9 hjx,hwj]
   repeat' (first
    | ((refine hl.calls rfl ?_)<;>(try simp only [go_sem,seval,n1,n2,l9,d9 hjx,hwj]))
    | fail)
  ·by_cases h46:t=[46]
   ·subst h46
    rw [bJ8 hTj] at hi2;refine AW.readG 9 1 rfl rfl ?_;have hg:=ih m (by omega) (j+1) (by omega) (by omega);cases hr:rdT false T m (j+1) with
    | none =>
     rw [hr] at hi2;obtain ⟨k,hk⟩:=aZ8 hr hg;rw [<-hi2,ac3];refine rS_ Tryz.func121 ?_;simp only [go_sem,seval,n1,n2,l9,d9 hjx,hwj]
     repeat' (first
      | ((refine hk.calls rfl ?_)<;>(try simp only [go_sem,seval,n1,n2,l9,d9 hjx,hwj]))
      | fail)
    | some x =>
     obtain ⟨v,j2⟩:=x;rw [hr] at hi2;dsimp only at hi2;have hk:=aF5 hr hg;have hb:=(aL4 false T m).1 _ _ _ hr;have hl:=aB7 L v (by omega);have hw2:IntKind.i64.wrap ((j2:Int)+1)=((j2+1:Nat):Int):=by simp (disch:=omega) only [l6];omega
     by_cases hL0:L=[]
     ·rw [if_neg (fun h=>h.1 hL0)] at hi2
      have hl0:(L.length:Int)=0:=by rw [hL0];rfl
      rw [<-hi2,ac3];refine rS_ Tryz.func121 ?_;simp only [go_sem,seval,n1,n2,l9,d9 hjx,hwj]
      repeat' (first
       | ((refine hk.calls rfl ?_)<;>(try simp only [go_sem,seval,n1,n2,l9,d9 hjx,hwj,hl0,hmap]))
       | fail)
     ·have hl0:¬(L.length:Int)=0:=fun h=>hL0 (w_ (by omega))
      cases hT2:T[j2]? with
      | none =>
       rw [if_neg (fun h=>by rw [hT2] at h;cases h.2)] at hi2;have hjl2:=A_.1 hT2;have n3:(T.length:Int)<=(j2:Int):=by omega
       rw [<-hi2,ac3];refine rS_ Tryz.func121 ?_;simp only [go_sem,seval,n1,n2,n3,l9,d9 hjx,hwj]
       repeat' (first
        | ((refine hk.calls rfl ?_)<;>(try simp only [go_sem,seval,n1,n2,n3,l9,d9 hjx,hwj,hl0,hmap]))
        | fail)
      | some t2 =>
       have hjl2:=(e_.1 hT2).1;have n3:¬(T.length:Int)<=(j2:Int):=by omega
       have n4:(j2:Int)<(T.length:Int):=by omega
       have hjx2:=G8 hT2;by_cases h2:t2=[41]
       ·subst h2
        rw [if_pos ⟨hL0,hT2⟩] at hi2;rw [<-hi2,aZ9];refine rS_ Tryz.func121 ?_;simp only [go_sem,seval,n1,n2,n3,l9,d9 hjx,hwj,d9 hjx2]
        repeat' (first
         | ((first
          | (refine hk.calls rfl ?_)
          | (refine hl.calls rfl ?_)
          | (refine ⟨sd,?_⟩))<;>(try simp only [go_sem,seval,n1,n2,n3,l9,d9 hjx,hwj,hl0,hmap,d9 hjx2,hw2]))
         | fail)
        all_goals omega
       ·rw [if_neg (fun h=>by rw [hT2] at h;exact h2 (Option.some.inj h.2))] at hi2
        rw [<-hi2,ac3];refine rS_ Tryz.func121 ?_;simp only [go_sem,seval,n1,n2,n3,l9,d9 hjx,hwj,d9 hjx2]
        repeat' (first
         | ((refine hk.calls rfl ?_)<;>(try simp only [go_sem,seval,n1,n2,n3,l9,d9 hjx,hwj,hl0,hmap,d9 hjx2,hw2,h2]))
         | assumption)
   ·rw [bA0 hTj h41 h46] at hi2
    have hg:=ih m (by omega) j (by omega) (by omega);cases hr:rdT false T m j with
    | none =>
     rw [hr] at hi2;obtain ⟨k,hk⟩:=aZ8 hr hg;rw [<-hi2,ac3];refine rS_ Tryz.func121 ?_;simp only [go_sem,seval,n1,n2,l9,d9 hjx,h41,h46]
     repeat' (first
      | ((refine hk.calls rfl ?_)<;>(try simp only [go_sem,seval,n1,n2,l9,d9 hjx,h41,h46]))
      | fail)
    | some x =>
     obtain ⟨v,j2⟩:=x;rw [hr] at hi2;dsimp only at hi2;have hk:=aF5 hr hg;have hb:=(aL4 false T m).1 _ _ _ hr;refine rS_ Tryz.func121 ?_;simp only [go_sem,seval,n1,n2,l9,d9 hjx,h41,h46]
     repeat' (first
      | ((first
       | (refine hk.calls rfl ?_)
       | (refine ⟨sd,?_⟩))<;>(try simp only [go_sem,seval,n1,n2,l9,d9 hjx,h41,h46,hmap]))
      | fail)
     refine hnext (m,j2,q+1,L++[v]) _ ⟨by dsimp only;omega,by dsimp only;omega,by dsimp only;omega,hi2,by simp;omega⟩ (by dsimp only;omega) A8
theorem bh4 (T:List (List UInt8)) (hTl:T.length<=20000) (hTm:∀t,t∈T->t.length<=100000):∀n i,i<=T.length->2 * (T.length - i)+1<=n->rdG T n i:=by
 intro n;induction n using Nat.strongRecOn with
 | ind n ih =>
  intro i hi hf;obtain ⟨n,rfl⟩:∃n',n=n'+1:=⟨n - 1,by omega⟩;have hmx:maxLen=9223372036854775807:=rfl;unfold rdG;cases hTi:T[i]? with
  | none =>
   rw [bz7 hTi];have hil:=A_.1 hTi;have n0:(T.length:Int)<=(i:Int):=by omega
   refine ⟨0,?_⟩;refine aE_ Tryz.func121 ?_;refine rS_ Tryz.func121 ?_;simp only [go_sem,seval,n0,l9]
  | some t =>
   have hil:=(e_.1 hTi).1;have n0:¬(T.length:Int)<=(i:Int):=by omega
   have hix:=G8 hTi;by_cases h41:t=[41]
   ·rw [bo7 hTi (.inl h41)]
    subst h41;refine ⟨0,?_⟩;refine aE_ Tryz.func121 ?_;refine rS_ Tryz.func121 ?_;simp only [go_sem,seval,n0,l9,d9 hix];all_goals omega
   ·by_cases h46:t=[46]
    ·rw [bo7 hTi (.inr h46)]
     subst h46;refine ⟨0,?_⟩;refine aE_ Tryz.func121 ?_;refine rS_ Tryz.func121 ?_;simp only [go_sem,seval,n0,l9,d9 hix];all_goals omega
    ·by_cases h40:t=[40]
     ·subst h40
      rw [bz6 hTi];have h:=aN8 T hTl n i hTi hf (fun m hm i hi hf=>ih m (by omega) i hi hf);cases hR:rdL false T n (i+1) [] with
      | none=>rw [hR] at h;exact ⟨0,h⟩
      | some x=>obtain ⟨v,j⟩:=x;rw [hR] at h;exact h
     ·rw [bz8 hTi (fun h=>h.elim h41 h46) h40]
      have ha:=bh5 t (by have:=hTm t (f_ hTi);omega);have hw:IntKind.i64.wrap ((i:Int)+1)=((i+1:Nat):Int):=by simp (disch:=omega) only [l6];omega
      cases hat:atom false t with
      | none =>
       rw [hat,X8] at ha;refine ⟨((i+1:Nat):Int),?_⟩;refine aE_ Tryz.func121 ?_;refine rS_ Tryz.func121 ?_;simp only [go_sem,seval,n0,l9,d9 hix,h41,h46,h40,hw]
       repeat' (first
        | ((first
         | (refine ha.calls rfl ?_)
         | (refine ⟨sd,?_⟩))<;>(try simp only [go_sem,seval,n0,l9,d9 hix,h41,h46,h40,hw]))
        | fail)
      | some v =>
       rw [hat] at ha;unfold aW7 at ha;dsimp only at ha;dsimp only;refine aE_ Tryz.func121 ?_;refine rS_ Tryz.func121 ?_;simp only [go_sem,seval,n0,l9,d9 hix,h41,h46,h40,hw]
       repeat' (first
        | ((first
         | (refine ha.calls rfl ?_)
         | (refine ⟨sd,?_⟩))<;>(try simp only [go_sem,seval,n0,l9,d9 hix,h41,h46,h40,hw]))
        | fail)
theorem aT8:Gives Tryz.prog 120 [] (.d (.sl (Y1 ab3))):=by
 refine aE_ Tryz.func120 ?_;refine rS_ Tryz.func120 ?_;simp only [go_sem,seval];all_goals rfl
theorem bg7 (T:List (List UInt8)) (hTl:T.length<=20000) (hTm:∀t,t∈T->t.length<=100000):∀(n i:Nat) (G:Gl) (J:Nat),i<=T.length->rgT T n i=some (G,J)->Gives Tryz.prog 76 [.sl (Y1 T),.int .i64 i] (.tup [.d (.agg G.enc),.d (.int .i64 J),.d (.bool true)]):=by
 intro n;induction n using Nat.strongRecOn with
 | ind n ih =>
  intro i G J hi hR;have hmx:maxLen=9223372036854775807:=rfl;obtain ⟨n,rfl⟩:∃n',n=n'+1:=by
   cases n with
   | zero=>rw [rgT] at hR;cases hR
   | succ n=>exact ⟨n,rfl⟩
  cases hTi:T[i]? with
  | none=>rw [rgT,hTi] at hR;cases hR
  | some t =>
   have hil:=(e_.1 hTi).1;have n0:(i:Int)<(T.length:Int):=by omega
   have hix:=G8 hTi;have hw1:IntKind.i64.wrap ((i:Int)+1)=((i+1:Nat):Int):=by simp (disch:=omega) only [l6];omega
   have e0:aj4 0=[116,114,117,101]:=rfl;have e1:aj4 1=[102,97,105,108]:=rfl;have d1:¬([102,97,105,108]:List UInt8)=[116,114,117,101]:=by decide
   have d2:¬([40]:List UInt8)=[116,114,117,101]:=by decide
   have d3:¬([40]:List UInt8)=[102,97,105,108]:=by decide
   rcases aZ4 hR hTi with ⟨h0,rfl,rfl⟩ | ⟨h0,h1,rfl,rfl⟩ | ⟨h0,h1,h4,w,hw,hL⟩
   ·rw [e0] at h0
    subst h0;have hE:(Gl.mk 0 [] [] []).enc=[.int .i64 0,.str [],.sl [],.sl []]:=rfl;rw [hE];refine aE_ Tryz.func76 ?_;refine rS_ Tryz.func76 ?_;simp only [go_sem,seval,n0,l9,d9 hix,hw1]
   ·rw [e1] at h1
    subst h1;have hE:(Gl.mk 1 [] [] []).enc=[.int .i64 1,.str [],.sl [],.sl []]:=rfl;rw [hE];refine aE_ Tryz.func76 ?_;refine rS_ Tryz.func76 ?_;simp only [go_sem,seval,n0,l9,d9 hix,hw1,d1]
   ·subst h4
    have hwl:=(e_.1 hw).1;have hwx:=G8 hw;have n2:(i:Int)+1<(T.length:Int):=by omega
    have n3:¬(T.length:Int)<=(i:Int)+1:=by omega
    have hw2:IntKind.i64.wrap ((i:Int)+2)=((i+2:Nat):Int):=by simp (disch:=omega) only [l6];omega
    have hhl:∀x:List (List UInt8),(Y1 x).length=x.length:=fun x=>l9 x;have hwi:((i:Int)+1).toNat=i+1:=by omega
    refine aE_ Tryz.func76 ?_;refine rS_ Tryz.func76 ?_;simp only [go_sem,seval,n0,n2,n3,l9,d9 hix,d9 hwx,hw1,d2,d3,hwi]
    repeat' (first
     | ((first
      | (refine (aT8).calls rfl ?_)
      | (refine ⟨sd,?_⟩))<;>(try simp only [go_sem,seval,n0,n2,n3,l9,d9 hix,d9 hwx,hw1,d2,d3,hwi]))
     | fail)
    refine AW.rng ab3 [0,1,4,7,63,64] 65 63 (fun s:Int×List UInt8=>[]) (fun _ s=>[.box [.d (.int .i64 0),.d (.str []),.nil0,.nil0],.box [.d (.int .i64 s.1),.d (.str s.2),.nil0,.nil0]]) (fun r s=>hdF w r (ab3.length - r.length) s=hdF w ab3 0 (9,w)) (9,w) rfl (by simp [l9]) (by simp) A8 (fun k x r s hxk hdr hlt hm hinv hnext=>?_) (fun s hinv=>?_)
    ·have hkl:=congrArg List.length hdr
     simp only [t_,a_] at hkl;have hkk:ab3.length - (r.length+1)=k:=by omega
     simp only [hdF,a_,hkk] at hinv;have hk1:ab3.length - r.length=k+1:=by omega
     have hxx:=G8 hxk;by_cases e:x=w
     ·rw [if_pos e] at hinv
      subst e;refine rS_ Tryz.func76 ?_;simp only [go_sem,seval,hlt,l9,d9 hxx,n2,d9 hwx,hw1,hwi]
      repeat' (first
       | (simp (disch:=omega) only [l6])
       | ((refine ⟨sd,?_⟩)<;>(try simp only [go_sem,seval,hlt,l9,d9 hxx,n2,d9 hwx,hw1,hwi]))
       | fail)
      all_goals refine hnext ((k:Int),[]) _ (by rw [hk1];exact hinv) A8
     ·rw [if_neg e] at hinv
      refine rS_ Tryz.func76 ?_;simp only [go_sem,seval,hlt,l9,d9 hxx,n2,d9 hwx,hw1,e,hwi]
      repeat' (first
       | (simp (disch:=omega) only [l6])
       | ((refine ⟨sd,?_⟩)<;>(try simp only [go_sem,seval,hlt,l9,d9 hxx,n2,d9 hwx,hw1,e,hwi]))
       | fail)
      all_goals refine hnext s _ (by rw [hk1];exact hinv) A8
    ·simp only [hdF] at hinv
     subst hinv;have hge:(aV0 w).kind=(hdF w ab3 0 (9,w)).1/\(aV0 w).name=(hdF w ab3 0 (9,w)).2/\(aV0 w).terms=[]/\(aV0 w).goals=[]:=⟨rfl,rfl,rfl,rfl⟩;generalize hdF w ab3 0 (9,w)=s at hge |-;generalize aV0 w=g0 at hL hge;refine AW.adoptGB 1 2 4 60 (by decide) rfl rfl ?_;refine AW.adoptGB 1 3 4 79 (by decide) rfl rfl ?_;have hw2':IntKind.i64.wrap ((i:Int)+2)=((i+2:Nat):Int):=hw2;refine rS_ Tryz.func76 ?_;simp only [go_sem,seval,hw2];refine AW.lp [0,4,7] (fun u:Nat×Nat×Gl×Nat×Nat=>[(1,.d (.int .i64 (u.2.1:Int)))]) (fun _ u=>[.box [.d (.int .i64 0),.d (.str []),.nil0,.nil0],.box [.d (.int .i64 u.2.2.1.kind),.d (.str u.2.2.1.name),.own 2 u.2.2.2.1,.own 3 u.2.2.2.2],.grow u.2.2.2.1 4 60 (u.2.2.1.terms.map Tm.enc),.grow u.2.2.2.2 4 79 (u.2.2.1.goals.map Gl.enc)]) (fun u=>u.1<=n/\u.2.1<=T.length/\rgL T u.1 u.2.1 u.2.2.1=some (G,J)/\u.2.2.1.terms.length+u.2.2.1.goals.length<=u.2.1) (fun u=>u.1) (n,i+2,g0,0,0) ⟨m_ _,by dsimp only;omega,hL,by dsimp only;rw [hge.2.2.1,hge.2.2.2];simp⟩ (by refine ⟨by simp [mkS,hge.1,hge.2.1,hge.2.2.1,hge.2.2.2],by simp [mkS,hge.1,hge.2.1,hge.2.2.1,hge.2.2.2],by simp only [mkS,b_,d_,O.refsLt,C.refsLt,C.refsLt1,o5];first | done | rfl | (simp;done),?_⟩;simp [mkS,Abs.get,C.refsLtT,C.refsLt,C.refsLt1,hge.1,hge.2.1,hge.2.2.1,hge.2.2.2]) ?_;rintro ⟨m,j,g,q1,q2⟩ ⟨hm,hj,hrl,hgl⟩ hnext;dsimp only at hm hj hrl hgl hnext |-;obtain ⟨m,rfl⟩:∃m',m=m'+1:=by
      cases m with
      | zero=>rw [rgL] at hrl;cases hrl
      | succ m=>exact ⟨m,rfl⟩
     obtain ⟨t,hTj,hk⟩:=aZ5 hrl;have hjl:=(e_.1 hTj).1;have hjx:=G8 hTj;have m1:(j:Int)<(T.length:Int):=by omega
     have hwj:IntKind.i64.wrap ((j:Int)+1)=((j+1:Nat):Int):=by simp (disch:=omega) only [l6];omega
     have hnx:=fun m' j' g' a b s'=>hnext (m',j',g',a,b) s';clear hnext;rcases hk with ⟨h41,hk1,rfl,rfl⟩ | ⟨h41,hne,x,k,h1,h2⟩ | ⟨h41,hne,v,k,h1,h2⟩
     ·subst h41
      rw [Gl.enc_eq];refine l7 Tryz.func76 mixed 6 _ _ (by kernel_rfl) ?_;simp only [go_sem,seval,run.eq_1,m1,l9,d9 hjx,hwj,hk1];refine AW.drawA mixed #[true,true,true,true,true,true,true,true,true,true,true,true,true,true,true] [(1,.box [.d (.int .i64 G.kind),.d (.str G.name),.own 2 q1,.own 3 q2])] [] [0,1,2,3,4,5,6,7,8,9,10,11,12,13,14] [] none (by kernel_rfl) trivial (by simp [x9]) ?_;simp only [go_sem,seval,m1,hwj,hk1,l9];refine rS_ Tryz.func76 ?_;simp only [go_sem,seval]
     ·have hr:=ih m (by omega) j x k hj h1
      have hb:=(bF7 T m).1 _ _ _ h1;have hXe:x.enc=[.int .i64 x.kind,.str x.name,.sl (x.terms.map Tm.enc),.sl (x.goals.map Gl.enc)]:=Gl.enc_eq x;have e1:(g.addG x).kind=g.kind:=rfl;have e2:(g.addG x).name=g.name:=rfl;have e3:(g.addG x).terms=g.terms:=rfl;have e4:(g.addG x).goals=g.goals++[x]:=rfl;unfold Gl.nest at hne;simp only [Bool.or_eq_true,decide_eq_true_eq] at hne;rcases (show g.kind=7\/(¬g.kind=7/\g.kind=8)\/(¬g.kind=7/\¬g.kind=8/\g.kind=10) by omega) with k7 | ⟨k7,k8⟩ | ⟨k7,k8,k10⟩
      ·refine rS_ Tryz.func76 ?_
       simp only [go_sem,seval,m1,l9,d9 hjx,h41,k7]
       repeat' (first
        | ((first
         | (refine hr.calls rfl ?_)
         | (refine ⟨sd,?_⟩))<;>(try simp only [go_sem,seval,m1,l9,d9 hjx,h41,k7]))
        | fail)
       all_goals refine hnx m k (g.addG x) q1 (q2+1) _ ⟨by dsimp only;omega,hb.2,h2,by rw [e3,e4,c_];dsimp only [a_,g_];omega⟩ (by dsimp only;omega) (by refine ⟨by simp [mkS,e1,e2,e3,e4,hXe,k7],by simp [mkS,e1,e2,e3,e4,hXe,k7],by simp only [mkS,b_,d_,O.refsLt,C.refsLt,C.refsLt1,o5];first | done | rfl | (simp;done),?_⟩;simp [mkS,Abs.get,C.refsLtT,C.refsLt,C.refsLt1,e1,e2,e3,e4,hXe,k7])
      ·refine rS_ Tryz.func76 ?_
       simp only [go_sem,seval,m1,l9,d9 hjx,h41,k7,k8]
       repeat' (first
        | ((first
         | (refine hr.calls rfl ?_)
         | (refine ⟨sd,?_⟩))<;>(try simp only [go_sem,seval,m1,l9,d9 hjx,h41,k7,k8]))
        | fail)
       all_goals refine hnx m k (g.addG x) q1 (q2+1) _ ⟨by dsimp only;omega,hb.2,h2,by rw [e3,e4,c_];dsimp only [a_,g_];omega⟩ (by dsimp only;omega) (by refine ⟨by simp [mkS,e1,e2,e3,e4,hXe,k8],by simp [mkS,e1,e2,e3,e4,hXe,k8],by simp only [mkS,b_,d_,O.refsLt,C.refsLt,C.refsLt1,o5];first | done | rfl | (simp;done),?_⟩;simp [mkS,Abs.get,C.refsLtT,C.refsLt,C.refsLt1,e1,e2,e3,e4,hXe,k8])
      ·refine rS_ Tryz.func76 ?_
       simp only [go_sem,seval,m1,l9,d9 hjx,h41,k7,k8,k10]
       repeat' (first
        | ((first
         | (refine hr.calls rfl ?_)
         | (refine ⟨sd,?_⟩))<;>(try simp only [go_sem,seval,m1,l9,d9 hjx,h41,k7,k8,k10]))
        | fail)
       all_goals refine hnx m k (g.addG x) q1 (q2+1) _ ⟨by dsimp only;omega,hb.2,h2,by rw [e3,e4,c_];dsimp only [a_,g_];omega⟩ (by dsimp only;omega) (by refine ⟨by simp [mkS,e1,e2,e3,e4,hXe,k10],by simp [mkS,e1,e2,e3,e4,hXe,k10],by simp only [mkS,b_,d_,O.refsLt,C.refsLt,C.refsLt1,o5];first | done | rfl | (simp;done),?_⟩;simp [mkS,Abs.get,C.refsLtT,C.refsLt,C.refsLt1,e1,e2,e3,e4,hXe,k10])
     ·have hg:=bh4 T hTl hTm (2 * (T.length - j)+1) j hj (m_ _)
      have hr:=aF5 h1 hg;have hb:=(aL4 false T _).1 _ _ _ h1;have hXe:v.enc=[.int .i64 v.kind,.int .i64 v.int,.str v.name,.sl (v.kids.map V.enc)]:=V.enc_eq v;have hVe:v.tm.enc=v.enc:=rfl;have e1:(g.addT v.tm).kind=g.kind:=rfl;have e2:(g.addT v.tm).name=g.name:=rfl;have e3:(g.addT v.tm).terms=g.terms++[v.tm]:=rfl;have e4:(g.addT v.tm).goals=g.goals:=rfl;unfold Gl.nest at hne;simp only [Bool.or_eq_false_iff,decide_eq_false_iff_not] at hne;obtain ⟨⟨k7,k8⟩,k10⟩:=hne;refine rS_ Tryz.func76 ?_;simp only [go_sem,seval,m1,l9,d9 hjx,h41,k7,k8,k10]
      repeat' (first
       | ((first
        | (refine hr.calls rfl ?_)
        | (refine ⟨sd,?_⟩))<;>(try simp only [go_sem,seval,m1,l9,d9 hjx,h41,k7,k8,k10]))
       | fail)
      all_goals refine hnx m k (g.addT v.tm) (q1+1) q2 _ ⟨by dsimp only;omega,hb.2.1,h2,by rw [e3,e4,c_];dsimp only [a_,g_];omega⟩ (by dsimp only;omega) (by refine ⟨by simp [mkS,e1,e2,e3,e4,hXe,hVe],by simp [mkS,e1,e2,e3,e4,hXe,hVe],by simp only [mkS,b_,d_,O.refsLt,C.refsLt,C.refsLt1,o5];first | done | rfl | (simp;done),?_⟩;simp [mkS,Abs.get,C.refsLtT,C.refsLt,C.refsLt1,e1,e2,e3,e4,hXe,hVe])
set_option maxHeartbeats 8000000
theorem P9 (k:Nat) (hk:k<=20000):Gives Tryz.prog 75 [.int .i64 (k:Int)] (.d (.str (dec (k:Int)))):=T9 _ (by omega) (by omega)
theorem av9 {x:List UInt8}:∀(l:List (List UInt8)) (k:Nat),(∀i y,i<k->l[i]? = some y->y≠x)->l[k]? = some x->l.findIdx (fun y=>y == x)=k
 | [],k,_,h=>by simp at h
 | y :: r,0,_,h=>by
  simp at h;subst h;simp [J_]
 | y :: r,k+1,hn,h=>by
  have h0:=hn 0 y (by omega) rfl;have ih:=av9 r k (fun i z hi hz=>hn (i+1) z (by omega) (by simpa using hz)) (by simpa using h);rw [J_];have:(y == x)=false:=by simpa using h0
  rw [this];simp [ih]
theorem aw0 {x:List UInt8}:∀(l:List (List UInt8)),(∀(i:Nat) y,l[i]? = some y->y≠x)->l.findIdx (fun y=>y == x)=l.length
 | [],_=>rfl
 | y :: r,hn=>by
  have h0:=hn 0 y rfl;have ih:=aw0 r (fun i z hz=>hn (i+1) z (by simpa using hz));rw [J_];have:(y == x)=false:=by simpa using h0
  rw [this];simp [ih]
theorem aN4 (T:List (List UInt8)) (hTl:T.length<=20000) (hTm:∀t,t∈T->t≠[]/\t.length<=100000) (R:List (List UInt8)) (c:Nat) (hR:nbT T [] []=some (R,c)):Gives Tryz.prog 74 [.sl (Y1 T)] (.tup [.d (.sl (Y1 R)),.d (.int .i64 c),.d (.bool true)]):=by
 have hmx:maxLen=9223372036854775807:=rfl;refine aE_ Tryz.func74 ?_;refine rS_ Tryz.func74 ?_;simp only [go_sem,seval,l9];refine AW.adopt 5 1 9 (by decide) rfl ?_;refine AW.adopt 6 1 9 (by decide) rfl ?_;refine AW.rng T [14,15] 16 14 (fun u:List (List UInt8)×List (List UInt8)×Nat×Nat=>[(5,.own 0 u.2.2.1),(6,.own 1 u.2.2.2)]) (fun _ u=>[.grow u.2.2.1 1 9 (Y1 u.1),.grow u.2.2.2 1 9 (Y1 u.2.1)]) (fun r u=>nbT r u.1 u.2.1=some (R,c)/\u.1.length+r.length<=T.length/\u.2.1.length+r.length<=T.length) ([],[],0,0) rfl (by simp [l9]) ⟨hR,by simp,by simp⟩ (by refine ⟨by simp [mkS,Y1],by simp [mkS,Y1],by simp only [mkS,b_,d_,O.refsLt,C.refsLt,C.refsLt1,o5];first | done | rfl | (simp;done),?_⟩;simp [mkS,Abs.get,C.refsLtT,C.refsLt,C.refsLt1]) (fun i x r u hxi hdr hlt hm hinv hnext=>?_) (fun u hinv=>?_)
 ·obtain ⟨ns,out,q1,q2⟩:=u
  obtain ⟨i1,i2,i3⟩:=hinv;dsimp only [a_] at i1 i2 i3 hnext |-;have hnx:=fun a b q q' s'=>hnext (a,b,q,q') s';clear hnext;have hxm:=hTm x (f_ hxi);have hxx:=G8 hxi;obtain ⟨b,rs,hxc⟩:∃b rs,x=b :: rs:=by
   cases x with
   | nil=>exact absurd rfl hxm.1
   | cons b rs=>exact ⟨b,rs,rfl⟩
  have g1:(0:Int)<(x.length:Int):=by rw [hxc,a_];omega
  have g3:x.drop 1=x.tail:=by rw [hxc];rfl
  have g4:(((x[0]?).getD 0).toNat:Int)=b.toNat:=by rw [hxc];rfl
  have g5:(1:Int)<=(x.length:Int):=by omega
  have hhd:x.head? = some b:=by rw [hxc];rfl
  have htl:x.tail.length<=100000:=by have:=hxm.2;rw [List.length_tail];omega
  simp only [nbT] at i1;by_cases h63:b=63
  ·have g2:(((x[0]?).getD 0).toNat:Int)=63:=by rw [g4,h63];rfl
   rw [if_neg (by rw [hhd,h63];simp)] at i1;by_cases hnb:nbB x.tail=true
   ·rw [if_pos hnb] at i1
    have hn:=ac0 x.tail (by omega);have hp:=U2 x.tail (by omega);have hdone:∀(k:Nat),k<=ns.length->k=ns.findIdx (fun y=>y == x)->Gives Tryz.prog 75 [.int .i64 (k:Int)] (.d (.str (dec (k:Int)))):=fun k hk _=>P9 k (by omega);have hpv:∃(nv:Int) (ok:Bool),Gives Tryz.prog 118 [.str x.tail] (.tup [.d (.int .i64 nv),.d (.bool ok)])/\(ok && (decide (0<=nv) && decide (nv<=100000)))=inR (U3 x.tail):=by
     cases hpi:U3 x.tail with
     | none=>exact ⟨0,false,by rw [I9 hpi] at hp;exact hp,rfl⟩
     | some n=>exact ⟨n,true,by rw [ai4 hpi] at hp;exact hp,by simp [inR]⟩
    obtain ⟨nv,ok,hpg,hpe⟩:=hpv;have hin:=E9 nv 0 100000;unfold nbB at hnb;rw [<-hpe] at hnb;clear hp hpe;generalize (decide (0<=nv) && decide (nv<=100000))=inb at hin hnb;obtain ⟨K,hK⟩:∃K,ns.findIdx (fun y=>y == x)=K:=⟨_,rfl⟩;rw [hK] at i1;cases hN:F9 x.tail with
    | true =>
     rw [hN] at hn;refine rS_ Tryz.func74 ?_;simp only [go_sem,seval,hlt,l9,d9 hxx,g1,g2,g3,g5]
     repeat' (first
      | ((first
       | (refine hpg.calls rfl ?_)
       | (refine hn.calls rfl ?_))<;>(try simp only [go_sem,seval,hlt,l9,d9 hxx,g1,g2,g3,g5]))
      | fail)
     refine AW.lp [5,6,8,14,15,16] (fun k:Nat=>[(11,.d (.int .i64 (k:Int)))]) (fun H _=>H) (fun k=>k<=ns.length/\∀i y,i<k->ns[i]? = some y->y≠x) (fun k=>ns.length - k) 0 ⟨q_ _,fun i y hi=>by omega⟩ A8 ?_;rintro k ⟨hk1,hk2⟩ hnk;by_cases hkl:k<ns.length
     ·obtain ⟨y,hy⟩:∃y,ns[k]? = some y:=⟨_,h_ hkl⟩
      have hyx:=G8 hy;have m1:(k:Int)<(ns.length:Int):=by omega
      by_cases hxy:y=x
      ·subst hxy
       have hKk:K=k:=by rw [<-hK];exact av9 ns k hk2 hy
       have hmem:y∈ns:=f_ hy;rw [if_pos hmem,hKk] at i1;have m2:¬(k:Int)=(ns.length:Int):=by omega
       have hf:=P9 k (by omega);have hdl:=am6 (n:=(k:Int)) (by omega) (by omega);refine rS_ Tryz.func74 ?_;simp only [go_sem,seval,m1,m2,l9,d9 hyx]
       repeat' (first
        | (simp (disch:=omega) only [l6])
        | ((first
         | (refine hf.calls rfl ?_)
         | (refine ⟨sd,?_⟩))<;>(try simp only [go_sem,seval,m1,m2,l9,d9 hyx]))
        | fail)
       all_goals refine hnx ns (out++[63 :: dec (k:Nat)]) q1 (q2+1) _ ⟨i1,by dsimp only;omega,by dsimp only;rw [c_];dsimp only [a_,g_];omega⟩ (by refine ⟨by simp [mkS,y5,E8],by simp [mkS,y5,E8],by simp only [mkS,b_,d_,O.refsLt,C.refsLt,C.refsLt1,o5];first | done | rfl | (simp;done),?_⟩;simp [mkS,Abs.get,C.refsLtT,C.refsLt,C.refsLt1])
      ·have wk:IntKind.i64.wrap ((k:Int)+1)=((k+1:Nat):Int):=by simp (disch:=omega) only [l6];omega
       refine rS_ Tryz.func74 ?_;simp only [go_sem,seval,m1,l9,d9 hyx,hxy,wk];all_goals refine hnk (k+1) _ ⟨hkl,fun i z hi hz=>?_⟩ (by omega) A8
       rcases k_.1 hi with h' | rfl
       ·exact hk2 i z h' hz
       ·rw [hy] at hz;cases hz;exact hxy
     ·obtain rfl:k=ns.length:=by omega
      have hKk:K=ns.length:=by rw [<-hK];exact aw0 ns (fun i z hz=>hk2 i z (e_.1 hz).1 hz)
      have hmem:¬x∈ns:=fun h=>by
       obtain ⟨i,hi⟩:=List.getElem?_of_mem h;exact hk2 i x (e_.1 hi).1 hi rfl
      rw [if_neg hmem,hKk] at i1;have m1:¬(ns.length:Int)<(ns.length:Int):=by omega
      have hf:=P9 ns.length (by omega);have hdl:=am6 (n:=(ns.length:Int)) (by omega) (by omega);refine rS_ Tryz.func74 ?_;simp only [go_sem,seval,m1,l9]
      repeat' (first
       | (simp (disch:=omega) only [l6])
       | ((first
        | (refine hf.calls rfl ?_)
        | (refine ⟨sd,?_⟩))<;>(try simp only [go_sem,seval,m1,l9]))
       | fail)
      all_goals refine hnx (ns++[x]) (out++[63 :: dec (ns.length:Nat)]) (q1+1) (q2+1) _ ⟨i1,by dsimp only;rw [c_];dsimp only [a_,g_];omega,by dsimp only;rw [c_];dsimp only [a_,g_];omega⟩ (by refine ⟨by simp [mkS,y5,E8],by simp [mkS,y5,E8],by simp only [mkS,b_,d_,O.refsLt,C.refsLt,C.refsLt1,o5];first | done | rfl | (simp;done),?_⟩;simp [mkS,Abs.get,C.refsLtT,C.refsLt,C.refsLt1])
    | false =>
     rw [hN] at hn hnb;simp only [M_,i_] at hnb;obtain ⟨rfl,rfl⟩:=hnb;refine rS_ Tryz.func74 ?_;simp only [go_sem,seval,hlt,l9,d9 hxx,g1,g2,g3,g5]
     repeat' (first
      | ((first
       | (refine hpg.calls rfl ?_)
       | (refine hn.calls rfl ?_)
       | (refine hin.calls rfl ?_))<;>(try simp only [go_sem,seval,hlt,l9,d9 hxx,g1,g2,g3,g5]))
      | fail)
     refine AW.lp [5,6,8,14,15,16] (fun k:Nat=>[(11,.d (.int .i64 (k:Int)))]) (fun H _=>H) (fun k=>k<=ns.length/\∀i y,i<k->ns[i]? = some y->y≠x) (fun k=>ns.length - k) 0 ⟨q_ _,fun i y hi=>by omega⟩ A8 ?_;rintro k ⟨hk1,hk2⟩ hnk;by_cases hkl:k<ns.length
     ·obtain ⟨y,hy⟩:∃y,ns[k]? = some y:=⟨_,h_ hkl⟩
      have hyx:=G8 hy;have m1:(k:Int)<(ns.length:Int):=by omega
      by_cases hxy:y=x
      ·subst hxy
       have hKk:K=k:=by rw [<-hK];exact av9 ns k hk2 hy
       have hmem:y∈ns:=f_ hy;rw [if_pos hmem,hKk] at i1;have m2:¬(k:Int)=(ns.length:Int):=by omega
       have hf:=P9 k (by omega);have hdl:=am6 (n:=(k:Int)) (by omega) (by omega);refine rS_ Tryz.func74 ?_;simp only [go_sem,seval,m1,m2,l9,d9 hyx]
       repeat' (first
        | (simp (disch:=omega) only [l6])
        | ((first
         | (refine hf.calls rfl ?_)
         | (refine ⟨sd,?_⟩))<;>(try simp only [go_sem,seval,m1,m2,l9,d9 hyx]))
        | fail)
       all_goals refine hnx ns (out++[63 :: dec (k:Nat)]) q1 (q2+1) _ ⟨i1,by dsimp only;omega,by dsimp only;rw [c_];dsimp only [a_,g_];omega⟩ (by refine ⟨by simp [mkS,y5,E8],by simp [mkS,y5,E8],by simp only [mkS,b_,d_,O.refsLt,C.refsLt,C.refsLt1,o5];first | done | rfl | (simp;done),?_⟩;simp [mkS,Abs.get,C.refsLtT,C.refsLt,C.refsLt1])
      ·have wk:IntKind.i64.wrap ((k:Int)+1)=((k+1:Nat):Int):=by simp (disch:=omega) only [l6];omega
       refine rS_ Tryz.func74 ?_;simp only [go_sem,seval,m1,l9,d9 hyx,hxy,wk];all_goals refine hnk (k+1) _ ⟨hkl,fun i z hi hz=>?_⟩ (by omega) A8
       rcases k_.1 hi with h' | rfl
       ·exact hk2 i z h' hz
       ·rw [hy] at hz;cases hz;exact hxy
     ·obtain rfl:k=ns.length:=by omega
      have hKk:K=ns.length:=by rw [<-hK];exact aw0 ns (fun i z hz=>hk2 i z (e_.1 hz).1 hz)
      have hmem:¬x∈ns:=fun h=>by
       obtain ⟨i,hi⟩:=List.getElem?_of_mem h;exact hk2 i x (e_.1 hi).1 hi rfl
      rw [if_neg hmem,hKk] at i1;have m1:¬(ns.length:Int)<(ns.length:Int):=by omega
      have hf:=P9 ns.length (by omega);have hdl:=am6 (n:=(ns.length:Int)) (by omega) (by omega);refine rS_ Tryz.func74 ?_;simp only [go_sem,seval,m1,l9]
      repeat' (first
       | (simp (disch:=omega) only [l6])
       | ((first
        | (refine hf.calls rfl ?_)
        | (refine ⟨sd,?_⟩))<;>(try simp only [go_sem,seval,m1,l9]))
       | fail)
      all_goals refine hnx (ns++[x]) (out++[63 :: dec (ns.length:Nat)]) (q1+1) (q2+1) _ ⟨i1,by dsimp only;rw [c_];dsimp only [a_,g_];omega,by dsimp only;rw [c_];dsimp only [a_,g_];omega⟩ (by refine ⟨by simp [mkS,y5,E8],by simp [mkS,y5,E8],by simp only [mkS,b_,d_,O.refsLt,C.refsLt,C.refsLt1,o5];first | done | rfl | (simp;done),?_⟩;simp [mkS,Abs.get,C.refsLtT,C.refsLt,C.refsLt1])
   ·rw [if_neg hnb] at i1;cases i1
  ·have g2:¬(((x[0]?).getD 0).toNat:Int)=63:=by
    rw [g4];exact fun h=>h63 ((ap1 (n:=63) (by omega)).2 h)
   have g6:((((x[0]?).getD 0).toNat:Int) != 63)=true:=by simp [g2]
   rw [if_pos (by rw [hhd];intro h;exact h63 (Option.some.inj h))] at i1;refine rS_ Tryz.func74 ?_;simp only [go_sem,seval,hlt,l9,d9 hxx,g1,g6]
   repeat' (first
    | (simp (disch:=omega) only [l6])
    | ((refine ⟨sd,?_⟩)<;>(try simp only [go_sem,seval,hlt,l9,d9 hxx,g1,g6]))
    | fail)
   all_goals refine hnx ns (out++[x]) q1 (q2+1) _ ⟨i1,by dsimp only;omega,by dsimp only;rw [c_];dsimp only [a_,g_];omega⟩ (by refine ⟨by simp [mkS,y5,E8],by simp [mkS,y5,E8],by simp only [mkS,b_,d_,O.refsLt,C.refsLt,C.refsLt1,o5];first | done | rfl | (simp;done),?_⟩;simp [mkS,Abs.get,C.refsLtT,C.refsLt,C.refsLt1])
 ·obtain ⟨ns,out,q1,q2⟩:=u
  obtain ⟨i1,i2,i3⟩:=hinv;dsimp only at i1 i2 i3 |-;simp only [nbT] at i1;cases i1;refine rS_ Tryz.func74 ?_;simp only [go_sem,seval,l9]
end Go.Proofs.YtmfkcdelddmfpaaGreat
namespace Go.Abs
theorem aT5:∀(r ns out R:List (List UInt8)) (c:Nat),nbT r ns out=some (R,c)->ns.length+r.length<=20000->(∀t,t∈r->t.length<=100000)->(∀t,t∈out->t.length<=100000)->R.length=out.length+r.length/\c<=ns.length+r.length/\∀t,t∈R->t.length<=100000
 | [],ns,out,R,c,h,_,_,ho=>by
  simp only [nbT] at h;cases h;exact ⟨by simp,by simp,ho⟩
 | t :: r,ns,out,R,c,h,hl,hr,ho=>by
  simp only [a_] at hl;simp only [nbT] at h;have hr':∀t,t∈r->t.length<=100000:=fun x hx=>hr x (by simp [hx]);split at h
  ·obtain ⟨i1,i2,i3⟩:=aT5 r ns (out++[t]) R c h (by omega) hr' (fun x hx=>by
    rcases l_.1 hx with hx | hx
    ·exact ho x hx
    ·simp at hx;subst hx;exact hr x (by simp))
   simp only [c_,a_,g_] at i1 |-;exact ⟨by omega,by omega,i3⟩
  ·split at h
   ·have hfi:ns.findIdx (fun x=>x == t)<=ns.length:=List.findIdx_le_length
    have hdl:=am6 (n:=(ns.findIdx (fun x=>x == t):Nat)) (by omega) (by omega);have hns:(if t∈ns then ns else ns++[t]).length<=ns.length+1:=by split<;>simp
    obtain ⟨i1,i2,i3⟩:=aT5 r _ _ R c h (by omega) hr' (fun x hx=>by
     rcases l_.1 hx with hx | hx
     ·exact ho x hx
     ·simp at hx;subst hx;simp;omega)
    simp only [c_,a_,g_] at i1 |-;exact ⟨by omega,by omega,i3⟩
   ·cases h
theorem bF9 (T:List (List UInt8)):∀(n a b:Nat),a<=b->b<a+bK1 T n a->T[4+b]? = some (63 :: dec (b:Nat))
 | 0,a,b,h1,h2=>by simp only [bK1] at h2;omega
 | n+1,a,b,h1,h2=>by
  simp only [bK1] at h2;split at h2
  ·rename_i h
   by_cases e:b=a
   ·subst e;exact h
   ·exact bF9 T n (a+1) b (by omega) (by omega)
  ·omega
theorem bN2 {all:List (List UInt8)} {r:Rl} (h:dfT all=some r):∃T c a g j,nbT all [] []=some (T,c)/\6<=T.length/\T[1]? = some [100,101,102,105,110,101]/\T[2]? = some [40]/\(∀b,b<a->T[4+b]? = some (63 :: dec (b:Nat)))/\T[4+a]? = some [41]/\rgT T (2 * T.length+1) (5+a)=some (g,j)/\j+1=T.length/\r=⟨T.getD 3 [],(a:Int),(c:Int) - (a:Int),g⟩:=by
 unfold dfT at h;cases hn:nbT all [] [] with
 | none=>rw [hn] at h;cases h
 | some x =>
  obtain ⟨T,c⟩:=x;rw [hn] at h;dsimp only at h;by_cases h6:T.length<6
  ·rw [if_pos h6] at h;cases h
  ·rw [if_neg h6] at h
   by_cases h12:T[1]? = some [100,101,102,105,110,101]/\T[2]? = some [40]
   ·rw [if_pos h12] at h
    by_cases h4:T[4+bK1 T T.length 0]? = some [41]
    ·rw [if_pos h4] at h
     cases hg:rgT T (2 * T.length+1) (5+bK1 T T.length 0) with
     | none=>rw [hg] at h;cases h
     | some y =>
      obtain ⟨g,j⟩:=y;rw [hg] at h;dsimp only at h;by_cases hj:j+1=T.length
      ·rw [if_pos hj] at h
       cases h;exact ⟨T,c,_,g,j,rfl,by omega,h12.1,h12.2,fun b hb=>bF9 T T.length 0 b (q_ _) (by omega),h4,hg,hj,rfl⟩
      ·rw [if_neg hj] at h;cases h
    ·rw [if_neg h4] at h;cases h
   ·rw [if_neg h12] at h;cases h
end Go.Abs
namespace Go.Proofs.YtmfkcdelddmfpaaGreat
open Go.Abs
set_option maxRecDepth 100000
set_option maxHeartbeats 8000000
set_option linter.unusedSimpArgs false
set_option linter.unusedVariables false
theorem aa6 (all:List (List UInt8)) (r:Rl) (hl:all.length<=20000) (hm:∀t,t∈all->t≠[]/\t.length<=100000) (h:dfT all=some r):Gives Tryz.prog 41 [.sl (Y1 all)] (.tup [.d (.agg r.enc),.d (.bool true)]):=by
 have hmx:maxLen=9223372036854775807:=rfl;obtain ⟨T,c,a,g,j,h1,h6,hT1,hT2,hprm,hT4,hrg,hj,rfl⟩:=bN2 h;have hnum:=aN4 all hl hm T c h1;obtain ⟨k1,k2,k3⟩:=aT5 all [] [] T c h1 (by simpa using hl) (fun t ht=>(hm t ht).2) (fun t ht=>by cases ht);simp only [g_,Nat.zero_add] at k1 k2;have hal:=(e_.1 hT4).1;have hrd:=bg7 T (by omega) k3 _ (5+a) g j (by omega) hrg;obtain ⟨nm,hT3⟩:∃nm,T[3]? = some nm:=⟨_,h_ (by omega)⟩;have hnm:T.getD 3 []=nm:=by rw [x_,hT3];rfl
 rw [hnm];have x1:=G8 hT1;have x2:=G8 hT2;have x3:=G8 hT3;have x4:=G8 hT4;have n6:¬(T.length:Int)<6:=by omega
 have n1:(1:Int)<(T.length:Int):=by omega
 have n2:(2:Int)<(T.length:Int):=by omega
 have n3:(3:Int)<(T.length:Int):=by omega
 have hRe:(Rl.mk nm (a:Int) ((c:Int) - (a:Int)) g).enc=[.str nm,.int .i64 (a:Int),.int .i64 ((c:Int) - (a:Int)),.int .i64 g.kind,.str g.name,.sl (g.terms.map Tm.enc),.sl (g.goals.map Gl.enc)]:=Rl.enc_eq _;rw [hRe];refine aE_ Tryz.func41 ?_;refine rS_ Tryz.func41 ?_;simp only [go_sem,seval,l9,n6,n1,n2,n3,d9 x1,d9 x2,d9 x3]
 repeat' (first
  | ((refine hnum.calls rfl ?_)<;>(try simp only [go_sem,seval,l9,n6,n1,n2,n3,d9 x1,d9 x2,d9 x3]))
  | fail)
 refine AW.lp [2,4,5,7] (fun b:Nat=>[(8,.d (.int .i64 ((4+b:Nat):Int)))]) (fun _ b=>[.box [.d (.str []),.d (.int .i64 0),.d (.int .i64 0),.d (.int .i64 0),.d (.str []),.nil0,.nil0],.box [.d (.str nm),.d (.int .i64 (b:Int)),.d (.int .i64 0),.d (.int .i64 0),.d (.str []),.nil0,.nil0]]) (fun b=>b<=a) (fun b=>a - b) 0 (q_ _) A8 ?_;intro b hb hnext;have hf:=P9 b (by omega);have hdl:=am6 (n:=(b:Int)) (by omega) (by omega);have m1:((4+b:Nat):Int)<(T.length:Int):=by omega
 have m1':(4:Int)+(b:Int)<(T.length:Int):=by omega
 have m2:¬(T.length:Int)<=(4:Int)+(b:Int):=by omega
 have hti:((4:Int)+(b:Int)).toNat=4+b:=by omega
 have w8:IntKind.i64.wrap ((4:Int)+(b:Int)+1)=(4:Int)+((b:Int)+1):=by rw [l6 (by omega) (by omega)];omega
 have w1:IntKind.i64.wrap ((b:Int)+1)=(b:Int)+1:=by simp (disch:=omega) only [l6]
 by_cases hba:b<a
 ·have hat:=G8 (hprm b hba)
  refine rS_ Tryz.func41 ?_;simp only [go_sem,seval,m1,m1',m2,hti,l9,d9 hat,w8,w1]
  repeat' (first
   | ((first
    | (refine hf.callQ rfl ?_)
    | (refine ⟨sd,?_⟩))<;>(try simp only [go_sem,seval,m1,m1',m2,hti,l9,d9 hat,w8,w1]))
   | fail)
  all_goals refine hnext (b+1) _ hba (by omega) A8
 ·obtain rfl:b=a:=by omega
  have hne:¬([41]:List UInt8)=63 :: dec (b:Int):=by intro h;injection h with h1 h2;exact absurd h1 (by decide)
  have hrd':Gives Tryz.prog 76 [.sl (Y1 T),.int .i64 ((4:Int)+((b:Int)+1))] (.tup [.d (.agg g.enc),.d (.int .i64 j),.d (.bool true)]):=by
   rw [show (4:Int)+((b:Int)+1)=((5+b:Nat):Int) by omega];exact hrd
  have wc:IntKind.i64.wrap ((c:Int) - (b:Int))=(c:Int) - (b:Int):=by simp (disch:=omega) only [l6]
  have wt:IntKind.i64.wrap ((T.length:Int) - 1)=(j:Int):=by rw [l6 (by omega) (by omega)];omega
  have hge:=Gl.enc_eq g;refine rS_ Tryz.func41 ?_;simp only [go_sem,seval,m1,m1',m2,hti,l9,d9 x4,w8,w1,hne,wc,wt,hge]
  repeat' (first
   | ((first
    | (refine hf.callQ rfl ?_)
    | (refine hrd'.calls rfl ?_)
    | (refine ⟨sd,?_⟩))<;>(try simp only [go_sem,seval,m1,m1',m2,hti,l9,d9 x4,w8,w1,hne,wc,wt,hge]))
   | fail)
set_option maxHeartbeats 4000000
theorem al6 (a b:List V):Gives Tryz.prog 107 [.sl (a.map V.enc),.sl (b.map V.enc)] (.d (.int .i64 (V.cmpL a b))):=by
 refine aE_ Tryz.func107 ?_;refine rS_ Tryz.func107 ?_;simp only [go_sem,seval];refine AW.len 0 rfl (fun hl=>?_);simp only [maxLen,o_] at hl;refine AW.lp [0,1] (fun i:Nat=>[(5,.d (.int .i64 i))]) (fun H _=>H) (fun i=>i<=a.length/\i<=b.length/\V.cmpL (a.drop i) (b.drop i)=V.cmpL a b/\F8 ((a.drop i).length:Int) ((b.drop i).length:Int)=F8 (a.length:Int) (b.length:Int)) (fun i=>a.length - i) 0 ⟨by omega,by omega,rfl,rfl⟩ H6 ?_;rintro i ⟨hi,hj,hinv,hord⟩ hnext;by_cases h:i<a.length/\i<b.length
 ·obtain ⟨h1,h2⟩:=h
  have e1:a.drop i=a[i] :: a.drop (i+1):=n_ h1;have e2:b.drop i=b[i] :: b.drop (i+1):=n_ h2;have g1:a[i]? = some a[i]:=h_ h1;have g2:b[i]? = some b[i]:=h_ h2;generalize a[i]=x at e1 g1;generalize b[i]=y at e2 g2;rw [e1,e2,V.cmpL_cons] at hinv;have h1':(i:Int)<a.length:=by omega
  have h2':(i:Int)<b.length:=by omega
  refine rS_ Tryz.func107 ?_;simp only [go_sem,seval,h1',h2',d9 g1,d9 g2]
  repeat' (first
   | ((refine C9 (fun hq=>?_) (fun hq=>?_))<;>(try simp only [go_sem,seval,h1',h2',d9 g1,d9 g2,hq]))
   | (simp (disch:=omega) only [l6])
   | (refine hnext (i+1) _ ⟨by omega,by omega,by simp_all,?_⟩ (by omega) H6)
   | ((refine (O9 _ _ _ (m_ _)).callQ rfl ?_)<;>(try simp only [go_sem,seval,h1',h2',d9 g1,d9 g2]))
   | fail)
  all_goals clear hnext
  ·simp_all
  ·rw [<-hord];simp only [t_,F8];split<;>split<;>omega
 ·have hz:V.cmpL (a.drop i) (b.drop i)=F8 (a.length:Int) (b.length:Int):=by
   rw [<-hord];by_cases h1:i<a.length
   ·have:b.drop i=[]:=r_ (by omega)
    rw [this,V.cmpL_nil_right];rfl
   ·have:a.drop i=[]:=r_ (by omega)
    rw [this,V.cmpL_nil_left];rfl
  rw [hz] at hinv;clear hnext;refine rS_ Tryz.func107 ?_;simp only [go_sem,seval]
  repeat' (first
   | ((first | (refine C9 (fun hq=>?_) (fun hq=>?_)) | (refine y7 (fun x hx=>have hq:=hx;?_)))<;>(try simp only [go_sem,seval,hq]))
   | (simp (disch:=omega) only [l6])
   | ((first
    | (refine (O9 _ _ _ (m_ _)).callQ rfl ?_)
    | (refine (an4 _ _).calls rfl ?_)
    | (refine ⟨sd,?_⟩))<;>(try simp only [go_sem,seval]))
   | fail)
  all_goals try clear ih
  all_goals try clear hnext
  all_goals first
   | (simp_all;done)
   | (simp_all;omega)
   | (simp_all;split<;>simp_all<;>omega)
   | (exfalso;omega)
   | assumption
theorem aN9 (a b:List V):Gives Tryz.prog 137 [.sl (a.map V.enc),.sl (b.map V.enc)] (.d (.int .i64 (V.cmpL a b))):=by
 refine aE_ Tryz.func137 ?_;refine rS_ Tryz.func137 ?_;simp only [go_sem,seval];refine AW.len 0 rfl (fun hl=>?_);simp only [maxLen,o_] at hl;refine AW.lp [0,1] (fun i:Nat=>[(5,.d (.int .i64 i))]) (fun H _=>H) (fun i=>i<=a.length/\i<=b.length/\V.cmpL (a.drop i) (b.drop i)=V.cmpL a b/\F8 ((a.drop i).length:Int) ((b.drop i).length:Int)=F8 (a.length:Int) (b.length:Int)) (fun i=>a.length - i) 0 ⟨by omega,by omega,rfl,rfl⟩ H6 ?_;rintro i ⟨hi,hj,hinv,hord⟩ hnext;by_cases h:i<a.length/\i<b.length
 ·obtain ⟨h1,h2⟩:=h
  have e1:a.drop i=a[i] :: a.drop (i+1):=n_ h1;have e2:b.drop i=b[i] :: b.drop (i+1):=n_ h2;have g1:a[i]? = some a[i]:=h_ h1;have g2:b[i]? = some b[i]:=h_ h2;generalize a[i]=x at e1 g1;generalize b[i]=y at e2 g2;rw [e1,e2,V.cmpL_cons] at hinv;have h1':(i:Int)<a.length:=by omega
  have h2':(i:Int)<b.length:=by omega
  refine rS_ Tryz.func137 ?_;simp only [go_sem,seval,h1',h2',d9 g1,d9 g2]
  repeat' (first
   | ((refine C9 (fun hq=>?_) (fun hq=>?_))<;>(try simp only [go_sem,seval,h1',h2',d9 g1,d9 g2,hq]))
   | (simp (disch:=omega) only [l6])
   | (refine hnext (i+1) _ ⟨by omega,by omega,by simp_all,?_⟩ (by omega) H6)
   | ((refine (X6 _ _ _ (m_ _)).callQ rfl ?_)<;>(try simp only [go_sem,seval,h1',h2',d9 g1,d9 g2]))
   | fail)
  all_goals clear hnext
  ·simp_all
  ·rw [<-hord];simp only [t_,F8];split<;>split<;>omega
 ·have hz:V.cmpL (a.drop i) (b.drop i)=F8 (a.length:Int) (b.length:Int):=by
   rw [<-hord];by_cases h1:i<a.length
   ·have:b.drop i=[]:=r_ (by omega)
    rw [this,V.cmpL_nil_right];rfl
   ·have:a.drop i=[]:=r_ (by omega)
    rw [this,V.cmpL_nil_left];rfl
  rw [hz] at hinv;clear hnext;generalize V.cmpL a b=N at hinv |-;unfold F8 at hinv;refine rS_ Tryz.func137 ?_;simp only [go_sem,seval]
  repeat' (first
   | ((first | (refine C9 (fun hq=>?_) (fun hq=>?_)) | (refine y7 (fun x hx=>have hq:=hx;?_)))<;>(try simp only [go_sem,seval,hq]))
   | (simp (disch:=omega) only [l6])
   | ((first
    | (refine (X6 _ _ _ (m_ _)).callQ rfl ?_)
    | (refine (ac7 _).calls rfl ?_)
    | (refine ⟨sd,?_⟩))<;>(try simp only [go_sem,seval]))
   | fail)
  all_goals try clear ih
  all_goals try clear hnext
  all_goals first
   | (simp_all;done)
   | (simp_all;omega)
   | (simp_all;split<;>simp_all<;>omega)
   | (exfalso;omega)
   | assumption
theorem ai5 (r q:List UInt8) (a b:List V):Gives Tryz.prog 63 [.agg (Fc.enc ⟨r,a.map V.tm⟩),.agg (Fc.enc ⟨q,b.map V.tm⟩)] (.d (.int .i64 (I6 r a q b))):=by
 have hc:I6 r a q b=if r≠q then (if Op.bytesLess r q then -1 else 1) else V.cmpL a b:=rfl
 generalize I6 r a q b=N at hc |-;refine aE_ Tryz.func63 ?_;refine rS_ Tryz.func63 ?_;simp only [go_sem,seval];try simp only [go_sem,seval,D6]
 repeat' (first
  | ((refine C9 (fun hq=>?_) (fun hq=>?_))<;>(try simp only [go_sem,seval,D6,hq]))
  | ((refine (al6 _ _).calls rfl ?_)<;>(try simp only [go_sem,seval,D6]))
  | fail)
 all_goals try clear ih
 all_goals try clear hnext
 all_goals first
  | (simp_all;done)
  | (simp_all;omega)
  | (simp_all;split<;>simp_all<;>omega)
  | (exfalso;omega)
  | assumption
theorem aN3 (r q:List UInt8) (a b:List V):Gives Tryz.prog 93 [.agg (Fc.enc ⟨r,a.map V.tm⟩),.agg (Fc.enc ⟨q,b.map V.tm⟩)] (.d (.int .i64 (I6 r a q b))):=by
 have hc:I6 r a q b=if r≠q then (if Op.bytesLess r q then -1 else 1) else V.cmpL a b:=rfl
 generalize I6 r a q b=N at hc |-;refine aE_ Tryz.func93 ?_;refine rS_ Tryz.func93 ?_;simp only [go_sem,seval];try simp only [go_sem,seval,D6]
 repeat' (first
  | ((refine C9 (fun hq=>?_) (fun hq=>?_))<;>(try simp only [go_sem,seval,D6,hq]))
  | ((first
   | (refine (ac7 _).calls rfl ?_)
   | (refine (aN9 _ _).calls rfl ?_))<;>(try simp only [go_sem,seval,D6]))
  | fail)
 all_goals try clear ih
 all_goals try clear hnext
 all_goals first
  | (simp_all;done)
  | (simp_all;omega)
  | (simp_all;split<;>simp_all<;>omega)
  | (exfalso;omega)
  | assumption
set_option maxHeartbeats 8000000
theorem Y8 (s:List UInt8) (hm:s.length<=9000000):Gives Tryz.prog 57 [.str s] (.d (.bool (P5 s))):=by
 have hr:P5 s=(!reserved.contains s && F9 s):=rfl;simp only [reserved] at hr;generalize P5 s=N at hr |-;refine aE_ Tryz.func57 ?_;refine rS_ Tryz.func57 ?_;simp only [go_sem,seval]
 repeat' (first
  | ((refine C9 (fun hq=>?_) (fun hq=>?_))<;>(try simp only [go_sem,seval,hq]))
  | ((refine (aC0 _ sd).calls rfl ?_)<;>(try simp only [go_sem,seval]))
  | fail)
 all_goals (simp_all;done)
theorem Y2 (s:List UInt8) (hm:s.length<=9000000):Gives Tryz.prog 77 [.str s] (.d (.bool (P5 s))):=by
 have hr:P5 s=(!reserved.contains s && F9 s):=rfl;simp only [reserved] at hr;generalize P5 s=N at hr |-;refine aE_ Tryz.func77 ?_;refine rS_ Tryz.func77 ?_;simp only [go_sem,seval]
 repeat' (first
  | ((refine C9 (fun hq=>?_) (fun hq=>?_))<;>(try simp only [go_sem,seval,hq]))
  | (simp (disch:=omega) only [l6])
  | ((first
   | (refine AW.loop ?_<;>(refine rS_ Tryz.func77 ?_))
   | (refine AW.round ?_<;>(refine rS_ Tryz.func77 ?_))
   | (refine (ac0 _ sd).calls rfl ?_))<;>(try simp only [go_sem,seval]))
  | fail)
 all_goals first
  | (simp_all;done)
  | (simp_all;intro _;refine ⟨?_,?_,?_,?_,?_,?_,?_,?_,?_⟩<;>(intro h;subst h;contradiction))
theorem au7:∀(t:Gl) (most:Int),wtL t.enc<=9000000->-10000000<=most->most<=10000000->Gives Tryz.prog 125 [.agg t.enc,.int .i64 most] (.d (.int .i64 (t.countF most))):=by
 intro t;induction t using Gl.ind' with
 | h t ih =>
  intro most hw h0 h1;have hc:=Gl.cnt_le_wt t;have he:=Gl.countF_eq t most;rw [Gl.cnt_eq] at hc;generalize t.countF most=N at he |-;refine aE_ Tryz.func125 ?_;refine rS_ Tryz.func125 ?_;simp only [go_sem,seval];refine AW.rng t.goals [1,9,10] 11 9 (fun n:Int=>[(5,.d (.int .i64 n))]) (fun H _=>H) (fun r n=>1<=n/\n+Gl.cnts r<=1+Gl.cnts t.goals/\Gl.countL r most n=N) 1 rfl (by simp) ⟨by omega,by omega,he.symm⟩ H6 (fun i x r acc hxi hdr hlt hm hinv hnext=>?_) (fun acc hinv=>?_)
  ·have hx:=f_ hxi
   have ihx:=ih x hx;have hwx:=Gl.wt_goals hx;have hcs:=Gl.count_spec x (most - acc);obtain ⟨v1,v2,v3⟩:=hinv;simp only [Gl.countL,Gl.cnts] at v2 v3;refine rS_ Tryz.func125 ?_;simp only [go_sem,seval,hlt,d9 hxi]
   repeat' (first
    | ((refine C9 (fun hq=>?_) (fun hq=>?_))<;>(try simp only [go_sem,seval,hq]))
    | (simp (disch:=omega) only [l6])
    | (refine hnext (acc+x.countF (most - acc)) _ ⟨by omega,by omega,?_⟩ H6)
    | ((refine (ihx _ (by omega) (by omega) (by omega)).calls rfl ?_)<;>(try simp only [go_sem,seval]))
    | fail)
   all_goals clear hnext ihx ih
   ·rw [if_pos (by omega)] at v3;rw [v3]
   ·rw [if_neg (by omega)] at v3;exact v3
  ·obtain ⟨v1,v2,v3⟩:=hinv
   simp only [Gl.countL] at v3;refine rS_ Tryz.func125 ?_;simp only [go_sem,seval];simp_all
theorem aO6:∀(t:Gl) (room:Int),wtL t.enc<=9000000->-10000000<=room->room<=10000000->Gives Tryz.prog 58 [.agg t.enc,.int .i64 room] (.d (.int .i64 (t.nodes room))):=by
 intro t;induction t using Gl.ind' with
 | h t ih =>
  intro room hw h0 h1;have hn:=Gl.wt_name t;have ht:∀x,x∈t.terms->wtL x.enc<=9000000:=fun x hx=>by have:=Gl.wt_terms hx;omega
  have nl:=Gl.nodes_lt (g:=t) (room:=room);have bd:=Gl.nodes_bad (g:=t) (room:=room);have lf:=Gl.nodes_leaf (g:=t) (room:=room);have kd:=Gl.nodes_kids (g:=t) (room:=room);rw [Gl.shape_eq] at bd lf;by_cases hr:room<1
  ·rw [nl hr]
   refine aE_ Tryz.func58 ?_;refine rS_ Tryz.func58 ?_;simp only [go_sem,seval]
   repeat' (first
    | ((first | (refine C9 (fun hq=>?_) (fun hq=>?_)) | (refine y7 (fun x hx=>have hq:=hx;?_)))<;>(try simp only [go_sem,seval,hq]))
    | ((first
     | (refine (Y8 _ sd).calls rfl ?_)
     | (refine (af7 _ sd).calls rfl ?_)
     | (refine ⟨sd,?_⟩))<;>(try simp only [go_sem,seval]))
    | fail)
   all_goals try clear ih
   all_goals try clear hnext
   all_goals first
    | (simp_all;done)
    | (simp_all;omega)
    | (simp_all;split<;>simp_all<;>omega)
    | (exfalso;omega)
    | assumption
  by_cases hto:t.terms.all Q5=true
  ·rw [hto] at bd lf kd
   simp only [I_,forall_const] at bd lf kd;generalize t.nodes room=N at nl bd lf kd |-
   have hform:t.form=(if t.kind=9 then P5 t.name && decide ((t.goals.length:Int)=0) && decide ((t.terms.length:Int)<=4)
    else if 0<=t.kind/\t.kind<=6 then decide (t.name=[]) && decide ((t.goals.length:Int)=0) && decide ((t.terms.length:Int)=y8 t.kind) && (if t.kind=6 then aj7 t.terms else true)
    else if t.kind=7\/t.kind=8 then decide (t.name=[]) && decide ((t.terms.length:Int)=0) && decide ((t.goals.length:Int)<=8)
    else if t.kind=10 then decide (t.name=[]) && decide ((t.terms.length:Int)=0) && decide ((t.goals.length:Int)=1) && ab7 t.goals
    else false):=rfl
   refine aE_ Tryz.func58 ?_;refine rS_ Tryz.func58 ?_;simp only [go_sem,seval]
   repeat' (first
    | ((first | (refine C9 (fun hq=>?_) (fun hq=>?_)) | (refine y7 (fun x hx=>have hq:=hx;?_)))<;>(try simp only [go_sem,seval,hto,hq]))
    | ((first
     | (refine (Y8 _ sd).calls rfl ?_)
     | (refine (af7 _ sd).calls rfl ?_)
     | (refine ⟨sd,?_⟩))<;>(try simp only [go_sem,seval,hto]))
    | fail)
   all_goals try (exfalso;omega)
   all_goals try (clear ih;simp_all [y8,K4,I5];done)
   all_goals try (rw [bd (by clear bd lf kd nl ih;rw [E_];left;rw [hform];clear hform;first | (simp [*];done) | (simp [*];intros;omega))];done)
   all_goals
    have hf:t.form=true:=by clear ih;simp_all [y8,K4,I5];try omega
    have hk:=kd hf (by omega);refine AW.rng t.goals [1,124,125] 126 124 (fun n:Int=>[(6,.d (.int .i64 n))]) (fun H _=>H) (fun r n=>1<=n/\n<=room/\Gl.nodeL r room n=N) 1 rfl (by simp) ⟨by omega,by omega,hk.symm⟩ H6 (fun i x r acc hxi hdr hlt hm hinv hnext=>?_) (fun acc hinv=>?_)
    ·have hx:=f_ hxi
     have ihx:=ih x hx;have hwx:=Gl.wt_goals hx;have hng:=Gl.nodes_ge (g:=x) (room:=room - acc);obtain ⟨v1,v2,v3⟩:=hinv;simp only [Gl.nodeL] at v3;refine rS_ Tryz.func58 ?_;simp only [go_sem,seval,hlt,d9 hxi]
     repeat' (first
      | ((refine C9 (fun hq=>?_) (fun hq=>?_))<;>(try simp only [go_sem,seval,hq]))
      | (simp (disch:=omega) only [l6])
      | (refine hnext (acc+x.nodes (room - acc)) _ ⟨by omega,by omega,?_⟩ H6)
      | ((refine (ihx _ (by omega) (by omega) (by omega)).calls rfl ?_)<;>(try simp only [go_sem,seval]))
      | fail)
     all_goals clear hnext ihx ih
     ·rw [if_pos (by omega)] at v3;rw [v3]
     ·rw [if_neg (by omega)] at v3;exact v3
    ·obtain ⟨v1,v2,v3⟩:=hinv
     simp only [Gl.nodeL] at v3;refine rS_ Tryz.func58 ?_;simp only [go_sem,seval];simp_all
  ·have hN:t.nodes room=-1:=bd (by simp [hto])
   rw [hN];simp only [C_] at hto;refine aE_ Tryz.func58 ?_;refine rS_ Tryz.func58 ?_;simp only [go_sem,seval]
   repeat' (first
    | ((refine C9 (fun hq=>?_) (fun hq=>?_))<;>(try simp only [go_sem,seval,hto,hq]))
    | ((refine (af7 _ sd).calls rfl ?_)<;>(try simp only [go_sem,seval,hto]))
    | fail)
   all_goals try clear ih
   all_goals try clear hnext
   all_goals first
    | (simp_all;done)
    | (simp_all;omega)
    | (simp_all;split<;>simp_all<;>omega)
    | (exfalso;omega)
    | assumption
theorem aU2:∀(t:Gl),wtL t.enc<=9000000->Gives Tryz.prog 158 [.agg t.enc] (.d (.bool t.shape)):=by
 intro t;induction t using Gl.ind' with
 | h t ih =>
  intro hw;have hn:=Gl.wt_name t;have ht:∀x,x∈t.terms->wtL x.enc<=9000000:=fun x hx=>by have:=Gl.wt_terms hx;omega
  have hs:=Gl.shape_eq t;have har:=aD0 t.kind;have har2:=bk7 t.kind;have har6:=bv5 t.kind;generalize t.shape=N at hs |-
  have hform:t.form=(if t.kind=9 then P5 t.name && decide ((t.goals.length:Int)=0) && decide ((t.terms.length:Int)<=4)
    else if 0<=t.kind/\t.kind<=6 then decide (t.name=[]) && decide ((t.goals.length:Int)=0) && decide ((t.terms.length:Int)=y8 t.kind) && (if t.kind=6 then aj7 t.terms else true)
    else if t.kind=7\/t.kind=8 then decide (t.name=[]) && decide ((t.terms.length:Int)=0) && decide ((t.goals.length:Int)<=8)
    else if t.kind=10 then decide (t.name=[]) && decide ((t.terms.length:Int)=0) && decide ((t.goals.length:Int)=1) && ab7 t.goals
    else false):=rfl
  by_cases hk9:t.kind=9
  ·refine aE_ Tryz.func158 ?_
   refine rS_ Tryz.func158 ?_;simp only [go_sem,seval]
   repeat' (first
    | ((refine C9 (fun hq=>?_) (fun hq=>?_))<;>(try simp only [go_sem,seval,hk9,hq]))
    | ((first
     | (refine (E9 _ _ _).calls rfl ?_)
     | (refine (au9 _ sd).calls rfl ?_))<;>(try simp only [go_sem,seval,hk9]))
    | fail)
   all_goals try (exfalso;omega)
   all_goals try (clear ih;simp_all [y8,K4,I5];done)
   all_goals try (rw [hs,hform];clear hs hform ih;first | (simp [*,y8];done) | (simp [*,y8];omega) | (simp [*,y8];intros;omega))
   all_goals try (cases N<;>first | rfl | (exfalso;simp only [eq_comm (a:=true),i_] at hs;have hfi:=Gl.form_inv hs.1.1;clear hs hform;omega) | (exfalso;simp only [eq_comm (a:=true),i_] at hs;have hfi:=Gl.form_inv hs.1;clear hs hform;omega))
   all_goals
    refine AW.rng t.goals [1,61,62] 63 61 (fun _:Unit=>[]) (fun H _=>H) (fun r _=>r.all Gl.shape=t.goals.all Gl.shape) () rfl (by simp) rfl H6 (fun i x r acc hxi hdr hlt hm hinv hnext=>?_) (fun acc hinv=>?_)
    ·have hx:=f_ hxi
     have ihx:=ih x hx;have hwx:=Gl.wt_goals hx;rw [b_] at hinv;refine rS_ Tryz.func158 ?_;simp only [go_sem,seval,hlt,d9 hxi]
     repeat' (first
      | ((refine C9 (fun hq=>?_) (fun hq=>?_))<;>(try simp only [go_sem,seval,hq]))
      | (simp (disch:=omega) only [l6])
      | (refine hnext () _ ?_ H6)
      | ((refine (ihx (by omega)).calls rfl ?_)<;>(try simp only [go_sem,seval]))
      | fail)
     all_goals clear hnext ihx ih
     all_goals first | (rw [hs,<-hinv];clear hs;simp [*];done) | (rw [<-hinv];clear hs;simp [*];done)
    ·rw [d_] at hinv
     rw [<-hinv] at hs;clear hinv;refine rS_ Tryz.func158 ?_;simp only [go_sem,seval]
     repeat' (first
      | ((first | (refine C9 (fun hq=>?_) (fun hq=>?_)) | (refine y7 (fun x hx=>have hq:=hx;?_)))<;>(try simp only [go_sem,seval,hq]))
      | ((first
       | (refine (Y2 _ sd).calls rfl ?_)
       | (refine ⟨sd,?_⟩))<;>(try simp only [go_sem,seval]))
      | fail)
     all_goals try (exfalso;omega)
     all_goals try (clear ih;simp_all [y8,K4,I5];done)
     all_goals try (rw [hs,hform];clear hs hform ih;first | (simp [*,y8];done) | (simp [*,y8];omega) | (simp [*,y8];intros;omega))
     all_goals try (cases N<;>first | rfl | (exfalso;simp only [eq_comm (a:=true),i_] at hs;have hfi:=Gl.form_inv hs.1.1;clear hs hform;omega) | (exfalso;simp only [eq_comm (a:=true),i_] at hs;have hfi:=Gl.form_inv hs.1;clear hs hform;omega))
     all_goals try (rw [hs,Gl.form_simple (by omega) (by omega) (by assumption) (by omega) (by omega)];clear hs hform;simp [*];done)
     all_goals try (rw [hs,Gl.form_and (by omega) (by assumption) (by omega) (by omega)];clear hs hform;simp [*];done)
     all_goals try (rw [hs,Gl.form_6 (by omega) (by assumption) (by omega) (by omega) (by assumption)];clear hs hform;simp [*];done)
     all_goals try (rw [hs,Gl.form_10 (by omega) (by assumption) (by omega) (by omega) (by assumption)];clear hs hform;simp [*];done)
  ·refine aE_ Tryz.func158 ?_
   refine rS_ Tryz.func158 ?_;simp only [go_sem,seval]
   repeat' (first
    | (refine bM4 (by omega) (by omega) ?_<;>(try simp only [go_sem,seval,hk9]))
    | ((refine C9 (fun hq=>?_) (fun hq=>?_))<;>(try simp only [go_sem,seval,hk9,hq]))
    | (simp (disch:=omega) only [l6])
    | ((first
     | (refine (E9 _ _ _).calls rfl ?_)
     | (refine (au9 _ sd).calls rfl ?_)
     | (refine ⟨sd,?_⟩))<;>(try simp only [go_sem,seval,hk9]))
    | fail)
   all_goals try (exfalso;omega)
   all_goals try (clear ih;simp_all [y8,K4,I5];done)
   all_goals try (rw [hs,hform];clear hs hform ih;first | (simp [*,y8];done) | (simp [*,y8];omega) | (simp [*,y8];intros;omega))
   all_goals try (cases N<;>first | rfl | (exfalso;simp only [eq_comm (a:=true),i_] at hs;have hfi:=Gl.form_inv hs.1.1;clear hs hform;omega) | (exfalso;simp only [eq_comm (a:=true),i_] at hs;have hfi:=Gl.form_inv hs.1;clear hs hform;omega))
   all_goals
    refine AW.rng t.goals [1,61,62] 63 61 (fun _:Unit=>[]) (fun H _=>H) (fun r _=>r.all Gl.shape=t.goals.all Gl.shape) () rfl (by simp) rfl H6 (fun i x r acc hxi hdr hlt hm hinv hnext=>?_) (fun acc hinv=>?_)
    ·have hx:=f_ hxi
     have ihx:=ih x hx;have hwx:=Gl.wt_goals hx;rw [b_] at hinv;refine rS_ Tryz.func158 ?_;simp only [go_sem,seval,hlt,d9 hxi]
     repeat' (first
      | ((refine C9 (fun hq=>?_) (fun hq=>?_))<;>(try simp only [go_sem,seval,hq]))
      | (simp (disch:=omega) only [l6])
      | (refine hnext () _ ?_ H6)
      | ((refine (ihx (by omega)).calls rfl ?_)<;>(try simp only [go_sem,seval]))
      | fail)
     all_goals clear hnext ihx ih
     all_goals first | (rw [hs,<-hinv];clear hs;simp [*];done) | (rw [<-hinv];clear hs;simp [*];done)
    ·rw [d_] at hinv
     rw [<-hinv] at hs;clear hinv;refine rS_ Tryz.func158 ?_;simp only [go_sem,seval]
     repeat' (first
      | ((first | (refine C9 (fun hq=>?_) (fun hq=>?_)) | (refine y7 (fun x hx=>have hq:=hx;?_)))<;>(try simp only [go_sem,seval,hq]))
      | ((first
       | (refine (Y2 _ sd).calls rfl ?_)
       | (refine ⟨sd,?_⟩))<;>(try simp only [go_sem,seval]))
      | fail)
     all_goals try (exfalso;omega)
     all_goals try (clear ih;simp_all [y8,K4,I5];done)
     all_goals try (rw [hs,hform];clear hs hform ih;first | (simp [*,y8];done) | (simp [*,y8];omega) | (simp [*,y8];intros;omega))
     all_goals try (cases N<;>first | rfl | (exfalso;simp only [eq_comm (a:=true),i_] at hs;have hfi:=Gl.form_inv hs.1.1;clear hs hform;omega) | (exfalso;simp only [eq_comm (a:=true),i_] at hs;have hfi:=Gl.form_inv hs.1;clear hs hform;omega))
     all_goals try (rw [hs,Gl.form_simple (by omega) (by omega) (by assumption) (by omega) (by omega)];clear hs hform;simp [*];done)
     all_goals try (rw [hs,Gl.form_and (by omega) (by assumption) (by omega) (by omega)];clear hs hform;simp [*];done)
     all_goals try (rw [hs,Gl.form_6 (by omega) (by assumption) (by omega) (by omega) (by assumption)];clear hs hform;simp [*];done)
     all_goals try (rw [hs,Gl.form_10 (by omega) (by assumption) (by omega) (by omega) (by assumption)];clear hs hform;simp [*];done)
theorem P8 (t:Gl) (hw:wtL t.enc<=9000000):Gives Tryz.prog 122 [.agg t.enc] (.d (.bool (ak5 t))):=by
 have hc:=Gl.count_ok t;generalize ak5 t=N at hc |-;refine aE_ Tryz.func122 ?_;refine rS_ Tryz.func122 ?_;simp only [go_sem,seval]
 repeat' (first
  | ((refine C9 (fun hq=>?_) (fun hq=>?_))<;>(try simp only [go_sem,seval,hq]))
  | ((first
   | (refine (au7 _ _ sd sd sd).calls rfl ?_)
   | (refine (aU2 _ sd).calls rfl ?_))<;>(try simp only [go_sem,seval]))
  | fail)
 all_goals first
  | (rw [<-hc,decide_eq_false (by omega)];rfl)
  | (simp_all;done)
theorem aK8 (t:Gl) (hw:wtL t.enc<=9000000):Gives Tryz.prog 79 [.agg t.enc] (.d (.int .i64 (if ak5 t then t.countF 80 else 0))):=by
 refine aE_ Tryz.func79 ?_;refine rS_ Tryz.func79 ?_;simp only [go_sem,seval]
 repeat' (first
  | ((refine C9 (fun hq=>?_) (fun hq=>?_))<;>(try simp only [go_sem,seval,hq]))
  | ((first
   | (refine (P8 _ sd).calls rfl ?_)
   | (refine (au7 _ _ sd sd sd).calls rfl ?_))<;>(try simp only [go_sem,seval]))
  | fail)
 all_goals try clear ih
 all_goals try clear hnext
 all_goals first
  | (simp_all;done)
  | (simp_all;omega)
  | (simp_all;split<;>simp_all<;>omega)
  | (exfalso;omega)
  | assumption
end Go.Proofs.YtmfkcdelddmfpaaGreat
namespace Go.Proofs
open Go.Shelf
def Tryz.lays191_ren:Go.Shelf.Ren:=⟨fun | 191=>167 | 189=>177 | 125=>191 | 257=>190 | 128=>202 | 129=>203 | 294=>193 | 295=>194 | 296=>195 | 297=>196 | 298=>197 | 299=>198 | 216=>199 | 300=>200 | 301=>201 | 328=>205 | 329=>206 | 330=>207 | 331=>208 | 332=>209 | 215=>210 | 343=>211 | n=>n,fun | 28=>142 | 0=>0 | 3=>3 | 46=>112 | 51=>216 | 53=>218 | 4=>4 | 183=>210 | 182=>209 | 131=>151 | 5=>5 | 9=>9 | 218=>219 | 222=>64 | 228=>224 | 229=>225 | n=>n,fun | n=>n⟩
theorem Tryz.lays191:Go.Proofs.Lays.n191 Tryz.prog Tryz.lays191_ren:={
  mixed:=by kernel_rfl
  f125:=Tryz.func191.trans (congrArg some (by kernel_rfl))
  f128:=Tryz.func202.trans (congrArg some (by kernel_rfl))
  f129:=Tryz.func203.trans (congrArg some (by kernel_rfl))
  f189:=Tryz.func177.trans (congrArg some (by kernel_rfl))
  f191:=Tryz.func167.trans (congrArg some (by kernel_rfl))
  f215:=Tryz.func210.trans (congrArg some (by kernel_rfl))
  f216:=Tryz.func199.trans (congrArg some (by kernel_rfl))
  f257:=Tryz.func190.trans (congrArg some (by kernel_rfl))
  f294:=Tryz.func193.trans (congrArg some (by kernel_rfl))
  f295:=Tryz.func194.trans (congrArg some (by kernel_rfl))
  f296:=Tryz.func195.trans (congrArg some (by kernel_rfl))
  f297:=Tryz.func196.trans (congrArg some (by kernel_rfl))
  f298:=Tryz.func197.trans (congrArg some (by kernel_rfl))
  f299:=Tryz.func198.trans (congrArg some (by kernel_rfl))
  f300:=Tryz.func200.trans (congrArg some (by kernel_rfl))
  f301:=Tryz.func201.trans (congrArg some (by kernel_rfl))
  f328:=Tryz.func205.trans (congrArg some (by kernel_rfl))
  f329:=Tryz.func206.trans (congrArg some (by kernel_rfl))
  f330:=Tryz.func207.trans (congrArg some (by kernel_rfl))
  f331:=Tryz.func208.trans (congrArg some (by kernel_rfl))
  f332:=Tryz.func209.trans (congrArg some (by kernel_rfl))
  f343:=Tryz.func211.trans (congrArg some (by kernel_rfl))
  t0:=Tryz.underlying0
  a0:=Tryz.isAgg0
  z0:=Tryz.sizeOf0
  v0:=Tryz.zeroValue0
  t3:=Tryz.underlying3
  a3:=Tryz.isAgg3
  z3:=Tryz.sizeOf3
  v3:=Tryz.zeroValue3
  t4:=Tryz.underlying4
  a4:=Tryz.isAgg4
  z4:=Tryz.sizeOf4
  v4:=Tryz.zeroValue4
  t5:=Tryz.underlying5
  a5:=Tryz.isAgg5
  z5:=Tryz.sizeOf5
  v5:=Tryz.zeroValue5
  t9:=Tryz.underlying9
  a9:=Tryz.isAgg9
  z9:=Tryz.sizeOf9
  v9:=Tryz.zeroValue9
  t28:=Tryz.underlying142
  a28:=Tryz.isAgg142
  z28:=Tryz.sizeOf142
  v28:=Tryz.zeroValue142
  t46:=Tryz.underlying112
  a46:=Tryz.isAgg112
  z46:=Tryz.sizeOf112
  v46:=Tryz.zeroValue112
  t51:=Tryz.underlying216
  a51:=Tryz.isAgg216
  z51:=Tryz.sizeOf216
  v51:=Tryz.zeroValue216
  t53:=Tryz.underlying218
  a53:=Tryz.isAgg218
  z53:=Tryz.sizeOf218
  v53:=Tryz.zeroValue218
  t131:=Tryz.underlying151
  a131:=Tryz.isAgg151
  z131:=Tryz.sizeOf151
  v131:=Tryz.zeroValue151
  t182:=Tryz.underlying209
  a182:=Tryz.isAgg209
  z182:=Tryz.sizeOf209
  v182:=Tryz.zeroValue209
  t183:=Tryz.underlying210
  a183:=Tryz.isAgg210
  z183:=Tryz.sizeOf210
  v183:=Tryz.zeroValue210
  t218:=Tryz.underlying219
  a218:=Tryz.isAgg219
  z218:=Tryz.sizeOf219
  v218:=Tryz.zeroValue219
  t222:=Tryz.underlying64
  a222:=Tryz.isAgg64
  z222:=Tryz.sizeOf64
  v222:=Tryz.zeroValue64
  t228:=Tryz.underlying224
  a228:=Tryz.isAgg224
  z228:=Tryz.sizeOf224
  v228:=Tryz.zeroValue224
  t229:=Tryz.underlying225
  a229:=Tryz.isAgg225
  z229:=Tryz.sizeOf225
  v229:=Tryz.zeroValue225 }
open Go.Sort Go.RowKit in
theorem Tryz.sort_Ints (blk off cap:Nat) (zs:List Int) (w:World) (hH:Holds (Value.int .i64) w blk off zs.toArray) (hblk:blk<w.heap.size) (hsz:zs.length<4611686018427387904) :
    Calls Tryz.prog 167 #[.slice (some ⟨blk,off,none⟩) zs.length cap] w fun e w' =>
      e=.returned (.tuple #[])/\∃n os,w'=grow (putRow (Value.int .i64) (Sort.ahead w n) blk off (zs.mergeSort fun x y=>decide (x<=y)).toArray) os:=Any.sort_Ints Tryz.lays191 blk off cap zs w hH hblk hsz
def Tryz.laysGt8_ren:Go.Shelf.Ren:=⟨fun | 8=>154 | 13=>171 | 14=>172 | 16=>174 | 15=>173 | 29=>188 | 30=>189 | 42=>192 | 49=>204 | n=>n,fun | 20=>20 | 26=>178 | 36=>192 | 0=>0 | 38=>194 | 42=>198 | 3=>3 | 4=>4 | 47=>112 | 17=>17 | 33=>189 | 34=>190 | 89=>240 | 12=>12 | 56=>216 | 82=>233 | 5=>5 | 83=>234 | 84=>235 | 85=>236 | 86=>237 | 87=>238 | n=>n,fun | n=>n⟩
theorem Tryz.laysGt8:Go.Proofs.LaysGt.n8 Tryz.prog Tryz.laysGt8_ren:={
  mixed:=by kernel_rfl
  f8:=Tryz.func154.trans (congrArg some (by kernel_rfl))
  f13:=Tryz.func171.trans (congrArg some (by kernel_rfl))
  f14:=Tryz.func172.trans (congrArg some (by kernel_rfl))
  f15:=Tryz.func173.trans (congrArg some (by kernel_rfl))
  f16:=Tryz.func174.trans (congrArg some (by kernel_rfl))
  f29:=Tryz.func188.trans (congrArg some (by kernel_rfl))
  f30:=Tryz.func189.trans (congrArg some (by kernel_rfl))
  f42:=Tryz.func192.trans (congrArg some (by kernel_rfl))
  f49:=Tryz.func204.trans (congrArg some (by kernel_rfl))
  t0:=Tryz.underlying0
  a0:=Tryz.isAgg0
  z0:=Tryz.sizeOf0
  v0:=Tryz.zeroValue0
  i0:=by kernel_rfl
  t3:=Tryz.underlying3
  a3:=Tryz.isAgg3
  z3:=Tryz.sizeOf3
  v3:=Tryz.zeroValue3
  i3:=by kernel_rfl
  t4:=Tryz.underlying4
  a4:=Tryz.isAgg4
  z4:=Tryz.sizeOf4
  v4:=Tryz.zeroValue4
  i4:=by kernel_rfl
  t5:=Tryz.underlying5
  a5:=Tryz.isAgg5
  z5:=Tryz.sizeOf5
  v5:=Tryz.zeroValue5
  i5:=by kernel_rfl
  t12:=Tryz.underlying12
  a12:=Tryz.isAgg12
  z12:=Tryz.sizeOf12
  v12:=Tryz.zeroValue12
  i12:=by kernel_rfl
  t17:=Tryz.underlying17
  a17:=Tryz.isAgg17
  z17:=Tryz.sizeOf17
  v17:=Tryz.zeroValue17
  i17:=by kernel_rfl
  t20:=Tryz.underlying20
  a20:=Tryz.isAgg20
  z20:=Tryz.sizeOf20
  v20:=Tryz.zeroValue20
  i20:=by kernel_rfl
  t26:=Tryz.underlying178
  a26:=Tryz.isAgg178
  z26:=Tryz.sizeOf178
  v26:=Tryz.zeroValue178
  i26:=by kernel_rfl
  t33:=Tryz.underlying189
  a33:=Tryz.isAgg189
  z33:=Tryz.sizeOf189
  v33:=Tryz.zeroValue189
  i33:=by kernel_rfl
  t34:=Tryz.underlying190
  a34:=Tryz.isAgg190
  z34:=Tryz.sizeOf190
  v34:=Tryz.zeroValue190
  i34:=by kernel_rfl
  t36:=Tryz.underlying192
  a36:=Tryz.isAgg192
  z36:=Tryz.sizeOf192
  v36:=Tryz.zeroValue192
  i36:=by kernel_rfl
  t38:=Tryz.underlying194
  a38:=Tryz.isAgg194
  z38:=Tryz.sizeOf194
  v38:=Tryz.zeroValue194
  i38:=by kernel_rfl
  t42:=Tryz.underlying198
  a42:=Tryz.isAgg198
  z42:=Tryz.sizeOf198
  v42:=Tryz.zeroValue198
  i42:=by kernel_rfl
  t47:=Tryz.underlying112
  a47:=Tryz.isAgg112
  z47:=Tryz.sizeOf112
  v47:=Tryz.zeroValue112
  i47:=by kernel_rfl
  t56:=Tryz.underlying216
  a56:=Tryz.isAgg216
  z56:=Tryz.sizeOf216
  v56:=Tryz.zeroValue216
  i56:=by kernel_rfl
  t82:=Tryz.underlying233
  a82:=Tryz.isAgg233
  z82:=Tryz.sizeOf233
  v82:=Tryz.zeroValue233
  i82:=by kernel_rfl
  t83:=Tryz.underlying234
  a83:=Tryz.isAgg234
  z83:=Tryz.sizeOf234
  v83:=Tryz.zeroValue234
  i83:=by kernel_rfl
  t84:=Tryz.underlying235
  a84:=Tryz.isAgg235
  z84:=Tryz.sizeOf235
  v84:=Tryz.zeroValue235
  i84:=by kernel_rfl
  t85:=Tryz.underlying236
  a85:=Tryz.isAgg236
  z85:=Tryz.sizeOf236
  v85:=Tryz.zeroValue236
  i85:=by kernel_rfl
  t86:=Tryz.underlying237
  a86:=Tryz.isAgg237
  z86:=Tryz.sizeOf237
  v86:=Tryz.zeroValue237
  i86:=by kernel_rfl
  t87:=Tryz.underlying238
  a87:=Tryz.isAgg238
  z87:=Tryz.sizeOf238
  v87:=Tryz.zeroValue238
  i87:=by kernel_rfl
  t89:=Tryz.underlying240
  a89:=Tryz.isAgg240
  z89:=Tryz.sizeOf240
  v89:=Tryz.zeroValue240
  i89:=by kernel_rfl }
open Go.RowKit Go.Sort in
/-- .. and plain. (LAID: no walk: one application.) -/
theorem Tryz.sort_Ints_none (p:Option Addr) (cap:Nat) (w:World) :
    Calls Tryz.prog 167 #[.slice p 0 cap] w fun e w'=>e=.returned (.tuple #[])/\w'=w:=Any.sort_Ints_none Tryz.lays191 p cap w
end Go.Proofs
namespace Go.Proofs.YtmfkcdelddmfpaaGreat
open Go.Abs
set_option maxRecDepth 100000
set_option maxHeartbeats 4000000
set_option linter.unusedSimpArgs false
set_option linter.unusedVariables false
theorem aC5 {Acc:Type} {g:FuncId} {caps:List C} {m:Nat} {Hs:Acc->List O} {step:Acc->Int->Acc} (h:Clo Tryz.prog g caps m (fun n:Int=>D.int .i64 n) Hs (fun _=>True) step) :
  ∀(v:V) (a:Acc),l8 Tryz.prog 143 [.d (.agg v.enc),.fn g caps] (Hs a) (fun c H'=>c=.tup []/\H'=Hs (v.vars.foldl step a)):=by
 intro v;induction v with
 | pair x y ihx ihy =>
  intro a;refine aE_ Tryz.func143 ?_;refine rS_ Tryz.func143 ?_;simp only [go_sem,seval,h.len,h.go,h.at0,h.atj,h.set0,h.setj,h.tk,h.tk0,h.tkj,h.refs,h.refsj,h.hcaps,h.capsj,j_,V.kind,V.int,V.kids]
  repeat' (first
   | ((first
    | (refine h.sub (ihx _) ?_)
    | (refine h.sub (ihy _) ?_))<;>(try simp only [go_sem,seval,h.len,h.go,h.at0,h.atj,h.set0,h.setj,h.tk,h.tk0,h.tkj,h.refs,h.refsj,h.hcaps,h.capsj,j_,V.kind,V.int,V.kids]))
   | fail)
  simp only [V.vars,p_]
 | _ =>
  intro a;refine aE_ Tryz.func143 ?_;refine rS_ Tryz.func143 ?_;simp only [go_sem,seval,h.len,h.go,h.at0,h.atj,h.set0,h.setj,h.tk,h.tk0,h.tkj,h.refs,h.refsj,h.hcaps,h.capsj,j_,V.kind,V.int,V.kids]
  repeat' (first
   | ((refine h.on trivial ?_)<;>(try simp only [go_sem,seval,h.len,h.go,h.at0,h.atj,h.set0,h.setj,h.tk,h.tk0,h.tkj,h.refs,h.refsj,h.hcaps,h.capsj,j_,V.kind,V.int,V.kids]))
   | fail)
  all_goals rfl
theorem ag1 {Acc:Type} {g:FuncId} {caps:List C} {m:Nat} {Hs:Acc->List O} {Q:Gl->Prop} {step:Acc->Gl->Acc} (h:Clo Tryz.prog g caps m (fun x:Gl=>D.agg x.enc) Hs Q step) :
  ∀(t:Gl) (a:Acc),(∀x,x∈t.subs->Q x)->l8 Tryz.prog 103 [.d (.agg t.enc),.fn g caps] (Hs a) (fun c H'=>c=.tup []/\H'=Hs (t.subs.foldl step a)):=by
 intro t;induction t using Gl.ind' with
 | h t ih =>
  intro a hq;have hqt:=hq t (by rw [Gl.subs_eq];simp);have hqs:∀x,x∈t.goals->∀y,y∈x.subs->Q y:=fun x hx y hy=>hq y (by rw [Gl.subs_eq,Gl.subss_eq];exact List.mem_cons_of_mem _ (List.mem_flatMap.2 ⟨x,hx,hy⟩));rw [Gl.subs_eq,List.foldl_cons];refine aE_ Tryz.func103 ?_;refine rS_ Tryz.func103 ?_;simp only [go_sem,seval,h.len,h.go,h.at0,h.atj,h.set0,h.setj,h.tk,h.tk0,h.tkj,h.refs,h.refsj,h.hcaps,h.capsj,j_]
  repeat' (first
   | ((refine h.on hqt ?_)<;>(try simp only [go_sem,seval,h.len,h.go,h.at0,h.atj,h.set0,h.setj,h.tk,h.tk0,h.tkj,h.refs,h.refsj,h.hcaps,h.capsj,j_]))
   | fail)
  refine AW.rng t.goals [1,10,11] 12 10 (fun _:Acc=>[]) (fun _ acc=>Hs acc++[.box (t.enc.map .d)]) (fun r acc=>(Gl.subss r).foldl step acc=(Gl.subss t.goals).foldl step (step a t)) (step a t) rfl (by simp) rfl bQ6 (fun i x r acc hxi hdr hlt hm hinv hnext=>?_) (fun acc hinv=>?_)
  ·have hx:=f_ hxi
   have ihx:=ih x hx acc (hqs x hx);refine rS_ Tryz.func103 ?_;simp only [go_sem,seval,hlt,d9 hxi,h.len,h.go,h.at0,h.atj,h.set0,h.setj,h.tk,h.tk0,h.tkj,h.refs,h.refsj,h.hcaps,h.capsj,j_]
   repeat' (first
    | (simp (disch:=omega) only [l6])
    | (refine hnext (x.subs.foldl step acc) _ ?_ bQ6)
    | ((refine h.sub ihx ?_)<;>(try simp only [go_sem,seval,h.len,h.go,h.at0,h.atj,h.set0,h.setj,h.tk,h.tk0,h.tkj,h.refs,h.refsj,h.hcaps,h.capsj,j_]))
    | fail)
   rw [<-hinv];simp only [Gl.subss,p_]
  ·simp only [Gl.subss,y_] at hinv
   subst hinv;refine rS_ Tryz.func103 ?_;simp only [go_sem,seval,h.len,h.go,h.at0,h.atj,h.set0,h.setj,h.tk,h.tk0,h.tkj,h.refs,h.refsj,h.hcaps,h.capsj,j_];all_goals rfl
theorem bB8 (gb:List D):Clo Tryz.prog 144 [.ptr 2 0] 3 (fun n:Int=>D.int .i64 n) (fun ks:List Int=>[.box (gb.map .d),.map false (am0 ks),.box [.map 1]]) (fun _=>True) ay9:=by
 refine ⟨by kernel_rfl,rfl,fun _=>rfl,fun a=>by simp only [b_,d_,O.refsLt,o5];rfl,fun a x _=>?_⟩;refine aE_ Tryz.func144 ?_;refine rS_ Tryz.func144 ?_;simp only [go_sem,seval];all_goals simp [aM4,O.refsLt,C.refsLt,C.refsLt1,o5,O4]
theorem bM6 (gb:List D):Clo Tryz.prog 142 [.ptr 2 0] 3 (fun x:Gl=>D.agg x.enc) (fun ks:List Int=>[.box (gb.map .d),.map false (am0 ks),.box [.map 1]]) (fun x=>∀t,t∈x.terms->Q5 t=true) (fun ks x=>(Tm.varss x.terms).foldl ay9 ks):=by
 have h:=bB8 gb;refine ⟨by kernel_rfl,rfl,fun _=>rfl,fun a=>by simp only [b_,d_,O.refsLt,o5];rfl,fun a g hq=>?_⟩;refine aE_ Tryz.func142 ?_;refine rS_ Tryz.func142 ?_;simp only [go_sem,seval];refine AW.rng g.terms [1,6,7] 8 6 (fun _:List Int=>[]) (fun _ ks=>[.box (gb.map .d),.map false (am0 ks),.box [.map 1],.box (g.enc.map .d)]) (fun r acc=>(Tm.varss r).foldl ay9 acc=(Tm.varss g.terms).foldl ay9 a) a rfl (by simp) rfl A8 (fun i x r acc hxi hdr hlt hm hinv hnext=>?_) (fun acc hinv=>?_)
 ·have hx:=f_ hxi
  obtain ⟨v,rfl,hv⟩:=bm2 (hq x hx);refine rS_ Tryz.func142 ?_;simp only [go_sem,seval,hlt,d9 hxi]
  repeat' (first
   | (simp (disch:=omega) only [l6])
   | (refine hnext (v.vars.foldl ay9 acc) _ ?_ A8)
   | ((refine h.sub (X:=[_,_]) (aC5 h v acc) ?_)<;>(try simp only [go_sem,seval]))
   | fail)
  rw [<-hinv];simp only [Tm.varss,p_,V.vars_tm]
 ·simp only [Tm.varss,y_] at hinv
  subst hinv;refine rS_ Tryz.func142 ?_;simp only [go_sem,seval];all_goals simp [O.refsLt,C.refsLt,C.refsLt1,o5,O4]
theorem aE5 (ks:List Int) (hn:ks.Nodup) (hl:ks.length<=9000000):l8 Tryz.prog 145 [.map 0] [.map false (am0 ks)] (fun c H'=>c=.d (.sl (C8 (R6 ks)))/\H'=[.map false (am0 ks)]):=by
 refine aE_ Tryz.func145 ?_;refine rS_ Tryz.func145 ?_;simp only [go_sem,seval];refine AW.adoptB 3 1 3 (by decide) rfl ?_;refine AW.lp [7] (fun p:List Nat×List Int=>[(3,.own 2 p.2.length)]) (fun _ p=>[.map false (am0 ks),.iter 0 ks.length ks.length p.1,.buf p.2.length 1 3 (C8 p.2)]) (fun p=>p.1.Nodup/\(∀i,i∈p.1->i<ks.length)/\p.2=p.1.map (fun i=>ks.getD i 0)) (fun p=>ks.length - p.1.length) ([],[]) ⟨by simp,by simp,rfl⟩ (by refine ⟨by simp [mkS],by simp [mkS,aa9,C8],by simp [mkS,O.refsLt],?_⟩;simp [mkS,Abs.get,C.refsLtT,C.refsLt,C.refsLt1]) ?_;rintro ⟨seen,out⟩ ⟨h1,h2,h3⟩ hnext;dsimp only at h1 h2 h3 hnext;have hso:out.length=seen.length:=by rw [h3];simp
 have hle:=aF9 ks.length seen h1 h2;have hmx:maxLen=9223372036854775807:=rfl;refine l7 Tryz.func145 mixed 7 _ _ (by kernel_rfl) ?_;simp only [go_sem,seval,run.eq_1];refine aI7 (fun hall=>?_) (fun i p hp hns=>?_)
 ·have hpk:=be9 hn h1 h2 (fun i hi=>hall i (by rw [aa9];exact hi))
  rw [<-h3] at hpk;refine bd5 Tryz.sort_Ints Tryz.sort_Ints_none (r:=2) (by omega) rfl ?_;simp only [go_sem,seval,run.eq_1];refine AW.freezeB 3 2 rfl rfl ?_;refine rS_ Tryz.func145 ?_;simp only [go_sem,seval];rw [by5 hpk.1,aQ9 hpk.2]
 ·obtain ⟨k,hk,rfl⟩:=bB3 hp
  have hik:=(e_.1 hk).1;have hlt:(seen++[i]).length<=ks.length:=aF9 _ _ (by rw [List.nodup_append];exact ⟨h1,by simp,fun a ha b hb=>by simp at hb;subst hb;intro e;subst e;exact hns ha⟩) (fun x hx=>by
   rcases l_.1 hx with hx | hx
   ·exact h2 x hx
   ·simp at hx;omega)
  simp only [c_,a_,g_] at hlt;refine rS_ Tryz.func145 ?_;simp only [go_sem,seval,List.getLast?_concat,d9 hp,d9 hk,aa9,aj1];have hnd:(seen++[i]).Nodup:=by rw [List.nodup_append];exact ⟨h1,by simp,fun a ha b hb=>by simp at hb;subst hb;intro e;subst e;exact hns ha⟩
  refine ⟨⟨by omega,by omega,hnext (seen++[i],out++[k]) _ ⟨hnd,?_,?_⟩ ?_ ?_⟩,hik⟩
  ·intro x hx
   rcases l_.1 hx with hx | hx
   ·exact h2 x hx
   ·simp at hx;omega
  ·simp only [List.map_append,h3,H_,s_]
   congr 2;rw [x_,hk];rfl
  ·simp only [c_,a_,g_];omega
  ·refine ⟨by simp [mkS],by simp [mkS,aa9,aO2,br8],by simp [mkS,O.refsLt],?_⟩;simp [mkS,Abs.get,C.refsLtT,C.refsLt,C.refsLt1]
theorem aV1 (t:Gl) (hs:t.shape=true) (hw:wtL t.enc<=9000000):Gives Tryz.prog 102 [.agg t.enc] (.d (.sl (C8 (R6 t.vars)))):=by
 have h:=bM6 t.enc;have hterms:∀x,x∈t.subs->∀u,u∈x.terms->Q5 u=true:=fun x hx=>Gl.shape_terms (Gl.shape_sub hs x hx);have hf:t.subs.foldl (fun ks x=>(Tm.varss x.terms).foldl ay9 ks) []=t.vars.foldl ay9 []:=by rw [Gl.vars_subs,aj6]
 have hvw:=Gl.vars_wt t;have hkl:=aP1 (vs:=t.vars) (ks:=[]);simp only [g_] at hkl;have hkn:(t.vars.foldl ay9 []).Nodup:=av5 (by simp);have hka:R6 (t.vars.foldl ay9 [])=R6 t.vars:=aQ9 (fun x=>by rw [aP0];simp);have e1:=ag1 h t [] hterms;rw [hf] at e1;refine aE_ Tryz.func102 ?_;refine rS_ Tryz.func102 ?_;simp only [go_sem,seval]
 repeat' (first
  | ((first
   | (refine l8.mono e1 ?_<;>(rintro c H' ⟨rfl,rfl⟩))
   | (refine (aE5 _ hkn (by omega)).at1 rfl 1 rfl rfl ?_<;>(rintro c o' ⟨rfl,ho⟩;cases ho;refine ⟨rfl,rfl,?_⟩)))<;>(try simp only [go_sem,seval,C.at1]))
  | fail)
 all_goals rw [hka]
theorem an9 (l:List Int) (n:Int) (ha:Asc l) (hl:l.length<=9000000):Gives Tryz.prog 163 [.sl (C8 l),.int .i64 n] (.d (.sl (C8 (ab1 l n)))):=by
 have hat:=fun k=>bM2 (n:=n) (k:=k) ha;have hmx:maxLen=9223372036854775807:=rfl;generalize ab1 l n=N at hat |-;refine aE_ Tryz.func163 ?_;refine rS_ Tryz.func163 ?_;simp only [go_sem,seval];refine AW.lp [0,1] (fun k:Nat=>[(5,.d (.int .i64 k))]) (fun H _=>H) (fun k=>k<=l.length/\∀j x,k<=j->l[j]? = some x->n<=x) (fun k=>k) l.length ⟨m_ _,fun j x hj hx=>by have:=(e_.1 hx).1;omega⟩ (by simp only [aj1];exact by refine ⟨by simp [mkS],by simp [mkS],by simp [mkS,O.refsLt,C.refsLt,C.refsLt1],?_⟩;simp [mkS,Abs.get,C.refsLtT,C.refsLt,C.refsLt1]) ?_;rintro k ⟨hk,hge⟩ hnext;have z0:((0:Nat):Int)=0:=rfl;have fin:∀k,k<=l.length->(N=if l[k]? = some n then l else l.take k++([n]++l.drop k))->∀y,l[k]? = some y->(y=n->N=l)/\(y≠n->N=l.take k++([n]++l.drop k)):=fun k _ h y hy=>by
  rw [hy] at h;exact ⟨fun e=>by rw [h,e,if_pos rfl],fun e=>by rw [h,if_neg (by simpa using e)]⟩
 have fin0:∀k,(N=if l[k]? = some n then l else l.take k++([n]++l.drop k))->(l.length:Int)<=k->N=l.take k++([n]++l.drop k):=fun k h hk=>by
  rw [h,if_neg (by rw [D_ (by omega)];simp)]
 by_cases h0:k=0
 ·subst h0
  have hN:=hat 0 hge (.inl rfl);have fa:=fin 0 (by omega) hN;have fb:=fin0 0 hN;clear hnext hat fin fin0 hN;refine rS_ Tryz.func163 ?_;simp only [go_sem,seval,z0]
  repeat' (first
   | ((first | (refine C9 (fun hq=>?_) (fun hq=>?_)) | (refine y7 (fun x hx=>have hq:=hx;?_)))<;>(try simp only [go_sem,seval,z0,hq]))
   | ((refine ⟨sd,?_⟩)<;>(try simp only [go_sem,seval,z0]))
   | fail)
  all_goals first
   | (rw [(fa _ (by assumption)).1 (by assumption)];done)
   | (rw [(fa _ (by assumption)).2 (by assumption)];simp [C8];done)
   | (rw [fb (by omega)];simp [C8];done)
 ·obtain ⟨k,rfl⟩:∃k',k=k'+1:=⟨k - 1,by omega⟩
  obtain ⟨x,hx⟩:∃x,l[k]? = some x:=⟨_,h_ (by omega)⟩;have e1:(k:Int)+((1:Nat):Int) - 1=(k:Int):=by omega
  have e2:((k:Int)+((1:Nat):Int)).toNat=k+1:=by omega
  have e3:(k:Int)+1 - 1=(k:Int):=by omega
  have e4:((k:Int)+1).toNat=k+1:=by omega
  by_cases hxn:n<=x
  ·have hge':∀j y,k<=j->l[j]? = some y->n<=y:=fun j y hj hy=>by
    by_cases e:j=k
    ·subst e;rw [hx] at hy;cases hy;exact hxn
    ·exact hge j y (by omega) hy
   clear hat fin fin0;refine rS_ Tryz.func163 ?_;simp only [go_sem,seval,e1,e2,e3,e4,d9 hx]
   repeat' (first
    | ((first | (refine C9 (fun hq=>?_) (fun hq=>?_)) | (refine y7 (fun x hx=>have hq:=hx;?_)))<;>(try simp only [go_sem,seval,e1,e2,e3,e4,d9 hx,hq]))
    | (simp (disch:=omega) only [l6])
    | ((refine ⟨sd,?_⟩)<;>(try simp only [go_sem,seval,e1,e2,e3,e4,d9 hx]))
    | fail)
   all_goals first
    | exact hnext k _ ⟨by omega,hge'⟩ (by omega) H6
    | (exfalso;omega)
  ·have hN:=hat (k+1) hge (.inr ⟨x,by simpa using hx,by omega⟩)
   have fa:=fin (k+1) (by omega) hN;have fb:=fin0 (k+1) hN;clear hnext hat fin fin0 hN;refine rS_ Tryz.func163 ?_;simp only [go_sem,seval,e1,e2,e3,e4,d9 hx]
   repeat' (first
    | ((first | (refine C9 (fun hq=>?_) (fun hq=>?_)) | (refine y7 (fun x hx=>have hq:=hx;?_)))<;>(try simp only [go_sem,seval,e1,e2,e3,e4,d9 hx,hq]))
    | (simp (disch:=omega) only [l6])
    | ((refine ⟨sd,?_⟩)<;>(try simp only [go_sem,seval,e1,e2,e3,e4,d9 hx]))
    | fail)
   all_goals first
    | (rw [(fa _ (by assumption)).1 (by assumption)];done)
    | (rw [(fa _ (by assumption)).2 (by assumption)];simp [C8];done)
    | (rw [fb (by omega)];simp [C8];done)
    | (exfalso;omega)
theorem aB4:∀(t:Tm) (l:List Int),Asc l->l.length+t.vars.length<=9000000->Gives Tryz.prog 135 [.agg t.enc,.sl (C8 l)] (.d (.sl (C8 (t.vars.foldl ab1 l)))):=by
 intro t;induction t using Tm.ind' with
 | h t ih =>
  intro l ha hl;have hv:=Tm.vars_eq t;by_cases hk:t.kind=1
  ·rw [if_pos hk] at hv
   rw [hv] at hl |-;simp only [a_,g_] at hl;refine aE_ Tryz.func135 ?_;refine rS_ Tryz.func135 ?_;simp only [go_sem,seval]
   repeat' (first
    | ((refine C9 (fun hq=>?_) (fun hq=>?_))<;>(try simp only [go_sem,seval,hk,hq]))
    | ((refine (an9 _ _ (by assumption) sd).calls rfl ?_)<;>(try simp only [go_sem,seval,hk]))
    | fail)
   all_goals try (exact absurd hk (by assumption))
   all_goals rfl
  ·rw [if_neg hk] at hv
   rw [hv] at hl |-;refine aE_ Tryz.func135 ?_;refine rS_ Tryz.func135 ?_;simp only [go_sem,seval]
   repeat' (first
    | ((refine C9 (fun hq=>?_) (fun hq=>?_))<;>(try simp only [go_sem,seval,hq]))
    | ((refine (an9 _ _ (by assumption) sd).calls rfl ?_)<;>(try simp only [go_sem,seval]))
    | fail)
   all_goals try (exact absurd (by assumption) hk)
   refine AW.rng t.args [15,16] 17 15 (fun acc:List Int=>[(1,.d (.sl (C8 acc)))]) (fun H _=>H) (fun r acc=>Asc acc/\acc.length+(Tm.varss r).length<=9000000/\(Tm.varss r).foldl ab1 acc=(Tm.varss t.args).foldl ab1 l) l rfl (by simp) ⟨ha,hl,rfl⟩ H6 (fun i x r acc hxi hdr hlt hm hinv hnext=>?_) (fun acc hinv=>?_)
   ·have hx:=f_ hxi
    obtain ⟨v1,v2,v3⟩:=hinv;simp only [Tm.varss,c_,p_] at v2 v3;have ihx:=ih x hx acc v1 (by omega);have hfl:=ab5 (vs:=x.vars) (l:=acc);refine rS_ Tryz.func135 ?_;simp only [go_sem,seval,hlt,d9 hxi]
    repeat' (first
     | (simp (disch:=omega) only [l6])
     | (refine hnext (x.vars.foldl ab1 acc) _ ⟨ab6 v1,by omega,v3⟩ H6)
     | ((refine ihx.calls rfl ?_)<;>(try simp only [go_sem,seval]))
     | fail)
   ·obtain ⟨v1,v2,v3⟩:=hinv
    simp only [Tm.varss,y_] at v3;refine rS_ Tryz.func135 ?_;simp only [go_sem,seval];rw [v3]
theorem bh0:∀(t:Gl) (l:List Int),Asc l->l.length+t.vars.length<=9000000->Gives Tryz.prog 124 [.agg t.enc,.sl (C8 l)] (.d (.sl (C8 (t.vars.foldl ab1 l)))):=by
 intro t;induction t using Gl.ind' with
 | h t ih =>
  intro l ha hl;have hv:=Gl.vars_eq t;rw [hv] at hl |-;rw [c_] at hl;rw [p_];refine aE_ Tryz.func124 ?_;refine rS_ Tryz.func124 ?_;simp only [go_sem,seval];refine AW.rng t.terms [2,10,11] 12 10 (fun acc:List Int=>[(1,.d (.sl (C8 acc)))]) (fun H _=>H) (fun r acc=>Asc acc/\acc.length+(Tm.varss r).length+(Gl.varss t.goals).length<=9000000/\(Tm.varss r).foldl ab1 acc=(Tm.varss t.terms).foldl ab1 l) l rfl (by simp) ⟨ha,by omega,rfl⟩ H6 (fun i x r acc hxi hdr hlt hm hinv hnext=>?_) (fun acc hinv=>?_)
  ·obtain ⟨v1,v2,v3⟩:=hinv
   simp only [Tm.varss,c_,p_] at v2 v3;have hfl:=ab5 (vs:=x.vars) (l:=acc);refine rS_ Tryz.func124 ?_;simp only [go_sem,seval,hlt,d9 hxi]
   repeat' (first
    | (simp (disch:=omega) only [l6])
    | (refine hnext (x.vars.foldl ab1 acc) _ ⟨ab6 v1,by omega,v3⟩ H6)
    | ((refine (aB4 _ _ (by assumption) sd).calls rfl ?_)<;>(try simp only [go_sem,seval]))
    | fail)
  ·obtain ⟨v1,v2,v3⟩:=hinv
   simp only [Tm.varss,y_,g_] at v2 v3;subst v3;refine rS_ Tryz.func124 ?_;simp only [go_sem,seval];refine AW.rng t.goals [21,22] 23 21 (fun acc:List Int=>[(1,.d (.sl (C8 acc)))]) (fun H _=>H) (fun r acc'=>Asc acc'/\acc'.length+(Gl.varss r).length<=9000000/\(Gl.varss r).foldl ab1 acc'=(Gl.varss t.goals).foldl ab1 ((Tm.varss t.terms).foldl ab1 l)) _ rfl (by simp) ⟨v1,by omega,rfl⟩ H6 (fun i x r acc hxi hdr hlt hm hinv hnext=>?_) (fun acc hinv=>?_)
   ·have hx:=f_ hxi
    obtain ⟨w1,w2,w3⟩:=hinv;simp only [Gl.varss,c_,p_] at w2 w3;have ihx:=ih x hx acc w1 (by omega);have hfl:=ab5 (vs:=x.vars) (l:=acc);refine rS_ Tryz.func124 ?_;simp only [go_sem,seval,hlt,d9 hxi]
    repeat' (first
     | (simp (disch:=omega) only [l6])
     | (refine hnext (x.vars.foldl ab1 acc) _ ⟨ab6 w1,by omega,w3⟩ H6)
     | ((refine ihx.calls rfl ?_)<;>(try simp only [go_sem,seval]))
     | fail)
   ·obtain ⟨w1,w2,w3⟩:=hinv
    simp only [Gl.varss,y_] at w3;refine rS_ Tryz.func124 ?_;simp only [go_sem,seval];rw [w3]
set_option maxHeartbeats 8000000
theorem Y6 (p:Pg) (s:List UInt8):Gives Tryz.prog 52 [.agg p.enc,.str s] (.d (.int .i64 (p.find s))):=by
 refine aE_ Tryz.func52 ?_;refine rS_ Tryz.func52 ?_;simp only [go_sem,seval];refine AW.rng p.rels [1,8,9] 10 8 (fun _:Unit=>[]) (fun H _=>H) (fun r _=>V4 r s ((p.rels.length - r.length:Nat):Int)=p.find s) () rfl (by simp) (by simp [Pg.find]) H6 (fun i x r acc hxi hdr hlt hm hinv hnext=>?_) (fun acc hinv=>?_)
 ·have hdl:=ap9 hdr
  have hdl2:p.rels.length - r.length=i+1:=by have:=congrArg List.length hdr;simp at this;omega
  simp only [a_,hdl,V4] at hinv;rw [hdl2] at hnext;refine rS_ Tryz.func52 ?_;simp only [go_sem,seval,hlt,d9 hxi]
  repeat' (first
   | ((refine C9 (fun hq=>?_) (fun hq=>?_))<;>(try simp only [go_sem,seval,hq]))
   | (simp (disch:=omega) only [l6])
   | (refine hnext () _ ?_ H6)
   | fail)
  all_goals clear hnext
  ·rw [<-hinv];simp [*]
  ·rw [<-hinv];simp [*]
 ·simp only [V4] at hinv
  refine rS_ Tryz.func52 ?_;simp only [go_sem,seval];rw [hinv]
theorem X4 (p:Pg) (s:List UInt8):Gives Tryz.prog 56 [.agg p.enc,.str s] (.d (.int .i64 (p.find s))):=by
 refine aE_ Tryz.func56 ?_;refine rS_ Tryz.func56 ?_;simp only [go_sem,seval];refine AW.rng p.rels [1,8,9] 10 8 (fun _:Unit=>[]) (fun H _=>H) (fun r _=>V4 r s ((p.rels.length - r.length:Nat):Int)=p.find s) () rfl (by simp) (by simp [Pg.find]) H6 (fun i x r acc hxi hdr hlt hm hinv hnext=>?_) (fun acc hinv=>?_)
 ·have hdl:=ap9 hdr
  have hdl2:p.rels.length - r.length=i+1:=by have:=congrArg List.length hdr;simp at this;omega
  simp only [a_,hdl,V4] at hinv;rw [hdl2] at hnext;refine rS_ Tryz.func56 ?_;simp only [go_sem,seval,hlt,d9 hxi]
  repeat' (first
   | ((refine C9 (fun hq=>?_) (fun hq=>?_))<;>(try simp only [go_sem,seval,hq]))
   | (simp (disch:=omega) only [l6])
   | (refine hnext () _ ?_ H6)
   | fail)
  all_goals clear hnext
  ·rw [<-hinv];simp [*]
  ·rw [<-hinv];simp [*]
 ·simp only [V4] at hinv
  refine rS_ Tryz.func56 ?_;simp only [go_sem,seval];rw [hinv]
theorem aK1 (t:Gl) (n:Int) (hs:t.shape=true) (hw:wtL t.enc<=9000000):Gives Tryz.prog 59 [.agg t.enc,.int .i64 n] (.d (.bool (t.varsLt n))):=by
 have hb:t.varsLt n=_:=(aQ8 t.vars n).symm;generalize t.varsLt n=N at hb |-;refine aE_ Tryz.func59 ?_;refine rS_ Tryz.func59 ?_;simp only [go_sem,seval]
 repeat' (first
  | ((refine (aV1 _ (by assumption) sd).calls rfl ?_)<;>(try simp only [go_sem,seval]))
  | fail)
 refine AW.rng (R6 t.vars) [1,8,9] 10 8 (fun _:Unit=>[]) (fun H _=>H) (fun r _=>(r.all fun v=>decide (v<n))=N) () rfl (by simp [C8]) hb.symm H6 (fun i x r acc hxi hdr hlt hm hinv hnext=>?_) (fun acc hinv=>?_)
 ·rw [b_] at hinv
  refine rS_ Tryz.func59 ?_;simp only [go_sem,seval,hlt,d9 hxi]
  repeat' (first
   | ((refine C9 (fun hq=>?_) (fun hq=>?_))<;>(try simp only [go_sem,seval,hq]))
   | (simp (disch:=omega) only [l6])
   | (refine hnext () _ ?_ H6)
   | fail)
  all_goals clear hnext
  all_goals first | (rw [<-hinv,decide_eq_false (by omega)];rfl) | (rw [<-hinv,decide_eq_true (by omega)];rfl)
 ·rw [d_] at hinv
  refine rS_ Tryz.func59 ?_;simp only [go_sem,seval];rw [hinv]
theorem bN5 (p:Pg) (gb:List D):Clo Tryz.prog 104 [.ptr 0 0,.ptr 2 0] 3 (fun x:Gl=>D.agg x.enc) (fun b:Bool=>[.box (p.enc.map .d),.box (gb.map .d),.box [.d (.bool b)]]) (fun _=>True) (fun b x=>b && p.fitC x):=by
 refine ⟨by kernel_rfl,rfl,fun _=>rfl,fun a=>by simp only [b_,d_,O.refsLt,o5,C.refsLt,C.refsLt1];rfl,fun a x _=>?_⟩;have h1:=fun h=>Pg.fitC_other (p:=p) (x:=x) h;have h2:=fun h hf=>Pg.fitC_neg (p:=p) (x:=x) h hf;have h3:=fun h hf r hr=>Pg.fitC_at (p:=p) (x:=x) h hf (r:=r) hr;have hr:=Pg.find_range p x.name;generalize p.fitC x=N at h1 h2 h3 |-;refine aE_ Tryz.func104 ?_;refine rS_ Tryz.func104 ?_;simp only [go_sem,seval]
 repeat' (first
  | ((first | (refine C9 (fun hq=>?_) (fun hq=>?_)) | (refine y7 (fun x hx=>have hq:=hx;?_)))<;>(try simp only [go_sem,seval,hq]))
  | ((first
   | (refine (Y6 _ _).calls rfl ?_)
   | (refine ⟨sd,?_⟩))<;>(try simp only [go_sem,seval]))
  | fail)
 all_goals (refine ⟨by simp only [o5,Bool.and_self],?_⟩;congr 6)
 ·rw [h3 (by assumption) (by assumption) _ hx,decide_eq_false (by assumption),K_]
 ·rw [h3 (by assumption) (by assumption) _ hx,decide_eq_true (by assumption),I_]
 ·rw [h2 (by assumption) (by assumption),K_]
 ·rw [h1 (by assumption),I_]
theorem aW3 (p:Pg) (g:Gl):Gives Tryz.prog 60 [.agg p.enc,.agg g.enc] (.d (.bool (p.callsFit g))):=by
 have e1:=ag1 (bN5 p g.enc) g true (fun _ _=>trivial);rw [aO9,v_] at e1;have hc:p.callsFit g=g.subs.all p.fitC:=rfl;rw [hc];generalize g.subs.all p.fitC=N at e1 |-;refine aE_ Tryz.func60 ?_;refine rS_ Tryz.func60 ?_;simp only [go_sem,seval]
 repeat' (first
  | ((refine l8.mono e1 ?_<;>(rintro c H' ⟨rfl,rfl⟩))<;>(try simp only [go_sem,seval]))
  | fail)
theorem aT9 (p:Pg):∀(t:Gl),t.shape=true->Gives Tryz.prog 123 [.agg p.enc,.agg t.enc] (.d (.bool (p.callsFit t))):=by
 intro t;induction t using Gl.ind' with
 | h t ih =>
  intro hs;have h0:=Pg.callsFit_eq p t;have h1:=fun h=>Pg.fitC_other (p:=p) (x:=t) h;have h2:=fun h hf=>Pg.fitC_neg (p:=p) (x:=t) h hf;have h3:=fun h hf r hr=>Pg.fitC_at (p:=p) (x:=t) h hf (r:=r) hr;have hr:=Pg.find_range p t.name;have hg:∀x,x∈t.goals->x.shape=true:=fun x hx=>by
   rw [Gl.shape_eq] at hs;simp only [i_,u_] at hs;exact hs.2 x hx
  have h9:t.kind=9->t.goals=[]:=fun h=>by
   rw [Gl.shape_eq] at hs;simp only [i_] at hs;have:=Gl.form_inv hs.1.1;exact w_ (by omega)
  generalize p.callsFit t=N at h0 |-;generalize p.fitC t=M at h0 h1 h2 h3;refine aE_ Tryz.func123 ?_;refine rS_ Tryz.func123 ?_;simp only [go_sem,seval]
  repeat' (first
   | ((first | (refine C9 (fun hq=>?_) (fun hq=>?_)) | (refine y7 (fun x hx=>have hq:=hx;?_)))<;>(try simp only [go_sem,seval,hq]))
   | ((first
    | (refine (X4 _ _).calls rfl ?_)
    | (refine ⟨sd,?_⟩))<;>(try simp only [go_sem,seval]))
   | fail)
  all_goals try (rw [h9 (by assumption),d_,I_] at h0;subst h0)
  ·rw [h3 (by assumption) (by assumption) _ hx]
  ·rw [h2 (by assumption) (by assumption)]
  rw [h1 (by assumption),v_] at h0;refine AW.rng t.goals [2,30,31] 32 30 (fun _:Unit=>[]) (fun H _=>H) (fun r _=>r.all p.callsFit=N) () rfl (by simp) h0.symm H6 (fun i x r acc hxi hdr hlt hm hinv hnext=>?_) (fun acc hinv=>?_)
  ·have hx:=f_ hxi
   have ihx:=ih x hx (hg x hx);rw [b_] at hinv;refine rS_ Tryz.func123 ?_;simp only [go_sem,seval,hlt,d9 hxi]
   repeat' (first
    | ((refine C9 (fun hq=>?_) (fun hq=>?_))<;>(try simp only [go_sem,seval,hq]))
    | (simp (disch:=omega) only [l6])
    | (refine hnext () _ ?_ H6)
    | ((refine ihx.calls rfl ?_)<;>(try simp only [go_sem,seval]))
    | fail)
   all_goals clear hnext ihx ih
   all_goals (rw [<-hinv];simp [*];done)
  ·rw [d_] at hinv
   refine rS_ Tryz.func123 ?_;simp only [go_sem,seval];rw [hinv]
theorem bg9 (p:Pg) (g:Gl) (n:Int) (hw:wtL g.enc<=9000000):Gives Tryz.prog 78 [.agg p.enc,.agg g.enc,.int .i64 n] (.d (.bool (p.fits g n))):=by
 have hvw:=Gl.vars_wt g;have hasc:Asc []:=by simp [Asc]
 have hnil:(g.vars.foldl ab1 [])=R6 g.vars:=rfl;have hN:p.fits g n=(ak5 g && (R6 g.vars).all (fun v=>decide (v<n)) && p.callsFit g):=by rw [aQ8];rfl
 have hlast:=fun {m x}=>bk6 (aj9 g.vars) n (m:=m) (x:=x);have hal:(R6 g.vars).length<=0+g.vars.length:=ab5;have hempty:(R6 g.vars).length=0->(R6 g.vars).all (fun v=>decide (v<n))=true:=fun h=>by rw [w_ h];rfl
 generalize p.fits g n=N at hN |-;by_cases hok:ak5 g=true
 ·have hs:=bi5 hok
  generalize hb:p.callsFit g=b at hN;refine aE_ Tryz.func78 ?_;refine rS_ Tryz.func78 ?_;simp only [go_sem,seval,hok,hb]
  repeat' (first
   | ((first | (refine C9 (fun hq=>?_) (fun hq=>?_)) | (refine y7 (fun x hx=>have hq:=hx;?_)))<;>(try simp only [go_sem,seval,hnil,hok,hb,hq]))
   | (simp (disch:=omega) only [l6])
   | ((first
    | (refine (bh0 g [] hasc (by simp;omega)).calls rfl ?_)
    | (refine (P8 _ sd).calls rfl ?_)
    | (refine (aT9 _ _ (by assumption)).calls rfl ?_)
    | (refine ⟨sd,?_⟩))<;>(try simp only [go_sem,seval,hnil,hok,hb]))
   | fail)
  all_goals rw [hN]
  ·rw [hq,K_]
  ·rw [hlast (m:=((R6 g.vars).length - 1:Int).toNat) (by omega) hx,hok];simp [*]
  ·rw [hempty (by omega),hok];simp [*]
 ·simp only [C_] at hok
  rw [hN,hok];refine aE_ Tryz.func78 ?_;refine rS_ Tryz.func78 ?_;simp only [go_sem,seval,hok]
  repeat' (first
   | ((refine (P8 _ sd).calls rfl ?_)<;>(try simp only [go_sem,seval,hok]))
   | fail)
theorem Y7 (p:Pg) (hw:wtL p.enc<=9000000):Gives Tryz.prog 31 [.agg p.enc] (.d (.bool (N9 p))):=by
 have hP:N9 p=(decide (p.rels.length<=8) && p.okL p.rels):=rfl;have hwr:∀r,r∈p.rels->wtL r.body.enc<=9000000/\r.name.length<=9000000:=fun r hr=>by
  have:=Pg.wt_rels hr;have:=Rl.wt_body r;omega
 generalize N9 p=N at hP |-;refine aE_ Tryz.func31 ?_;refine rS_ Tryz.func31 ?_;simp only [go_sem,seval]
 repeat' (first
  | ((refine C9 (fun hq=>?_) (fun hq=>?_))<;>(try simp only [go_sem,seval,hq]))
  | fail)
 ·rw [hP,decide_eq_false (by omega)];rfl
 rw [decide_eq_true (by omega),v_] at hP;refine AW.rng p.rels [1,10,11] 12 10 (fun _:Unit=>[]) (fun H _=>H) (fun r _=>p.okL r=N) () rfl (by simp) hP.symm H6 (fun i x r acc hxi hdr hlt hm hinv hnext=>?_) (fun acc hinv=>?_)
 ·have hdl:=ap9 hdr
  obtain ⟨w1,w2⟩:=hwr x (f_ hxi);simp only [Pg.okL,hdl] at hinv;have hM:p.relOk i x=true↔p.find x.name=i/\P5 x.name=true/\(0<=x.arity/\x.arity<=4)/\(0<=x.locals/\x.locals<=8)/\x.body.cnt<=60/\x.body.shape=true/\x.body.varsLt (x.arity+x.locals)=true/\p.callsFit x.body=true:=by
   unfold Pg.relOk;simp only [i_,decide_eq_true_eq,and_assoc]
  have hgo:ak5 x.body=true↔x.body.cnt<=80/\x.body.shape=true:=by unfold ak5;simp
  have hcs:=Gl.count_spec x.body 80;have hcp:=Gl.cnt_pos x.body;have hsh:0<=x.body.nodes 60↔x.body.shape=true/\x.body.cnt<=60:=by
   unfold Gl.nodes;by_cases h:x.body.shape=true/\(x.body.cnt:Int)<=60
   ·rw [if_pos h];exact ⟨fun _=>⟨h.1,by omega⟩,fun _=>by omega⟩
   ·rw [if_neg h];exact ⟨fun h'=>by omega,fun h'=>absurd ⟨h'.1,by omega⟩ h⟩
  obtain ⟨z,hz,hz1⟩:∃z:Int,(if ak5 x.body=true then x.body.countF 80 else 0)=z/\(ak5 x.body=true->z=x.body.cnt):=⟨_,rfl,fun h=>by rw [if_pos h];have:=(hgo.1 h).1;omega⟩;have hfi:p.fits x.body (x.arity+x.locals)=true↔ak5 x.body=true/\x.body.varsLt (x.arity+x.locals)=true/\p.callsFit x.body=true:=by unfold Pg.fits;simp only [i_,and_assoc]
  generalize p.relOk i x=M at hM hinv;generalize hb1:p.callsFit x.body=b1 at hM hfi;generalize hb3:p.fits x.body (x.arity+x.locals)=b3 at hfi;have hfl:¬M=true->N=false:=fun h=>by rw [<-hinv,Bool.eq_false_iff.2 h];rfl
  have htr:M=true->p.okL r=N:=fun h=>by rw [<-hinv,h];rfl
  clear hinv;refine rS_ Tryz.func31 ?_;simp only [go_sem,seval,hlt,d9 hxi]
  repeat' (first
   | ((refine C9 (fun hq=>?_) (fun hq=>?_))<;>(try simp only [go_sem,seval,hb1,hb3,hz,hq]))
   | (simp (disch:=omega) only [l6])
   | (refine hnext () _ ?_ H6)
   | ((first
    | (refine (aK1 _ _ (hsh.1 (by omega)).1 (by omega)).calls rfl ?_)
    | (refine (Y6 _ _).calls rfl ?_)
    | (refine (Y8 _ sd).calls rfl ?_)
    | (refine (aO6 _ _ sd sd sd).calls rfl ?_)
    | (refine (aW3 _ _).calls rfl ?_))<;>(try simp only [go_sem,seval,hb1,hb3,hz]))
   | fail)
  all_goals clear hnext hz
  all_goals first
   | (rw [hfl (fun h=>by obtain ⟨m1,m2,m3,m4,m5,m6,m7,m8⟩:=hM.1 h;have hg:=hgo.2 ⟨by omega,m6⟩;have hs2:=hsh.2 ⟨m6,m5⟩;have hf2:=hfi.2 ⟨hg,m7,m8⟩;have hz2:=hz1 hg;clear hcs hgo hsh hfi hM hfl htr hz1;first | omega | simp_all)];done)
   | (refine htr (hM.2 ?_);have hs1:=hsh.1 (by omega);exact ⟨by assumption,by assumption,by omega,by omega,hs1.2,hs1.1,by assumption,by assumption⟩)
   | (refine htr (hM.2 ?_);obtain ⟨f1,f2,f3⟩:=hfi.1 (by assumption);obtain ⟨g1,g2⟩:=hgo.1 f1;have hz2:=hz1 f1;exact ⟨by assumption,by assumption,by omega,by omega,by omega,g2,f2,f3⟩)
   | skip
 ·simp only [Pg.okL] at hinv
  refine rS_ Tryz.func31 ?_;simp only [go_sem,seval];rw [hinv]
theorem F5 (p:Pg) (hw:wtL p.enc<=9000000):Gives Tryz.prog 42 [.agg p.enc] (.d (.bool (N9 p))):=by
 have hP:N9 p=(decide (p.rels.length<=8) && p.okL p.rels):=rfl;have hwr:∀r,r∈p.rels->wtL r.body.enc<=9000000/\r.name.length<=9000000:=fun r hr=>by
  have:=Pg.wt_rels hr;have:=Rl.wt_body r;omega
 generalize N9 p=N at hP |-;refine aE_ Tryz.func42 ?_;refine rS_ Tryz.func42 ?_;simp only [go_sem,seval]
 repeat' (first
  | ((refine C9 (fun hq=>?_) (fun hq=>?_))<;>(try simp only [go_sem,seval,hq]))
  | fail)
 ·rw [hP,decide_eq_false (by omega)];rfl
 rw [decide_eq_true (by omega),v_] at hP;refine AW.rng p.rels [1,10,11] 12 10 (fun _:Unit=>[]) (fun H _=>H) (fun r _=>p.okL r=N) () rfl (by simp) hP.symm H6 (fun i x r acc hxi hdr hlt hm hinv hnext=>?_) (fun acc hinv=>?_)
 ·have hdl:=ap9 hdr
  obtain ⟨w1,w2⟩:=hwr x (f_ hxi);simp only [Pg.okL,hdl] at hinv;have hM:p.relOk i x=true↔p.find x.name=i/\P5 x.name=true/\(0<=x.arity/\x.arity<=4)/\(0<=x.locals/\x.locals<=8)/\x.body.cnt<=60/\x.body.shape=true/\x.body.varsLt (x.arity+x.locals)=true/\p.callsFit x.body=true:=by
   unfold Pg.relOk;simp only [i_,decide_eq_true_eq,and_assoc]
  have hgo:ak5 x.body=true↔x.body.cnt<=80/\x.body.shape=true:=by unfold ak5;simp
  have hcs:=Gl.count_spec x.body 80;have hcp:=Gl.cnt_pos x.body;have hsh:0<=x.body.nodes 60↔x.body.shape=true/\x.body.cnt<=60:=by
   unfold Gl.nodes;by_cases h:x.body.shape=true/\(x.body.cnt:Int)<=60
   ·rw [if_pos h];exact ⟨fun _=>⟨h.1,by omega⟩,fun _=>by omega⟩
   ·rw [if_neg h];exact ⟨fun h'=>by omega,fun h'=>absurd ⟨h'.1,by omega⟩ h⟩
  obtain ⟨z,hz,hz1⟩:∃z:Int,(if ak5 x.body=true then x.body.countF 80 else 0)=z/\(ak5 x.body=true->z=x.body.cnt):=⟨_,rfl,fun h=>by rw [if_pos h];have:=(hgo.1 h).1;omega⟩;have hfi:p.fits x.body (x.arity+x.locals)=true↔ak5 x.body=true/\x.body.varsLt (x.arity+x.locals)=true/\p.callsFit x.body=true:=by unfold Pg.fits;simp only [i_,and_assoc]
  generalize p.relOk i x=M at hM hinv;generalize hb1:p.callsFit x.body=b1 at hM hfi;generalize hb3:p.fits x.body (x.arity+x.locals)=b3 at hfi;have hfl:¬M=true->N=false:=fun h=>by rw [<-hinv,Bool.eq_false_iff.2 h];rfl
  have htr:M=true->p.okL r=N:=fun h=>by rw [<-hinv,h];rfl
  clear hinv;refine rS_ Tryz.func42 ?_;simp only [go_sem,seval,hlt,d9 hxi]
  repeat' (first
   | ((refine C9 (fun hq=>?_) (fun hq=>?_))<;>(try simp only [go_sem,seval,hb1,hb3,hz,hq]))
   | (simp (disch:=omega) only [l6])
   | (refine hnext () _ ?_ H6)
   | ((first
    | (refine (X4 _ _).calls rfl ?_)
    | (refine (E9 _ _ _).calls rfl ?_)
    | (refine (Y2 _ sd).calls rfl ?_)
    | (refine (bg9 _ _ _ sd).calls rfl ?_)
    | (refine (aK8 _ sd).calls rfl ?_))<;>(try simp only [go_sem,seval,hb1,hb3,hz]))
   | fail)
  all_goals clear hnext hz
  all_goals first
   | (rw [hfl (fun h=>by obtain ⟨m1,m2,m3,m4,m5,m6,m7,m8⟩:=hM.1 h;have hg:=hgo.2 ⟨by omega,m6⟩;have hs2:=hsh.2 ⟨m6,m5⟩;have hf2:=hfi.2 ⟨hg,m7,m8⟩;have hz2:=hz1 hg;clear hcs hgo hsh hfi hM hfl htr hz1;first | omega | simp_all)];done)
   | (refine htr (hM.2 ?_);have hs1:=hsh.1 (by omega);exact ⟨by assumption,by assumption,by omega,by omega,hs1.2,hs1.1,by assumption,by assumption⟩)
   | (refine htr (hM.2 ?_);obtain ⟨f1,f2,f3⟩:=hfi.1 (by assumption);obtain ⟨g1,g2⟩:=hgo.1 f1;have hz2:=hz1 f1;exact ⟨by assumption,by assumption,by omega,by omega,by omega,g2,f2,f3⟩)
   | skip
 ·simp only [Pg.okL] at hinv
  refine rS_ Tryz.func42 ?_;simp only [go_sem,seval];rw [hinv]
theorem K3 {T:List (List UInt8)} {i fr:Nat} {x:List UInt8} (hx:T[i]? = some x) (hf:fr<=i):(T.take (i+1)).drop fr=(T.take i).drop fr++[x]:=by
 have hil:=(e_.1 hx).1;rw [List.take_add_one,hx,Option.toList_some,List.drop_append_of_le_length (by rw [List.length_take];omega)]
theorem ar3 (T:List (List UInt8)):∀x,x∈Y1 T->x.length=1:=fun x hx=>by
 unfold Y1 at hx;obtain ⟨t,_,rfl⟩:=N_.1 hx;rfl
theorem V5 (T:List (List UInt8)) (k:Nat):(T.take k).drop k=[]:=r_ (by rw [List.length_take];omega)
theorem aE2 (T:List (List UInt8)) (a b:Nat):((Y1 T).take b).drop a=Y1 ((T.take b).drop a):=by
 unfold Y1;rw [List.map_drop,List.map_take]
theorem ap2 (s:List UInt8) (hs:s.length<=1048576) (T:List (List UInt8)) (rels:List Rl) (hT:aD9 s=some T) (hl:T.length<=20000) (hm:∀t,t∈T->t≠[]/\t.length<=100000) (hp:ppT T [] 0 []=some (rels,0)) (hok:N9 ⟨rels⟩=true) (hw:wtL (Pg.mk rels).enc<=9000000):Gives Tryz.prog 14 [.str s] (.tup [.d (.agg (Pg.mk rels).enc),.d (.bool true)]):=by
 have hmx:maxLen=9223372036854775807:=rfl;have htk:=be0 s hs;rw [hT] at htk;unfold tkC at htk;dsimp only at htk;have hPe:(Pg.mk rels).enc=[.sl (rels.map Rl.enc)]:=Pg.enc_eq _;have hpo:=F5 ⟨rels⟩ hw;rw [hok,hPe] at hpo;rw [hPe];refine aE_ Tryz.func14 ?_;refine rS_ Tryz.func14 ?_;simp only [go_sem,seval,l9]
 repeat' (first
  | ((refine htk.calls rfl ?_)<;>(try simp only [go_sem,seval,l9]))
  | fail)
 refine AW.adoptGB 1 0 7 81 (by decide) rfl rfl ?_;refine AW.rng T [2,4,6,22,23] 24 22 (fun u:Nat×Int×Nat×List Rl=>[(7,.d (.int .i64 (u.1:Int))),(8,.d (.int .i64 u.2.1))]) (fun _ u=>[.box [.nil0],.box [.own 2 u.2.2.1],.grow u.2.2.1 7 81 (u.2.2.2.map Rl.enc)]) (fun r u=>u.1<=T.length - r.length/\(r.length:Int)<=u.2.1+T.length/\u.2.1+r.length<=T.length/\ppT r ((T.take (T.length - r.length)).drop u.1) u.2.1 u.2.2.2=some (rels,0)/\u.2.2.2.length<=T.length - r.length) (0,0,0,[]) rfl (by simp [l9]) ⟨by simp,by dsimp only;omega,by dsimp only;omega,by simpa using hp,by simp⟩ A8 (fun i x r u hxi hdr hlt hmm hinv hnext=>?_) (fun u hinv=>?_)
 ·obtain ⟨fr,d,q,L⟩:=u
  obtain ⟨i2,i3,i4,i1,i5⟩:=hinv;dsimp only [a_] at i1 i2 i3 i4 i5 hnext |-;have hnx:=fun a b c e s'=>hnext (a,b,c,e) s';clear hnext;have hil:=(e_.1 hxi).1;have hrl:=congrArg List.length hdr;simp only [t_,a_] at hrl;have hi:T.length - (r.length+1)=i:=by omega
  have hj:T.length - r.length=i+1:=by omega
  rw [hi] at i1 i2;have hfi:fr<=i:=i2;have hxx:=G8 hxi;have wi:IntKind.i64.wrap ((i:Int)+1)=(i:Int)+1:=by simp (disch:=omega) only [l6]
  have hfr:(fr:Int)<=(i:Int)+1:=by omega
  have hil1:(i:Int)+1<=(T.length:Int):=by omega
  have hin:((i:Int)+1).toNat=i+1:=by omega
  simp only [ppT] at i1;by_cases h40:x=[40]
  ·rw [if_pos h40] at i1
   have wd:IntKind.i64.wrap (d+1)=d+1:=by simp (disch:=omega) only [l6]
   have e1:¬([40]:List UInt8)=[41]:=by decide
   have hnx':=hnx;by_cases hd:0<d+1
   ·rw [if_pos hd] at i1
    refine rS_ Tryz.func14 ?_;simp only [go_sem,seval,hlt,l9,d9 hxx,wi,hd,h40,wd,e1];all_goals refine hnx fr (d+1) q L _ ⟨by dsimp only;omega,by dsimp only;omega,by dsimp only;omega,by dsimp only;rw [hj];rw [<-K3 hxi hfi] at i1;exact i1,by dsimp only;omega⟩ A8
   ·rw [if_neg hd] at i1
    cases hdf:dfT ((T.take i).drop fr++[x]) with
    | none=>rw [hdf] at i1;cases i1
    | some y =>
     rw [hdf] at i1;dsimp only at i1;have hdef:=aa6 ((T.take i).drop fr++[x]) y (by rw [<-K3 hxi hfi];simp;omega) (fun t ht=>hm t (by rw [<-K3 hxi hfi] at ht;exact F_ (G_ ht))) hdf;rw [<-K3 hxi hfi,<-aE2] at hdef;have hye:=Rl.enc_eq y;refine rS_ Tryz.func14 ?_;simp only [go_sem,seval,hlt,l9,d9 hxx,wi,hd,hfr,hil1,hin,h40,wd,e1]
     repeat' (first
      | (refine ⟨ar3 T,?_⟩<;>(try simp only [go_sem,seval,hlt,l9,d9 hxx,wi,hd,hfr,hil1,hin,h40,wd,e1]))
      | ((first
       | (refine hdef.calls rfl ?_)
       | (refine ⟨sd,?_⟩))<;>(try simp only [go_sem,seval,hlt,l9,d9 hxx,wi,hd,hfr,hil1,hin,h40,wd,e1]))
      | fail)
     all_goals refine hnx (i+1) (d+1) (q+1) (L++[y]) _ ⟨by dsimp only;omega,by dsimp only;omega,by dsimp only;omega,by dsimp only;rw [hj,V5];exact i1,by dsimp only;rw [c_];dsimp only [a_,g_];omega⟩ (by refine ⟨by simp [mkS,hye],by simp [mkS,hye],by simp only [mkS,b_,d_,O.refsLt,C.refsLt,C.refsLt1,o5];first | done | rfl | (simp;done),?_⟩;simp [mkS,Abs.get,C.refsLtT,C.refsLt,C.refsLt1])
  ·rw [if_neg h40] at i1
   by_cases h41:x=[41]
   ·rw [if_pos h41] at i1
    have wd:IntKind.i64.wrap (d - 1)=d - 1:=by simp (disch:=omega) only [l6]
    have e1:¬([41]:List UInt8)=[40]:=by decide
    have hnx':=hnx;by_cases hd:0<d - 1
    ·rw [if_pos hd] at i1
     refine rS_ Tryz.func14 ?_;simp only [go_sem,seval,hlt,l9,d9 hxx,wi,hd,h41,wd,e1];all_goals refine hnx fr (d - 1) q L _ ⟨by dsimp only;omega,by dsimp only;omega,by dsimp only;omega,by dsimp only;rw [hj];rw [<-K3 hxi hfi] at i1;exact i1,by dsimp only;omega⟩ A8
    ·rw [if_neg hd] at i1
     cases hdf:dfT ((T.take i).drop fr++[x]) with
     | none=>rw [hdf] at i1;cases i1
     | some y =>
      rw [hdf] at i1;dsimp only at i1;have hdef:=aa6 ((T.take i).drop fr++[x]) y (by rw [<-K3 hxi hfi];simp;omega) (fun t ht=>hm t (by rw [<-K3 hxi hfi] at ht;exact F_ (G_ ht))) hdf;rw [<-K3 hxi hfi,<-aE2] at hdef;have hye:=Rl.enc_eq y;refine rS_ Tryz.func14 ?_;simp only [go_sem,seval,hlt,l9,d9 hxx,wi,hd,hfr,hil1,hin,h41,wd,e1]
      repeat' (first
       | (refine ⟨ar3 T,?_⟩<;>(try simp only [go_sem,seval,hlt,l9,d9 hxx,wi,hd,hfr,hil1,hin,h41,wd,e1]))
       | ((first
        | (refine hdef.calls rfl ?_)
        | (refine ⟨sd,?_⟩))<;>(try simp only [go_sem,seval,hlt,l9,d9 hxx,wi,hd,hfr,hil1,hin,h41,wd,e1]))
       | fail)
      all_goals refine hnx (i+1) (d - 1) (q+1) (L++[y]) _ ⟨by dsimp only;omega,by dsimp only;omega,by dsimp only;omega,by dsimp only;rw [hj,V5];exact i1,by dsimp only;rw [c_];dsimp only [a_,g_];omega⟩ (by refine ⟨by simp [mkS,hye],by simp [mkS,hye],by simp only [mkS,b_,d_,O.refsLt,C.refsLt,C.refsLt1,o5];first | done | rfl | (simp;done),?_⟩;simp [mkS,Abs.get,C.refsLtT,C.refsLt,C.refsLt1])
   ·rw [if_neg h41] at i1
    have hnx':=hnx;by_cases hd:0<d
    ·rw [if_pos hd] at i1
     refine rS_ Tryz.func14 ?_;simp only [go_sem,seval,hlt,l9,d9 hxx,wi,hd,h40,h41];all_goals refine hnx fr (d) q L _ ⟨by dsimp only;omega,by dsimp only;omega,by dsimp only;omega,by dsimp only;rw [hj];rw [<-K3 hxi hfi] at i1;exact i1,by dsimp only;omega⟩ A8
    ·rw [if_neg hd] at i1
     cases hdf:dfT ((T.take i).drop fr++[x]) with
     | none=>rw [hdf] at i1;cases i1
     | some y =>
      rw [hdf] at i1;dsimp only at i1;have hdef:=aa6 ((T.take i).drop fr++[x]) y (by rw [<-K3 hxi hfi];simp;omega) (fun t ht=>hm t (by rw [<-K3 hxi hfi] at ht;exact F_ (G_ ht))) hdf;rw [<-K3 hxi hfi,<-aE2] at hdef;have hye:=Rl.enc_eq y;refine rS_ Tryz.func14 ?_;simp only [go_sem,seval,hlt,l9,d9 hxx,wi,hd,hfr,hil1,hin,h40,h41]
      repeat' (first
       | (refine ⟨ar3 T,?_⟩<;>(try simp only [go_sem,seval,hlt,l9,d9 hxx,wi,hd,hfr,hil1,hin,h40,h41]))
       | ((first
        | (refine hdef.calls rfl ?_)
        | (refine ⟨sd,?_⟩))<;>(try simp only [go_sem,seval,hlt,l9,d9 hxx,wi,hd,hfr,hil1,hin,h40,h41]))
       | fail)
      all_goals refine hnx (i+1) (d) (q+1) (L++[y]) _ ⟨by dsimp only;omega,by dsimp only;omega,by dsimp only;omega,by dsimp only;rw [hj,V5];exact i1,by dsimp only;rw [c_];dsimp only [a_,g_];omega⟩ (by refine ⟨by simp [mkS,hye],by simp [mkS,hye],by simp only [mkS,b_,d_,O.refsLt,C.refsLt,C.refsLt1,o5];first | done | rfl | (simp;done),?_⟩;simp [mkS,Abs.get,C.refsLtT,C.refsLt,C.refsLt1])
 ·obtain ⟨fr,d,q,L⟩:=u
  obtain ⟨i2,i3,i4,i1,i5⟩:=hinv;dsimp only at i1 |-;simp only [ppT] at i1;cases i1;refine rS_ Tryz.func14 ?_;simp only [go_sem,seval,l9]
  repeat' (first
   | ((refine hpo.calls rfl ?_)<;>(try simp only [go_sem,seval,l9]))
   | fail)
set_option maxHeartbeats 4000000
def cuD (B:List UInt8) (i h:Int):List D:=[.sl (bytesD B),.int .i64 i,.int .i64 h]
def cuO (B:List UInt8) (i h:Int):O:=.box [.d (.sl (bytesD B)),.d (.int .i64 i),.d (.int .i64 h)]
theorem A9 (B:List UInt8) (i h:Int):cuO B i h=.box [.d (.sl (bytesD B)),.d (.int .i64 i),.d (.int .i64 h)]:=rfl
@[go_sem ↓ 10000] theorem ca4 (B:List UInt8) (i h:Int) (m:Nat):(cuO B i h).refsLt m=true:=rfl
theorem aQ5 (B:List UInt8) (i:Nat):(bytesD B)[i]? = (B[i]?).map fun b=>[.int .u8 (b.toNat:Int)]:=by simp [bytesD]
def cuR (B:List UInt8) (Q:Int->Prop) (c:C) (H:List O):Prop:=∃x i' h',c=.d (.int .i64 x)/\H=[cuO B i' h']/\Q x/\0<=i'/\i'<=B.length
theorem aO1 (B:List UInt8) (i h:Int) (hB:B.length<=1048576) (h0:0<=i) (h1:i<=B.length):l8 Tryz.prog 39 [.ptr 0 0] [cuO B i h] (cuR B fun x=>0<=x/\x<=255):=by
 rw [A9];by_cases hi:i<B.length
 ·obtain ⟨b,hb⟩:∃b,B[i.toNat]? = some b:=⟨_,h_ (by omega)⟩
  have hbd:(bytesD B)[i.toNat]? = some [.int .u8 (b.toNat:Int)]:=by rw [aQ5,hb];rfl
  have hb2:b.toNat<256:=b.toNat_lt;have hbw:IntKind.i64.wrap (b.toNat:Int)=(b.toNat:Int):=l6 (by omega) (by omega);refine aE_ Tryz.func39 ?_;refine rS_ Tryz.func39 ?_;simp only [go_sem,seval,hi,J4,d9 hbd,hbw]
  repeat' (first
   | (exact ⟨_,_,_,rfl,rfl,bH0 _,by omega,by omega⟩)
   | (simp (disch:=omega) only [l6])
   | ((refine ⟨sd,?_⟩)<;>(try simp only [go_sem,seval,hi,J4,d9 hbd,hbw]))
   | fail)
 ·refine aE_ Tryz.func39 ?_
  refine rS_ Tryz.func39 ?_;simp only [go_sem,seval,hi,J4]
  repeat' (first
   | (exact ⟨_,_,_,rfl,rfl,bH0 _,by omega,by omega⟩)
   | fail)
theorem y9 (B:List UInt8) (i h:Int) (hB:B.length<=1048576) (h0:0<=i) (h1:i<=B.length) (n:Int):l8 Tryz.prog 24 [.ptr 0 0,.d (.int .i64 n)] [cuO B i h] (cuR B fun x=>0<=x/\(x<n\/x=0)):=by
 have hb:=aO1 B i h hB h0 h1;by_cases hn:n<=0
 ·refine aE_ Tryz.func24 ?_
  refine rS_ Tryz.func24 ?_;simp only [go_sem,seval,hn]
  repeat' (first
   | (exact ⟨_,_,_,rfl,rfl,⟨by omega,by omega⟩,h0,h1⟩)
   | fail)
 ·have hn0:n≠0:=by omega
  refine aE_ Tryz.func24 ?_;refine rS_ Tryz.func24 ?_;simp only [go_sem,seval,hn,hn0]
  repeat' (first
   | (exact ⟨_,_,_,rfl,rfl,⟨(aQ7 b1 (by omega)).1,.inl (aQ7 b1 (by omega)).2⟩,b3,b4⟩)
   | ((refine (l8.emb hb [0] rfl rfl rfl (by decide) rfl ?_)<;>(rintro c H' ⟨x,i2,h2,rfl,rfl,⟨b1,b2⟩,b3,b4⟩ _;refine ⟨rfl,rfl,?_⟩))<;>(try simp only [go_sem,seval,hn,hn0]))
   | fail)
theorem bB2 (B:List UInt8) (hB:B.length<=1048576):l8 Tryz.prog 38 [.d (.sl (bytesD B))] [.hole] (fun c H'=>c=.own 0 1/\∃h,H'=[.pb (cuD B 0 h)]):=by
 refine aE_ Tryz.func38 ?_;refine rS_ Tryz.func38 ?_;simp only [go_sem,seval,J4]
 repeat' (first
  | (simp (disch:=omega) only [l6])
  | fail)
 refine AW.lp [0] (fun p:Nat×Int=>[(4,.d (.int .i64 (p.1:Int))),(3,.d (.int .i64 p.2))]) (fun H _=>H) (fun p=>p.1<=B.length) (fun p=>B.length - p.1) (0,90411+(B.length:Int)) (q_ _) H6 ?_;rintro ⟨j,h⟩ hj hnext;dsimp only at hj hnext |-;by_cases hc:j<B.length/\j<4000
 ·obtain ⟨b,hb⟩:∃b,B[j]? = some b:=⟨_,h_ hc.1⟩
  have hbd:(bytesD B)[j]? = some [.int .u8 (b.toNat:Int)]:=by rw [aQ5,hb];rfl
  have hb2:b.toNat<256:=b.toNat_lt;have hbw:IntKind.i64.wrap (b.toNat:Int)=(b.toNat:Int):=l6 (by omega) (by omega);have n1:(j:Int)<(B.length:Int):=by omega
  have n2:(j:Int)<4000:=by omega
  refine rS_ Tryz.func38 ?_;simp only [go_sem,seval,J4,n1,n2,d9 hbd,hbw]
  repeat' (first
   | (simp (disch:=omega) only [l6])
   | fail)
  refine hnext (j+1,andI .i64 (IntKind.i64.wrap (IntKind.i64.wrap (IntKind.i64.wrap (h * 131)+(b.toNat:Int))+7)) 1073741823) _ (by dsimp only;omega) (by dsimp only;omega) H6
 ·have n3:¬((j:Int)<(B.length:Int))\/((j:Int)<(B.length:Int)/\¬(j:Int)<4000):=by omega
  rcases n3 with n3 | ⟨n3,n4⟩
  ·refine l7 Tryz.func38 mixed 7 _ _ (by kernel_rfl) ?_
   simp only [go_sem,seval,run.eq_1,J4,n3];refine AW.placeBox 2 1 0 (cs:=cuD B 0 h) rfl rfl rfl (by decide) ?_;refine rS_ Tryz.func38 ?_;simp only [go_sem,seval];exact ⟨_,rfl⟩
  ·refine l7 Tryz.func38 mixed 7 _ _ (by kernel_rfl) ?_
   simp only [go_sem,seval,run.eq_1,J4,n3,n4];refine AW.placeBox 2 1 0 (cs:=cuD B 0 h) rfl rfl rfl (by decide) ?_;refine rS_ Tryz.func38 ?_;simp only [go_sem,seval];exact ⟨_,rfl⟩
theorem aG2 (B:List UInt8) (hB:B.length<=1048576) (n:Nat) (hn:n<=100000):l8 Tryz.prog 13 [.d (.sl (bytesD B)),.d (.int .i64 n)] [.hole] (fun c H'=>c=.own 0 1/\∃i h,H'=[.pb (cuD B i h)]/\0<=i/\i<=B.length):=by
 have hw:=bB2 B hB;refine aE_ Tryz.func13 ?_;refine AW.hole ?_;refine l7 Tryz.func13 mixed 4 _ _ (by kernel_rfl) ?_;simp only [go_sem,seval,run.eq_1]
 repeat' (first
  | ((refine (l8.emb hw [1] rfl rfl rfl (by decide) rfl ?_)<;>(rintro c H' ⟨rfl,h,rfl⟩ _;refine ⟨rfl,rfl,?_⟩))<;>(try simp only [go_sem,seval,run.eq_1]))
  | fail)
 refine AW.unbox 5 1 (cs:=cuD B 0 h) rfl rfl ?_;refine rS_ Tryz.func13 ?_;simp only [go_sem,seval];refine AW.lp [1,5] (fun p:Nat×Int×Int=>[(6,.d (.int .i64 (p.1:Int)))]) (fun _ p=>[.hole,.dead,cuO B p.2.1 p.2.2]) (fun p=>p.1<=n/\0<=p.2.1/\p.2.1<=B.length) (fun p=>n - p.1) (0,0,h) ⟨q_ _,by simp,by simp⟩ (by refine ⟨by simp [mkS,A9,cuD],by simp [mkS,A9,cuD],by simp only [mkS,b_,d_,O.refsLt,C.refsLt,C.refsLt1,o5];first | done | rfl | (simp;done),?_⟩;simp [mkS,Abs.get,C.refsLtT,C.refsLt,C.refsLt1]) ?_;rintro ⟨j,i,h⟩ ⟨hj,hi0,hi1⟩ hnext;dsimp only at hj hi0 hi1 hnext |-;by_cases hc:j<n
 ·have n1:(j:Int)<(n:Int):=by omega
  have hb:=aO1 B i h hB hi0 hi1;refine rS_ Tryz.func13 ?_;simp only [go_sem,seval,n1]
  repeat' (first
   | (simp (disch:=omega) only [l6])
   | ((refine (l8.emb hb [2] rfl rfl rfl (by decide) rfl ?_)<;>(rintro c H' ⟨x,i2,h2,rfl,rfl,⟨b1,b2⟩,b3,b4⟩ _;refine ⟨rfl,rfl,?_⟩))<;>(try simp only [go_sem,seval,n1]))
   | fail)
  refine hnext (j+1,i2,h2) _ ⟨by dsimp only;omega,b3,b4⟩ (by dsimp only;omega) (by refine ⟨by simp [mkS,A9],by simp [mkS,A9],by simp only [mkS,b_,d_,O.refsLt,C.refsLt,C.refsLt1,o5];first | done | rfl | (simp;done),?_⟩;simp [mkS,Abs.get,C.refsLtT,C.refsLt,C.refsLt1])
 ·have n1:¬(j:Int)<(n:Int):=by omega
  refine l7 Tryz.func13 mixed 7 _ _ (by kernel_rfl) ?_;simp only [go_sem,seval,run.eq_1,n1];refine AW.placeBox 4 2 0 (cs:=cuD B i h) rfl rfl rfl (by decide) ?_;refine rS_ Tryz.func13 ?_;simp only [go_sem,seval];exact ⟨_,_,rfl,hi0,hi1⟩
def cuV (B:List UInt8) (Q:V->Prop) (c:C) (H:List O):Prop:=∃v i' h',c=.d (.agg (V.enc v))/\H=[cuO B i' h']/\Q v/\0<=i'/\i'<=B.length
theorem bh6 (n:Int):Gives Tryz.prog 128 [.int .i64 n] (.d (.agg (V.num n).enc)):=by
 rw [V.enc_num];refine aE_ Tryz.func128 ?_;refine rS_ Tryz.func128 ?_;simp only [go_sem,seval]
theorem aB5 (n:Int):Gives Tryz.prog 86 [.int .i64 n] (.d (.agg (V.var n).enc)):=by
 rw [V.enc_var];refine aE_ Tryz.func86 ?_;refine rS_ Tryz.func86 ?_;simp only [go_sem,seval]
theorem aB6 (s:List UInt8):Gives Tryz.prog 126 [.str s] (.d (.agg (V.sym s).enc)):=by
 rw [V.enc_sym];refine aE_ Tryz.func126 ?_;refine rS_ Tryz.func126 ?_;simp only [go_sem,seval]
theorem aU3 (a b:V):Gives Tryz.prog 85 [.agg a.enc,.agg b.enc] (.d (.agg (V.pair a b).enc)):=by
 rw [V.enc_pair];refine aE_ Tryz.func85 ?_;refine rS_ Tryz.func85 ?_;simp only [go_sem,seval]
theorem aO0 (B:List UInt8) (i h:Int) (hB:B.length<=1048576) (h0:0<=i) (h1:i<=B.length) (vs:Int):l8 Tryz.prog 87 [.ptr 0 0] [cuO B i h] (cuV B (drawn 1 vs)):=by
 have hb:=y9 B i h hB h0 h1 7;refine aE_ Tryz.func87 ?_;refine rS_ Tryz.func87 ?_;simp only [go_sem,seval]
 repeat' (first
  | (simp (disch:=omega) only [l6])
  | ((first
   | (refine (l8.emb hb [0] rfl rfl rfl (by decide) rfl ?_)<;>(rintro c H' ⟨x,i2,h2,rfl,rfl,⟨b1,b2⟩,b3,b4⟩ _;rcases (show x=0\/x=1\/x=2\/x=3\/x=4\/x=5\/x=6 by omega) with rfl | rfl | rfl | rfl | rfl | rfl | rfl<;>refine ⟨rfl,rfl,?_⟩))
   | (refine (aB6 _).calls rfl ?_)
   | (refine (bh6 _).calls rfl ?_)
   | (refine ⟨sd,?_⟩))<;>(try simp only [go_sem,seval]))
  | fail)
 all_goals first
  | exact ⟨.num 0,_,_,rfl,rfl,aP9 (by decide) (by decide) (by decide),b3,b4⟩
  | exact ⟨.num 1,_,_,rfl,rfl,aP9 (by decide) (by decide) (by decide),b3,b4⟩
  | exact ⟨.sym [97],_,_,rfl,rfl,⟨by decide,by decide,rfl⟩,b3,b4⟩
  | exact ⟨.sym [98],_,_,rfl,rfl,⟨by decide,by decide,rfl⟩,b3,b4⟩
  | exact ⟨.sym [99],_,_,rfl,rfl,⟨by decide,by decide,rfl⟩,b3,b4⟩
  | exact ⟨.nil,_,_,rfl,rfl,bu0 (by decide),b3,b4⟩
theorem aa7 (B:List UInt8) (hB:B.length<=1048576) (vs:Int) (hvs:vs<=100):∀(s:Nat) (i h:Int),s<=1000->0<=i->i<=B.length->l8 Tryz.prog 47 [.ptr 0 0,.d (.int .i64 s),.d (.int .i64 vs)] [cuO B i h] (cuV B (drawn (ay7 s) vs)):=by
 intro s;induction s using Nat.strongRecOn with
 | ind s ih =>
  intro i h hs h0 h1;have hb:=y9 B i h hB h0 h1 8;have hat:=fun i h a b=>aO0 B i h hB a b vs;have hbv:=fun i h a b=>y9 B i h hB a b vs;have hqs:IntKind.i64.wrap ((s:Int).tdiv 2)=((s / 2:Nat):Int):=by rw [z_ (by omega),l6 (by omega) (by omega)];omega
  refine aE_ Tryz.func47 ?_;refine l7 Tryz.func47 mixed 4 _ _ (by kernel_rfl) ?_;simp only [go_sem,seval,run.eq_1]
  repeat' (first
   | ((refine (l8.emb hb [0] rfl rfl rfl (by decide) rfl ?_)<;>(rintro c H' ⟨x,i2,h2,rfl,rfl,⟨b1,b2⟩,b3,b4⟩ _;refine ⟨rfl,rfl,?_⟩))<;>(try simp only [go_sem,seval,run.eq_1]))
   | fail)
  by_cases g:2<s/\3<=x
  ·obtain ⟨g1,g2⟩:=g
   have n1:(2:Int)<(s:Int):=by omega
   have hr:=fun i h a b=>ih (s / 2) (by omega) i h (by omega) a b;refine l7 Tryz.func47 mixed 7 _ _ (by kernel_rfl) ?_;simp only [go_sem,seval,run.eq_1,n1,g2,hqs]
   repeat' (first
    | ((refine (l8.emb (hr i2 h2 b3 b4) [0] rfl rfl rfl (by decide) rfl ?_)<;>(rintro c H' ⟨v,i3,h3,rfl,rfl,k1,k2,k3⟩ _;refine ⟨rfl,rfl,?_⟩))<;>(try simp only [go_sem,seval,n1,g2,hqs,run.eq_1]))
    | fail)
   refine AW.drawA mixed #[true,true,true,true,true,true,true,false] [(2,.box (v.enc.map .d))] [] [0,1,2,3,4,5,6] [7] none (by kernel_rfl) trivial (by simp [x9]) ?_;simp only [go_sem,seval,hqs]
   repeat' (first
    | ((first
     | (refine (l8.emb (hr i3 h3 k2 k3) [0] rfl rfl rfl (by decide) rfl ?_)<;>(rintro c H' ⟨u,i4,h4,rfl,rfl,m1,m2,m3⟩ _;refine ⟨rfl,rfl,?_⟩))
     | (refine (aU3 _ _).calls rfl ?_))<;>(try simp only [go_sem,seval,hqs]))
    | fail)
   refine rS_ Tryz.func47 ?_;simp only [go_sem,seval]
   repeat' (first
    | (exact ⟨_,_,_,rfl,rfl,bj9 k1 m1 (bk0 g1),m2,m3⟩)
    | fail)
  ·have hbv:=y9 B i2 h2 hB b3 b4 vs
   have hat:=aO0 B i2 h2 hB b3 b4 vs;have hdp:=bu1 s;rcases (show ¬(2:Int)<(s:Int)\/((2:Int)<(s:Int)/\¬3<=x) by omega) with n1 | ⟨n1,n2⟩
   ·refine rS_ Tryz.func47 ?_
    simp only [go_sem,seval,n1]
    repeat' (first
     | (exact ⟨_,_,_,rfl,rfl,ad2 k1 hdp,k2,k3⟩)
     | (exact ⟨_,_,_,rfl,rfl,aP8 c1 (by omega) hvs hdp,c3,c4⟩)
     | ((refine C9 (fun hq=>?_) (fun hq=>?_))<;>(try simp only [go_sem,seval,hq]))
     | ((first
      | (refine (l8.emb hbv [0] rfl rfl rfl (by decide) rfl ?_)<;>(rintro c H' ⟨y,i3,h3,rfl,rfl,⟨c1,c2⟩,c3,c4⟩ _;refine ⟨rfl,rfl,?_⟩))
      | (refine (l8.emb hat [0] rfl rfl rfl (by decide) rfl ?_)<;>(rintro c H' ⟨v,i3,h3,rfl,rfl,k1,k2,k3⟩ _;refine ⟨rfl,rfl,?_⟩))
      | (refine (aB5 _).calls rfl ?_))<;>(try simp only [go_sem,seval]))
     | fail)
   ·refine rS_ Tryz.func47 ?_
    simp only [go_sem,seval,n1,n2]
    repeat' (first
     | (exact ⟨_,_,_,rfl,rfl,ad2 k1 hdp,k2,k3⟩)
     | (exact ⟨_,_,_,rfl,rfl,aP8 c1 (by omega) hvs hdp,c3,c4⟩)
     | ((refine C9 (fun hq=>?_) (fun hq=>?_))<;>(try simp only [go_sem,seval,hq]))
     | ((first
      | (refine (l8.emb hbv [0] rfl rfl rfl (by decide) rfl ?_)<;>(rintro c H' ⟨y,i3,h3,rfl,rfl,⟨c1,c2⟩,c3,c4⟩ _;refine ⟨rfl,rfl,?_⟩))
      | (refine (l8.emb hat [0] rfl rfl rfl (by decide) rfl ?_)<;>(rintro c H' ⟨v,i3,h3,rfl,rfl,k1,k2,k3⟩ _;refine ⟨rfl,rfl,?_⟩))
      | (refine (aB5 _).calls rfl ?_))<;>(try simp only [go_sem,seval]))
     | fail)
end Go.Proofs.YtmfkcdelddmfpaaGreat
namespace Go.Abs
def bq1:Nat->List UInt8
 | 0=>[108,105,115,116,115]
 | 1=>[103,114,97,112,104]
 | 2=>[115,101,116,115]
 | _=>[103,97,109,101,115]
end Go.Abs
namespace Go.Proofs.YtmfkcdelddmfpaaGreat
open Go.Abs
set_option maxRecDepth 100000
set_option maxHeartbeats 8000000
set_option linter.unusedSimpArgs false
set_option linter.unusedVariables false
theorem ax7:Gives Tryz.prog 15 [.str [108,105,115,116,115]] (.d (.str bf8)):=by
 have hmx:maxLen=9223372036854775807:=rfl;refine aE_ Tryz.func15 ?_;refine rS_ Tryz.func15 ?_;simp only [go_sem,seval]
 repeat' (first
  | (simp (disch:=omega) only [l6])
  | ((first
   | (refine AW.loop ?_<;>(refine rS_ Tryz.func15 ?_))
   | (refine AW.round ?_<;>(refine rS_ Tryz.func15 ?_))
   | (refine ⟨sd,?_⟩))<;>(try simp only [go_sem,seval,hmx]))
  | fail)
 all_goals kernel_rfl
theorem ax6:Gives Tryz.prog 15 [.str [103,114,97,112,104]] (.d (.str bf7)):=by
 have hmx:maxLen=9223372036854775807:=rfl;have d0:¬([103,114,97,112,104]:List UInt8)=[108,105,115,116,115]:=by decide
 refine aE_ Tryz.func15 ?_;refine rS_ Tryz.func15 ?_;simp only [go_sem,seval,d0]
 repeat' (first
  | (simp (disch:=omega) only [l6])
  | ((first
   | (refine AW.loop ?_<;>(refine rS_ Tryz.func15 ?_))
   | (refine AW.round ?_<;>(refine rS_ Tryz.func15 ?_))
   | (refine ⟨sd,?_⟩))<;>(try simp only [go_sem,seval,d0]))
  | fail)
 all_goals kernel_rfl
theorem ax5:Gives Tryz.prog 15 [.str [115,101,116,115]] (.d (.str bf6)):=by
 have hmx:maxLen=9223372036854775807:=rfl;have d0:¬([115,101,116,115]:List UInt8)=[108,105,115,116,115]:=by decide
 have d1:¬([115,101,116,115]:List UInt8)=[103,114,97,112,104]:=by decide
 refine aE_ Tryz.func15 ?_;refine rS_ Tryz.func15 ?_;simp only [go_sem,seval,d0,d1]
 repeat' (first
  | (simp (disch:=omega) only [l6])
  | ((first
   | (refine AW.loop ?_<;>(refine rS_ Tryz.func15 ?_))
   | (refine AW.round ?_<;>(refine rS_ Tryz.func15 ?_))
   | (refine ⟨sd,?_⟩))<;>(try simp only [go_sem,seval,d0,d1]))
  | fail)
 all_goals kernel_rfl
theorem ax4:Gives Tryz.prog 15 [.str [103,97,109,101,115]] (.d (.str bf5)):=by
 have hmx:maxLen=9223372036854775807:=rfl;have d0:¬([103,97,109,101,115]:List UInt8)=[108,105,115,116,115]:=by decide
 have d1:¬([103,97,109,101,115]:List UInt8)=[103,114,97,112,104]:=by decide
 have d2:¬([103,97,109,101,115]:List UInt8)=[115,101,116,115]:=by decide
 refine aE_ Tryz.func15 ?_;refine rS_ Tryz.func15 ?_;simp only [go_sem,seval,d0,d1,d2]
 repeat' (first
  | (simp (disch:=omega) only [l6])
  | ((first
   | (refine AW.loop ?_<;>(refine rS_ Tryz.func15 ?_))
   | (refine AW.round ?_<;>(refine rS_ Tryz.func15 ?_))
   | (refine ⟨sd,?_⟩))<;>(try simp only [go_sem,seval,d0,d1,d2]))
  | fail)
 all_goals kernel_rfl
theorem az1 (k:Nat):Gives Tryz.prog 15 [.str (bq1 k)] (.d (.str (bw5 k))):=match k with
 | 0=>ax7
 | 1=>ax6
 | 2=>ax5
 | _+3=>ax4
theorem ac6 (k:Int) (ts:List Tm) (gs:List Gl):Gives Tryz.prog 82 [.int .i64 k,.sl (ts.map Tm.enc),.sl (gs.map Gl.enc)] (.d (.agg (Gl.mk k [] ts gs).enc)):=by
 rw [Gl.enc_eq];refine aE_ Tryz.func82 ?_;refine rS_ Tryz.func82 ?_;simp only [go_sem,seval];all_goals rfl
def cuG (B:List UInt8) (Q:Gl->Prop) (c:C) (H:List O):Prop:=∃g i' h',c=.d (.agg (Gl.enc g))/\H=[cuO B i' h']/\Q g/\0<=i'/\i'<=B.length
theorem af4 (k:Int) (u v:V):Gives Tryz.prog 82 [.int .i64 k,.sl [u.enc,v.enc],.sl []] (.d (.agg (Gl.mk k [] ([u,v].map V.tm) []).enc)):=by
 have h:=ac6 k ([u,v].map V.tm) [];rw [D6] at h;exact h
theorem au5 (k:Int) (u:V):Gives Tryz.prog 82 [.int .i64 k,.sl [u.enc],.sl []] (.d (.agg (Gl.mk k [] ([u].map V.tm) []).enc)):=by
 have h:=ac6 k ([u].map V.tm) [];rw [D6] at h;exact h
theorem au6 (k:Int):Gives Tryz.prog 82 [.int .i64 k,.sl [],.sl []] (.d (.agg (Gl.mk k [] [] []).enc)):=ac6 k [] []
def bS2 (n:Int) (g:Gl):Prop:=∀(S:List (List UInt8×Int)) (mode:Int),g.drA S n mode
theorem cp4 {n k:Int} {u v:V} (hu:drawn 7 n u) (hv:drawn 7 n v) (hk:k=2\/k=3):bS2 n ⟨k,[],[u,v].map V.tm,[]⟩:=fun S mode=>by
 refine Gl.drA_of ?_ (fun x hx=>?_) (by simp) (by simp) (by omega) (by omega) (by omega) (fun h=>by omega)
 ·rcases hk with rfl | rfl<;>rfl
 ·simp at hx;rcases hx with rfl | rfl<;>assumption
theorem cs9 {n k:Int} {u:V} (hu:drawn 7 n u) (hk:k=4\/k=5):bS2 n ⟨k,[],[u].map V.tm,[]⟩:=fun S mode=>by
 refine Gl.drA_of ?_ (fun x hx=>?_) (by simp) (by simp) (by omega) (by omega) (by omega) (fun h=>by omega)
 ·rcases hk with rfl | rfl<;>rfl
 ·simp at hx;subst hx;exact hu
theorem cs8 {n:Int} {v:V} (hv:drawn 7 n v):bS2 n ⟨6,[],[V.sym [97],v].map V.tm,[]⟩:=fun S mode=>by
 refine Gl.drA_of ?_ (fun x hx=>?_) (by simp) (by simp) (by omega) (by omega) (by omega) (fun h=>by omega)
 ·rfl
 ·simp at hx;rcases hx with rfl | rfl
  ·exact ⟨by decide,by decide,rfl⟩
  ·exact hv
theorem ct0 {n k:Int} (hk:k=0\/k=1):bS2 n ⟨k,[],[],[]⟩:=fun S mode=>by
 refine Gl.drA_of (vs:=[]) ?_ (fun x hx=>by cases hx) (by simp) (by simp) (by omega) (by omega) (by omega) (fun h=>by omega);rcases hk with rfl | rfl<;>rfl
theorem aU1 (B:List UInt8) (hB:B.length<=1048576) (n:Int) (hn:n<=100) (pure:Bool) (i h:Int) (h0:0<=i) (h1:i<=B.length):l8 Tryz.prog 81 [.ptr 0 0,.d (.int .i64 n),.d (.bool pure)] [cuO B i h] (cuG B (bS2 n)):=by
 have hda:=aa7 B hB n hn 1 i h (by omega) h0 h1;refine aE_ Tryz.func81 ?_;refine l7 Tryz.func81 mixed 4 _ _ (by kernel_rfl) ?_;simp only [go_sem,seval,run.eq_1]
 repeat' (first
  | ((refine (l8.emb hda [0] rfl rfl rfl (by decide) rfl ?_)<;>(rintro c H' ⟨u,i2,h2,rfl,rfl,du,b3,b4⟩ _;refine ⟨rfl,rfl,?_⟩))<;>(try simp only [go_sem,seval,run.eq_1]))
  | fail)
 have hdb:=aa7 B hB n hn 4 i2 h2 (by omega) b3 b4;refine l7 Tryz.func81 mixed 2 _ _ (by kernel_rfl) ?_;simp only [go_sem,seval,run.eq_1]
 repeat' (first
  | ((refine (l8.emb hdb [0] rfl rfl rfl (by decide) rfl ?_)<;>(rintro c H' ⟨v,i3,h3,rfl,rfl,dv,c3,c4⟩ _;refine ⟨rfl,rfl,?_⟩))<;>(try simp only [go_sem,seval,run.eq_1]))
  | fail)
 have hbl:=y9 B i3 h3 hB c3 c4 16;refine l7 Tryz.func81 mixed 2 _ _ (by kernel_rfl) ?_;simp only [go_sem,seval,run.eq_1]
 repeat' (first
  | ((refine (l8.emb hbl [0] rfl rfl rfl (by decide) rfl ?_)<;>(rintro c H' ⟨x,i4,h4,rfl,rfl,⟨x0,x1⟩,d3,d4⟩ _;refine ⟨rfl,rfl,?_⟩))<;>(try simp only [go_sem,seval,run.eq_1]))
  | fail)
 have du7:=ad2 du (show ay7 1<=7 by decide);have dv7:=ad2 dv (show ay7 4<=7 by decide);clear du dv;have hb8:=y9 B i4 h4 hB d3 d4 8;have hue:=V.enc_eq u;have hve:=V.enc_eq v;have k2:=af4 2 u v;have k3:=af4 3 u v;have k4:=au5 4 u;have k5:=au5 5 u;have k6:=af4 6 (V.sym [97]) v;have hsy:=aB6 [97];cases pure with
 | true =>
  refine rS_ Tryz.func81 ?_;simp only [go_sem,seval]
  repeat' (first
   | (exact ⟨_,_,_,rfl,rfl,cp4 du7 dv7 (by simp),d3,d4⟩)
   | ((refine k2.calls rfl ?_)<;>(try simp only [go_sem,seval,hue]))
   | fail)
  all_goals first | (exfalso;omega) | skip
 | false =>
  by_cases h11:x=11
  ·subst h11
   refine l7 Tryz.func81 mixed 19 _ _ (by kernel_rfl) ?_;simp only [go_sem,seval,run.eq_1];refine AW.drawA mixed #[true,true,true,true,true] [(3,.box (v.enc.map .d))] [] [1,0,2,3,4] [] none (by kernel_rfl) trivial (by simp [x9]) ?_;simp only [go_sem,seval]
   repeat' (first
    | ((first
     | (refine hsy.calls rfl ?_)
     | (refine l8.nilArg (pre:=[_,_]) (post:=[]) (k6.calls rfl ?_)))<;>(try simp only [go_sem,seval]))
    | fail)
   refine rS_ Tryz.func81 ?_;simp only [go_sem,seval]
   repeat' (first
    | (exact ⟨_,_,_,rfl,rfl,cs8 dv7,d3,d4⟩)
    | fail)
  ·refine rS_ Tryz.func81 ?_
   simp only [go_sem,seval,h11]
   repeat' (first
    | (exact ⟨_,_,_,rfl,rfl,cp4 du7 dv7 (by simp),d3,d4⟩)
    | (exact ⟨_,_,_,rfl,rfl,cs9 du7 (by simp),d3,d4⟩)
    | (exact ⟨_,_,_,rfl,rfl,ct0 (by simp),e3,e4⟩)
    | ((refine C9 (fun hq=>?_) (fun hq=>?_))<;>(try simp only [go_sem,seval,h11,hq]))
    | (simp (disch:=omega) only [l6])
    | ((first
     | (refine k2.calls rfl ?_)
     | (refine k3.calls rfl ?_)
     | (refine k4.calls rfl ?_)
     | (refine k5.calls rfl ?_)
     | (refine (l8.emb hb8 [0] rfl rfl rfl (by decide) rfl ?_)<;>(rintro c H' ⟨y,i5,h5,rfl,rfl,⟨y0,y1⟩,e3,e4⟩ _;rcases (show y=0\/y=1\/y=2\/y=3\/y=4\/y=5\/y=6\/y=7 by omega) with rfl | rfl | rfl | rfl | rfl | rfl | rfl | rfl<;>refine ⟨rfl,rfl,?_⟩))
     | (refine (au6 0).calls rfl ?_)
     | (refine (au6 1).calls rfl ?_))<;>(try simp only [go_sem,seval,h11]))
    | fail)
   all_goals first | (exfalso;omega) | skip
theorem av0 (B:List UInt8) (hB:B.length<=1048576) (n:Int) (i h:Int) (h0:0<=i) (h1:i<=B.length):l8 Tryz.prog 17 [.ptr 0 0,.d (.int .i64 n)] [cuO B i h] (fun c H'=>∃b i' h',c=.d (.bool b)/\H'=[cuO B i' h']/\0<=i'/\i'<=B.length):=by
 have hb:=y9 B i h hB h0 h1 n;refine aE_ Tryz.func17 ?_;refine rS_ Tryz.func17 ?_;simp only [go_sem,seval]
 repeat' (first
  | (exact ⟨_,_,_,rfl,rfl,b3,b4⟩)
  | ((refine (l8.emb hb [0] rfl rfl rfl (by decide) rfl ?_)<;>(rintro c H' ⟨x,i2,h2,rfl,rfl,⟨b1,b2⟩,b3,b4⟩ _;refine ⟨rfl,rfl,?_⟩))<;>(try simp only [go_sem,seval]))
  | fail)
def sgL (rels:List Rl):List (List UInt8×Int):=rels.map fun r=>(r.name,r.arity)
theorem au4 (B:List UInt8) (hB:B.length<=1048576) (rels:List Rl) (hr1:1<=rels.length) (hr3:rels.length<=3) (har:∀r,r∈rels->P5 r.name=true/\0<=r.arity/\r.arity<=4) (n:Int) (hn:n<=100) (calls:Nat) (hc:calls<=2) (mode:Int) (i h:Int) (h0:0<=i) (h1:i<=B.length) (q e:Nat) :
  l8 Tryz.prog 45 [.ptr 0 0,.own 1 q,.d (.int .i64 n),.d (.int .i64 (calls:Int)),.d (.int .i64 mode)] [cuO B i h,.buf q 7 e (rels.map Rl.enc)] (fun c H'=>∃g i' h',c=.d (.agg (Gl.enc g))/\H'=[cuO B i' h',.buf q 7 e (rels.map Rl.enc)]/\g.drC (sgL rels) n mode/\0<=i'/\i'<=B.length):=by
 have hmx:maxLen=9223372036854775807:=rfl;have hbl:=y9 B i h hB h0 h1 2;refine aE_ Tryz.func45 ?_;refine l7 Tryz.func45 mixed 4 _ _ (by kernel_rfl) ?_;simp only [go_sem,seval,run.eq_1];refine AW.adoptGB 3 3 4 79 (by decide) rfl rfl ?_;refine l7 Tryz.func45 mixed 3 _ _ (by kernel_rfl) ?_;simp only [go_sem,seval,run.eq_1]
 repeat' (first
  | (simp (disch:=omega) only [l6])
  | ((refine (l8.emb hbl [0] rfl rfl rfl (by decide) rfl ?_)<;>(rintro c H' ⟨x,i2,h2,rfl,rfl,⟨x0,x1⟩,b3,b4⟩ _;refine ⟨rfl,rfl,?_⟩))<;>(try simp only [go_sem,seval,run.eq_1]))
  | fail)
 obtain ⟨k0,hk0,hk2⟩:∃k0:Nat,(1:Int)+x=(k0:Int)/\k0<=2:=⟨(1+x).toNat,by omega,by omega⟩;have wk:IntKind.i64.wrap (1+x)=(k0:Int):=by rw [l6 (by omega) (by omega)];exact hk0
 try rw [wk]
 try rw [hk0]
 refine rS_ Tryz.func45 ?_;simp only [go_sem,seval];refine AW.lp [0,1,2,3,4,10,11] (fun u:Nat×Nat×List Gl×Int×Int=>[(12,.d (.int .i64 (u.1:Int)))]) (fun _ u=>[cuO B u.2.2.2.1 u.2.2.2.2,.buf q 7 e (rels.map Rl.enc),.box [.d (.int .i64 0),.d (.str []),.nil0,.nil0],.box [.d (.int .i64 7),.d (.str []),.nil0,.own 4 u.2.1],.grow u.2.1 4 79 (u.2.2.1.map Gl.enc)]) (fun u=>u.1+u.2.2.1.length<=2/\(∀g,g∈u.2.2.1->g.drA (sgL rels) n mode)/\0<=u.2.2.2.1/\u.2.2.2.1<=B.length) (fun u=>u.1) (k0,0,[],i2,h2) ⟨by simpa using hk2,(fun g hg=>by cases hg),b3,b4⟩ (by refine ⟨by simp [mkS,A9],by simp [mkS,A9],by simp only [mkS,b_,d_,O.refsLt,C.refsLt,C.refsLt1,o5];first | done | rfl | (simp;done),?_⟩;simp [mkS,Abs.get,C.refsLtT,C.refsLt,C.refsLt1]) ?_;rintro ⟨k,q1,gs,i3,h3⟩ ⟨j1,j2,j3,j4⟩ hnext;dsimp only at j1 j2 j3 j4 hnext |-;have hnx:=fun a b c d e s'=>hnext (a,b,c,d,e) s';clear hnext;by_cases hk:k=0
 ·subst hk
  clear hnx;refine rS_ Tryz.func45 ?_;simp only [go_sem,seval];refine AW.lp [0,1,2,4,10,11] (fun u:Nat×Nat×List Gl×Int×Int=>[(3,.d (.int .i64 (u.1:Int)))]) (fun _ u=>[cuO B u.2.2.2.1 u.2.2.2.2,.buf q 7 e (rels.map Rl.enc),.box [.d (.int .i64 0),.d (.str []),.nil0,.nil0],.box [.d (.int .i64 7),.d (.str []),.nil0,.own 4 u.2.1],.grow u.2.1 4 79 (u.2.2.1.map Gl.enc)]) (fun u=>u.1+u.2.2.1.length<=4/\(∀g,g∈u.2.2.1->g.drA (sgL rels) n mode)/\0<=u.2.2.2.1/\u.2.2.2.1<=B.length) (fun u=>u.1) (calls,q1,gs,i3,h3) ⟨by dsimp only;omega,j2,j3,j4⟩ (by refine ⟨by simp [mkS,A9],by simp [mkS,A9],by simp only [mkS,b_,d_,O.refsLt,C.refsLt,C.refsLt1,o5];first | done | rfl | (simp;done),?_⟩;simp [mkS,Abs.get,C.refsLtT,C.refsLt,C.refsLt1]) ?_;clear j1 j2 j3 j4;rintro ⟨k,q1,gs,i4,h4⟩ ⟨j1,j2,j3,j4⟩ hnext;dsimp only at j1 j2 j3 j4 hnext |-;have hnx:=fun a b c d e s'=>hnext (a,b,c,d,e) s';clear hnext;by_cases hk:k=0
  ·subst hk
   refine rS_ Tryz.func45 ?_;simp only [go_sem,seval]
   repeat' (first
    | (exact ⟨⟨7,[],[],gs⟩,_,_,by rw [Gl.enc_eq];rfl,rfl,⟨rfl,rfl,rfl,by simpa [Gl.goals] using j1,j2⟩,j3,j4⟩)
    | fail)
  ·obtain ⟨k,rfl⟩:∃k',k=k'+1:=⟨k - 1,by omega⟩
   have m1:(0:Int)<((k+1:Nat):Int):=by omega
   have m1':(0:Int)<(k:Int)+1:=by omega
   have wk1:IntKind.i64.wrap ((k:Int)+1 - 1)=(k:Int):=by rw [l6 (by omega) (by omega)];omega
   have hbl:=y9 B i4 h4 hB j3 j4 (rels.length:Int);have hml:∀l:List Rl,(l.map Rl.enc).length=l.length:=fun l=>o_ _;refine l7 Tryz.func45 mixed 8 _ _ (by kernel_rfl) ?_;simp only [go_sem,seval,run.eq_1,m1,m1',hml];refine AW.regA ?_;simp only [go_sem,seval,hml]
   repeat' (first
    | ((refine y7 (fun x hx=>have hq:=hx;?_))<;>(try simp only [go_sem,seval,hml,hq]))
    | ((first
     | (refine (l8.emb hbl [0] rfl rfl rfl (by decide) rfl ?_)<;>(rintro c H' ⟨y,i5,h5,rfl,rfl,⟨y0,y1⟩,c3,c4⟩ _;refine ⟨rfl,rfl,?_⟩))
     | (refine ⟨sd,?_⟩))<;>(try simp only [go_sem,seval,hml]))
    | fail)
   have hxm:=f_ hx;obtain ⟨n1,n2,n3⟩:=har x hxm;refine l7 Tryz.func45 mixed 3 _ _ (by kernel_rfl) ?_;simp only [go_sem,seval,run.eq_1];refine AW.adoptGB 6 2 4 60 (by decide) rfl rfl ?_;refine rS_ Tryz.func45 ?_;simp only [go_sem,seval];refine AW.lp [0,1,2,3,4,10,11,13,14] (fun u:Nat×Nat×List V×Int×Int=>[(15,.d (.int .i64 (u.1:Int)))]) (fun _ u=>[cuO B u.2.2.2.1 u.2.2.2.2,.buf q 7 e (rels.map Rl.enc),.box [.d (.int .i64 0),.d (.str []),.nil0,.nil0],.box [.d (.int .i64 7),.d (.str []),.nil0,.own 4 q1],.grow q1 4 79 (gs.map Gl.enc),.box (x.enc.map .d),.box [.d (.int .i64 9),.d (.str x.name),.own 7 u.2.1,.nil0],.grow u.2.1 4 60 (u.2.2.1.map V.enc)]) (fun u=>u.1=u.2.2.1.length/\(u.1:Int)<=x.arity/\(∀v,v∈u.2.2.1->drawn 7 n v)/\0<=u.2.2.2.1/\u.2.2.2.1<=B.length) (fun u=>x.arity.toNat - u.1) (0,0,[],i5,h5) ⟨rfl,n2,(fun v hv=>by cases hv),c3,c4⟩ (by refine ⟨by simp [mkS,A9],by simp [mkS,A9],by simp only [mkS,b_,d_,O.refsLt,C.refsLt,C.refsLt1,o5];first | done | rfl | (simp;done),?_⟩;simp [mkS,Abs.get,C.refsLtT,C.refsLt,C.refsLt1]) ?_;rintro ⟨j,q2,ts,i6,h6⟩ ⟨p1,p2,p3,p4,p5⟩ hnext;dsimp only at p1 p2 p3 p4 p5 hnext |-;have hny:=fun a b c d e s'=>hnext (a,b,c,d,e) s';clear hnext;have hj6:(j:Int)<6:=by omega
   by_cases hja:(j:Int)<x.arity
   ·have hb4:=y9 B i6 h6 hB p4 p5 4
    refine l7 Tryz.func45 mixed 7 _ _ (by kernel_rfl) ?_;simp only [go_sem,seval,run.eq_1,hja,hj6];refine AW.drawA mixed #[true,true,true,true,true,true,true,true,true,true,true,true,true,false] [(6,.box [.d (.int .i64 9),.d (.str x.name),.own 7 q2,.nil0])] [] [0,1,2,3,8,4,5,6,7,9,10,11,12] [13] none (by kernel_rfl) trivial (by simp [x9]) ?_;simp only [go_sem,seval]
    repeat' (first
     | ((refine (l8.emb hb4 [0] rfl rfl rfl (by decide) rfl ?_)<;>(rintro c H' ⟨z,i7,h7,rfl,rfl,⟨z0,z1⟩,d3,d4⟩ _;refine ⟨rfl,rfl,?_⟩))<;>(try simp only [go_sem,seval]))
     | fail)
    obtain ⟨s,hs1,hs2⟩:∃s:Nat,IntKind.i64.wrap (1+IntKind.i64.wrap (IntKind.i64.wrap (Int.tdiv z 3) * 2))=(s:Int)/\(s=1\/s=3):=by
     rcases (show z=0\/z=1\/z=2\/z=3 by omega) with rfl | rfl | rfl | rfl
     ·exact ⟨1,by decide,.inl rfl⟩
     ·exact ⟨1,by decide,.inl rfl⟩
     ·exact ⟨1,by decide,.inl rfl⟩
     ·exact ⟨3,by decide,.inr rfl⟩
    have hs5:ay7 s<=7:=by rcases hs2 with rfl | rfl<;>decide
    rw [hs1];refine (l8.emb (aa7 B hB n hn s i7 h7 (by omega) d3 d4) [0] rfl rfl rfl (by decide) rfl ?_);rintro c H' ⟨v,i8,h8,rfl,rfl,dv,e3,e4⟩ _;refine ⟨rfl,rfl,?_⟩;simp only [go_sem,seval]
    repeat' (first
     | ((refine ⟨sd,?_⟩)<;>(try simp only [go_sem,seval]))
     | fail)
    have dv7:=ad2 dv hs5;have hve:=V.enc_eq v;have wj:IntKind.i64.wrap ((j:Int)+1)=((j+1:Nat):Int):=by rw [l6 (by omega) (by omega)];omega
    refine rS_ Tryz.func45 ?_;simp only [go_sem,seval,wj,hve]
    all_goals refine hny (j+1) (q2+1) (ts++[v]) i8 h8 _ ⟨by rw [c_,<-p1];rfl,by dsimp only;omega,fun w hw=>by
     rcases l_.1 hw with hw | hw
     ·exact p3 w hw
     ·simp at hw;subst hw;exact dv7,e3,e4⟩ (by dsimp only;omega) (by refine ⟨by simp [mkS,A9,hve],by simp [mkS,A9,hve],by simp only [mkS,b_,d_,O.refsLt,C.refsLt,C.refsLt1,o5];first | done | rfl | (simp;done),?_⟩;simp [mkS,Abs.get,C.refsLtT,C.refsLt,C.refsLt1])
   ·have hje:(j:Int)=x.arity:=by omega
    obtain ⟨hX1,hX2,hX3⟩:=Gl.drA_call (S:=sgL rels) (n:=n) (mode:=mode) n1 p3 (by omega) (by
     rw [show ((ts.length:Nat):Int)=x.arity by omega];exact N_.2 ⟨x,hxm,rfl⟩)
    have hXe:(Gl.mk 9 x.name (ts.map V.tm) []).enc=[.int .i64 9,.str x.name,.sl (ts.map V.enc),.sl []]:=by rw [Gl.enc_eq];simp only [Gl.kind,Gl.name,Gl.terms,Gl.goals,D6,s_]
    have hNe:(Gl.mk 10 [] [] [Gl.mk 9 x.name (ts.map V.tm) []]).enc=[.int .i64 10,.str [],.sl [],.sl [[.int .i64 9,.str x.name,.sl (ts.map V.enc),.sl []]]]:=by rw [Gl.enc_eq];simp only [Gl.kind,Gl.name,Gl.terms,Gl.goals,H_,s_,hXe]
    have hmk:=ac6 10 [] [Gl.mk 9 x.name (ts.map V.tm) []];simp only [H_,s_,hXe,hNe] at hmk;by_cases hm2:mode=2
    ·subst hm2
     have hNA:=Gl.drA_not hX1 rfl hX2 hX3;have ho:=av0 B hB 3 i6 h6 p4 p5;refine rS_ Tryz.func45 ?_;simp only [go_sem,seval,hja]
     repeat' (first
      | ((first
       | (refine (l8.emb ho [0] rfl rfl rfl (by decide) rfl ?_)<;>(rintro c H' ⟨b,i7,h7,rfl,rfl,d3,d4⟩ _;cases b<;>refine ⟨rfl,rfl,?_⟩))
       | (refine hmk.calls rfl ?_)
       | (refine ⟨sd,?_⟩))<;>(try simp only [go_sem,seval,hja,wk1]))
      | fail)
     ·refine hnx k (q1+1) (gs++[Gl.mk 9 x.name (ts.map V.tm) []]) i7 h7 _ ⟨by rw [c_];dsimp only [a_,g_];omega,fun w hw=>by
       rcases l_.1 hw with hw | hw
       ·exact j2 w hw
       ·simp at hw;subst hw;exact hX1,d3,d4⟩ (by dsimp only;omega) (by refine ⟨by simp [mkS,A9,hXe],by simp [mkS,A9,hXe],by simp only [mkS,b_,d_,O.refsLt,C.refsLt,C.refsLt1,o5];first | done | rfl | (simp;done),?_⟩;simp [mkS,Abs.get,C.refsLtT,C.refsLt,C.refsLt1])
     ·refine hnx k (q1+1) (gs++[Gl.mk 10 [] [] [Gl.mk 9 x.name (ts.map V.tm) []]]) i7 h7 _ ⟨by rw [c_];dsimp only [a_,g_];omega,fun w hw=>by
       rcases l_.1 hw with hw | hw
       ·exact j2 w hw
       ·simp at hw;subst hw;exact hNA,d3,d4⟩ (by dsimp only;omega) (by refine ⟨by simp [mkS,A9,hNe],by simp [mkS,A9,hNe],by simp only [mkS,b_,d_,O.refsLt,C.refsLt,C.refsLt1,o5];first | done | rfl | (simp;done),?_⟩;simp [mkS,Abs.get,C.refsLtT,C.refsLt,C.refsLt1])
    ·refine rS_ Tryz.func45 ?_
     simp only [go_sem,seval,hja,hm2]
     repeat' (first
      | (simp (disch:=omega) only [l6])
      | ((refine ⟨sd,?_⟩)<;>(try simp only [go_sem,seval,hja,hm2,wk1]))
      | fail)
     all_goals refine hnx k (q1+1) (gs++[Gl.mk 9 x.name (ts.map V.tm) []]) i6 h6 _ ⟨by rw [c_];dsimp only [a_,g_];omega,fun w hw=>by
       rcases l_.1 hw with hw | hw
       ·exact j2 w hw
       ·simp at hw;subst hw;exact hX1,p4,p5⟩ (by dsimp only;omega) (by refine ⟨by simp [mkS,A9,hXe],by simp [mkS,A9,hXe],by simp only [mkS,b_,d_,O.refsLt,C.refsLt,C.refsLt1,o5];first | done | rfl | (simp;done),?_⟩;simp [mkS,Abs.get,C.refsLtT,C.refsLt,C.refsLt1])
 ·obtain ⟨k,rfl⟩:∃k',k=k'+1:=⟨k - 1,by omega⟩
  have m1:(0:Int)<((k+1:Nat):Int):=by omega
  have m1':(0:Int)<(k:Int)+1:=by omega
  have wk1:IntKind.i64.wrap ((k:Int)+1 - 1)=(k:Int):=by rw [l6 (by omega) (by omega)];omega
  have hsm:=aU1 B hB n hn (decide (mode=0)) i3 h3 j3 j4;refine l7 Tryz.func45 mixed 7 _ _ (by kernel_rfl) ?_;simp only [go_sem,seval,run.eq_1,m1,m1'];refine AW.drawA mixed #[true,true,true,true,true,true,true,true,true,true,false] [(3,.box [.d (.int .i64 7),.d (.str []),.nil0,.own 4 q1])] [] [0,1,2,3,4,5,6,7,8,9] [10] none (by kernel_rfl) trivial (by simp [x9]) ?_;simp only [go_sem,seval]
  repeat' (first
   | ((first
    | (refine (l8.emb hsm [0] rfl rfl rfl (by decide) rfl ?_)<;>(rintro c H' ⟨g,i4,h4,rfl,rfl,dg,c3,c4⟩ _;refine ⟨rfl,rfl,?_⟩))
    | (refine ⟨sd,?_⟩))<;>(try simp only [go_sem,seval]))
   | fail)
  have hge:=Gl.enc_eq g;refine rS_ Tryz.func45 ?_;simp only [go_sem,seval,m1,m1',wk1,hge]
  all_goals refine hnx k (q1+1) (gs++[g]) i4 h4 _ ⟨by rw [c_];dsimp only [a_,g_];omega,fun y hy=>by
   rcases l_.1 hy with hy | hy
   ·exact j2 y hy
   ·simp at hy;subst hy;exact dg _ _,c3,c4⟩ (by dsimp only;omega) (by refine ⟨by simp [mkS,A9,hge],by simp [mkS,A9,hge],by simp only [mkS,b_,d_,O.refsLt,C.refsLt,C.refsLt1,o5];first | done | rfl | (simp;done),?_⟩;simp [mkS,Abs.get,C.refsLtT,C.refsLt,C.refsLt1])
def ae8 (r:Rl):List UInt8×Int×Int:=(r.name,r.arity,r.locals)
theorem bo2 {M L:List Rl} (h:M.map ae8=L.map ae8) {r:Rl} (hr:r∈M):∃y,y∈L/\r.name=y.name/\r.arity=y.arity/\r.locals=y.locals:=by
 have h1:ae8 r∈L.map ae8:=by rw [<-h];exact List.mem_map_of_mem hr
 obtain ⟨y,hy,e⟩:=N_.1 h1;unfold ae8 at e;simp only [Prod.mk.injEq] at e;exact ⟨y,hy,e.1.symm,e.2.1.symm,e.2.2.symm⟩
theorem bo3 {M L:List Rl} (h:M.map ae8=L.map ae8):M.length=L.length/\sgL M=sgL L:=by
 refine ⟨by simpa using congrArg List.length h,?_⟩;have h1:=congrArg (List.map fun k:List UInt8×Int×Int=>(k.1,k.2.1)) h;simpa [sgL,ae8,Function.comp_def] using h1
theorem aS7 {M L:List Rl} (h:M.map ae8=L.map ae8):M.map Rl.name=L.map Rl.name:=by
 have h1:=congrArg (List.map fun k:List UInt8×Int×Int=>k.1) h;simpa [ae8,Function.comp_def] using h1
theorem aS2 {M:List Rl} {k:Nat} {r:Rl} (b:Gl) (hr:M[k]? = some r):(M.set k ⟨r.name,r.arity,r.locals,b⟩).map ae8=M.map ae8:=by
 apply List.ext_getElem?;intro j;rw [B_,B_,List.getElem?_set];split
 ·rename_i e;subst e
  rw [hr,if_pos (e_.1 hr).1];rfl
 ·rfl
theorem aE8 {S:List (List UInt8×Int)} {mode:Int} {M:List Rl} {k:Nat} {r:Rl} {b:Gl} (hr:M[k]? = some r) (hb:b.drB S (r.arity+r.locals) mode) (h:∀j r,j<k->M[j]? = some r->r.body.drB S (r.arity+r.locals) mode):∀j r',j<k+1->(M.set k ⟨r.name,r.arity,r.locals,b⟩)[j]? = some r'->r'.body.drB S (r'.arity+r'.locals) mode:=by
 intro j r' hj hm;rw [List.getElem?_set] at hm;split at hm
 ·split at hm
  ·cases hm;exact hb
  ·cases hm
 ·rename_i hne
  exact h j r' (by omega) hm
theorem bq8 (B:List UInt8) (hB:B.length<=1048576) (mode:Int) (i h:Int) (h0:0<=i) (h1:i<=B.length):l8 Tryz.prog 20 [.ptr 0 0,.d (.int .i64 mode)] [cuO B i h] (fun c H'=>∃p i' h',c=.d (.agg (Pg.enc p))/\H'=[cuO B i' h']/\p.drP mode/\0<=i'/\i'<=B.length):=by
 have hmx:maxLen=9223372036854775807:=rfl;have hbl:=y9 B i h hB h0 h1 3;refine aE_ Tryz.func20 ?_;refine l7 Tryz.func20 mixed 4 _ _ (by kernel_rfl) ?_;simp only [go_sem,seval,run.eq_1];refine AW.adoptBB 2 0 7 81 (by decide) rfl rfl ?_;refine l7 Tryz.func20 mixed 3 _ _ (by kernel_rfl) ?_;simp only [go_sem,seval,run.eq_1]
 repeat' (first
  | (simp (disch:=omega) only [l6])
  | ((first
   | (refine (l8.emb hbl [0] rfl rfl rfl (by decide) rfl ?_)<;>(rintro c H' ⟨x,i2,h2,rfl,rfl,⟨x0,x1⟩,b3,b4⟩ _;refine ⟨rfl,rfl,?_⟩))
   | (refine ⟨sd,?_⟩))<;>(try simp only [go_sem,seval,run.eq_1]))
  | fail)
 obtain ⟨k,hk,hk1,hk3⟩:∃k:Nat,(1+x).toNat=k/\1<=k/\k<=3:=⟨(1+x).toNat,rfl,by omega,by omega⟩;have hts:List.take k [[D.str [112]],[D.str [113]],[D.str [114]]]=Y1 (ag2.take k):=by unfold Y1;rw [List.map_take];rfl
 have hkl:(ag2.take k).length=k:=(O3 hk3).2.2;obtain ⟨NL,hNL⟩:∃NL,ag2.take k=NL:=⟨_,rfl⟩;rw [hNL] at hts hkl;subst hkl;simp only [hk,hts,l9];refine rS_ Tryz.func20 ?_;simp only [go_sem,seval];refine AW.rng NL [0,1,4,5,18,19] 20 18 (fun u:Nat×List Rl×Int×Int=>[]) (fun _ u=>[cuO B u.2.2.1 u.2.2.2,.box [.nil0],.box [.own 3 u.1],.buf u.1 7 81 (u.2.1.map Rl.enc)]) (fun r u=>u.2.1.map Rl.name++r=NL/\(∀y,y∈u.2.1->1<=y.arity/\y.arity<=2/\0<=y.locals/\y.locals<=1)/\0<=u.2.2.1/\u.2.2.1<=B.length) (0,[],i2,h2) rfl (by simp only [l9]) ⟨rfl,(fun y hy=>by cases hy),b3,b4⟩ (by refine ⟨by simp [mkS,A9,l9],by simp [mkS,A9,l9],by simp only [mkS,b_,d_,O.refsLt,C.refsLt,C.refsLt1,o5];first | done | rfl | (simp;done),?_⟩;simp [mkS,Abs.get,C.refsLtT,C.refsLt,C.refsLt1]) (fun ii nm r u hxi hdr hlt hm hinv hnext=>?_) (fun u hinv=>?_)
 ·obtain ⟨q,L,i3,h3⟩:=u
  obtain ⟨j1,j2,j3,j4⟩:=hinv;dsimp only at j1 j2 j3 j4 hnext |-;have hnx:=fun a b c d s'=>hnext (a,b,c,d) s';clear hnext;have hxx:=G8 hxi;have hii:(ii:Int)<(NL.length:Int):=hlt;have hLl:L.length<=3:=by
   have:=congrArg List.length j1;simp only [c_,o_,a_] at this;omega
  have hb2:=y9 B i3 h3 hB j3 j4 2;refine l7 Tryz.func20 mixed 9 _ _ (by kernel_rfl) ?_;simp only [go_sem,seval,run.eq_1,hii,d9 hxx,l9];refine AW.drawA mixed #[true,true,true,true,true,true,true,true,true,true,true,true,false] [(2,.box [.own 3 q])] [] [0,1,2,3,6,4,5,7,8,9,10,11] [12] none (by kernel_rfl) trivial (by simp [x9]) ?_;simp only [go_sem,seval]
  repeat' (first
   | (simp (disch:=omega) only [l6])
   | ((first
    | (refine (l8.emb hb2 [0] rfl rfl rfl (by decide) rfl ?_)<;>(rintro c H' ⟨a1,i4,h4,rfl,rfl,⟨y0,y1⟩,d3,d4⟩ _;refine ⟨rfl,rfl,?_⟩))
    | (refine (l8.emb (y9 B i4 h4 hB d3 d4 2) [0] rfl rfl rfl (by decide) rfl ?_)<;>(rintro c H' ⟨a2,i5,h5,rfl,rfl,⟨z0,z1⟩,e3,e4⟩ _;refine ⟨rfl,rfl,?_⟩))
    | (refine ⟨sd,?_⟩))<;>(try simp only [go_sem,seval]))
   | fail)
  have wa:IntKind.i64.wrap (1+a1)=1+a1:=by rw [l6 (by omega) (by omega)]
  have hRe:(Rl.mk nm (1+a1) a2 ⟨0,[],[],[]⟩).enc=[.str nm,.int .i64 (1+a1),.int .i64 a2,.int .i64 0,.str [],.sl [],.sl []]:=rfl;refine rS_ Tryz.func20 ?_;simp only [go_sem,seval,wa]
  repeat' (first
   | (simp (disch:=omega) only [l6])
   | fail)
  all_goals refine hnx (q+1) (L++[Rl.mk nm (1+a1) a2 ⟨0,[],[],[]⟩]) i5 h5 _ ⟨by rw [List.map_append,j_];exact j1,fun y hy=>by
   rcases l_.1 hy with hy | hy
   ·exact j2 y hy
   ·simp at hy;subst hy;exact ⟨by dsimp only;omega,by dsimp only;omega,by dsimp only;omega,by dsimp only;omega⟩,e3,e4⟩ (by refine ⟨by simp [mkS,A9,hRe,l9],by simp [mkS,A9,hRe,l9],by simp only [mkS,b_,d_,O.refsLt,C.refsLt,C.refsLt1,o5];first | done | rfl | (simp;done),?_⟩;simp [mkS,Abs.get,C.refsLtT,C.refsLt,C.refsLt1])
 ·obtain ⟨q,L,i3,h3⟩:=u
  obtain ⟨j1,j2,j3,j4⟩:=hinv;dsimp only at j1 j2 j3 j4 |-;simp only [s_,List.append_nil] at j1;have hLl:L.length=NL.length:=by rw [<-j1,o_]
  have hml:∀l:List Rl,(l.map Rl.enc).length=l.length:=fun l=>o_ _;refine l7 Tryz.func20 mixed 7 _ _ (by kernel_rfl) ?_;simp only [go_sem,seval,run.eq_1];refine AW.regA ?_;simp only [go_sem,seval,hml];refine rS_ Tryz.func20 ?_;simp only [go_sem,seval];refine AW.lp [0,1,4,5,38,39] (fun u:Nat×List Rl×Int×Int=>[(40,.d (.int .i64 (u.1:Int)))]) (fun _ u=>[cuO B u.2.2.1 u.2.2.2,.box [.nil0],.box [.own 3 q],.buf q 7 81 (u.2.1.map Rl.enc)]) (fun u=>u.2.1.map ae8=L.map ae8/\u.1<=L.length/\(∀j r,j<u.1->u.2.1[j]? = some r->r.body.drB (sgL L) (r.arity+r.locals) mode)/\0<=u.2.2.1/\u.2.2.1<=B.length) (fun u=>L.length - u.1) (0,L,i3,h3) ⟨rfl,q_ _,(fun j r hj _=>absurd hj (Nat.not_lt_zero _)),j3,j4⟩ (by refine ⟨by simp [mkS,A9],by simp [mkS,A9],by simp only [mkS,b_,d_,O.refsLt,C.refsLt,C.refsLt1,o5];first | done | rfl | (simp;done),?_⟩;simp [mkS,Abs.get,C.refsLtT,C.refsLt,C.refsLt1]) ?_;rintro ⟨k,M,i4,h4⟩ ⟨m1,m2,m3,m4,m5⟩ hnext;dsimp only at m1 m2 m3 m4 m5 hnext |-;have hnx:=fun a b c d s'=>hnext (a,b,c,d) s';clear hnext;obtain ⟨n1,n2⟩:=bo3 m1;have hha:∀r,r∈M->P5 r.name=true/\1<=r.arity/\r.arity<=2/\0<=r.locals/\r.locals<=1:=fun r hr=>by
   obtain ⟨y,hy,e1,e2,e3⟩:=bo2 m1 hr;have hyn:y.name∈NL:=by rw [<-j1];exact List.mem_map_of_mem hy
   rw [<-hNL] at hyn;obtain ⟨g1,g2,g3,g4⟩:=j2 y hy;exact ⟨by rw [e1];exact ((O3 hk3).2.1 _ hyn).1,by omega,by omega,by omega,by omega⟩
  by_cases hkL:k=L.length
  ·subst hkL
   clear hnx;refine AW.frzBox 2 0 3 rfl rfl rfl (by decide) ?_;simp only [go_sem,seval];have hlt:¬(L.length:Int)<(L.length:Int):=by omega
   have hfin:Pg.drP mode ⟨M⟩:=⟨⟨L.length,by omega,by omega,by rw [aS7 m1,j1,hLl,hNL]⟩,fun r hr=>by
    obtain ⟨f1,f2,f3,f4,f5⟩:=hha r hr;obtain ⟨j,hj⟩:=List.mem_iff_getElem?.1 hr;refine ⟨f2,f3,f4,f5,?_⟩;have:=m3 j r (by have:=(e_.1 hj).1;dsimp only at this;omega) hj;rw [<-n2] at this;exact this⟩
   refine rS_ Tryz.func20 ?_;simp only [go_sem,seval,hlt]
   repeat' (first
    | (exact ⟨⟨M⟩,_,_,by rw [Pg.enc_eq],rfl,hfin,m4,m5⟩)
    | fail)
  ·have hkl:(k:Int)<(L.length:Int):=by omega
   obtain ⟨r,hr⟩:∃r,M[k]? = some r:=⟨M[k]'(by omega),h_ _⟩;obtain ⟨g1,g2,g3,g4,g5⟩:=hha r (f_ hr);have hre:(M.map Rl.enc)[k]? = some r.enc:=by rw [B_,hr];rfl
   have hRe:r.enc=[.str r.name,.int .i64 r.arity,.int .i64 r.locals,.int .i64 r.body.kind,.str r.body.name,.sl (r.body.terms.map Tm.enc),.sl (r.body.goals.map Gl.enc)]:=Rl.enc_eq r;have hcl:=au4 B hB M (by omega) (by omega) (fun y hy=>by obtain ⟨f1,f2,f3,f4,f5⟩:=hha y hy;exact ⟨f1,by omega,by omega⟩) (r.arity+r.locals) (by omega) 0 (by omega) mode i4 h4 m4 m5 q 81;rw [show ((0:Nat):Int)=0 from rfl] at hcl;have wn:IntKind.i64.wrap (r.arity+r.locals)=r.arity+r.locals:=by rw [l6 (by omega) (by omega)]
   refine l7 Tryz.func20 mixed 8 _ _ (by kernel_rfl) ?_;simp only [go_sem,seval,run.eq_1,hkl];refine AW.regA ?_;simp only [go_sem,seval,hml,n1,hkl,d9 hre,hRe]
   repeat' (first
    | ((refine ⟨sd,?_⟩)<;>(try simp only [go_sem,seval,hml,n1,hkl,d9 hre,hRe]))
    | fail)
   refine l7 Tryz.func20 mixed 3 _ _ (by kernel_rfl) ?_;simp only [go_sem,seval,run.eq_1,wn,hRe];refine AW.regU ?_;simp only [go_sem,seval]
   repeat' (first
    | ((refine (l8.emb hcl [0,3] rfl rfl rfl (by decide) rfl ?_)<;>(rintro c H' ⟨g,i5,h5,rfl,rfl,dg,c3,c4⟩ _;refine ⟨rfl,rfl,?_⟩))<;>(try simp only [go_sem,seval]))
    | fail)
   rw [n2] at dg;have hb3:=y9 B i5 h5 hB c3 c4 3;refine rS_ Tryz.func20 ?_;simp only [go_sem,seval]
   repeat' (first
    | ((refine (l8.emb hb3 [0] rfl rfl rfl (by decide) rfl ?_)<;>(rintro c H' ⟨y,i6,h6,rfl,rfl,⟨y0,y1⟩,d3,d4⟩ _;refine ⟨rfl,rfl,?_⟩))<;>(try simp only [go_sem,seval]))
    | fail)
   obtain ⟨k0,hk0,hk02⟩:∃k0:Nat,y=(k0:Int)/\k0<=2:=⟨y.toNat,by omega,by omega⟩;subst hk0;refine AW.lp [0,1,4,5,8,10,11,38,39,40] (fun u:Nat×Nat×List Gl×Int×Int=>[(12,.d (.int .i64 (u.1:Int)))]) (fun _ u=>[cuO B u.2.2.2.1 u.2.2.2.2,.box [.nil0],.box [.own 3 q],.buf q 7 81 (M.map Rl.enc),.box [.d (.str r.name),.d (.int .i64 r.arity),.d (.int .i64 r.locals),.d (.int .i64 r.body.kind),.d (.str r.body.name),.d (.sl (r.body.terms.map Tm.enc)),.d (.sl (r.body.goals.map Gl.enc))],.buf u.2.1 4 79 (u.2.2.1.map Gl.enc),.box [.d (.int .i64 8),.d (.str []),.nil0,.own 5 u.2.1]]) (fun u=>u.1+u.2.2.1.length<=3/\1<=u.2.2.1.length/\(∀g,g∈u.2.2.1->g.drC (sgL L) (r.arity+r.locals) mode)/\0<=u.2.2.2.1/\u.2.2.2.1<=B.length) (fun u=>u.1) (k0,1,[g],i6,h6) ⟨by simp;omega,by simp,(fun y hy=>by simp at hy;subst hy;exact dg),d3,d4⟩ (by refine ⟨by simp [mkS,A9],by simp [mkS,A9],by simp only [mkS,b_,d_,O.refsLt,C.refsLt,C.refsLt1,o5];first | done | rfl | (simp;done),?_⟩;simp [mkS,Abs.get,C.refsLtT,C.refsLt,C.refsLt1]) ?_;rintro ⟨kk,q2,gs,i7,h7⟩ ⟨p1,p2,p3,p4,p5⟩ hnext;dsimp only at p1 p2 p3 p4 p5 hnext |-;have hny:=fun a b c d e s'=>hnext (a,b,c,d,e) s';clear hnext;by_cases hk0:kk=0
   ·subst hk0
    clear hny;refine AW.frzBox 6 3 5 rfl rfl rfl (by decide) ?_;simp only [go_sem,seval];have hgd:(M.map Rl.enc).getD k []=r.enc:=by rw [x_,hre];rfl
    have hset:∀b:Gl,(Rl.mk r.name r.arity r.locals b).enc=[.str r.name,.int .i64 r.arity,.int .i64 r.locals,.int .i64 b.kind,.str b.name,.sl (b.terms.map Tm.enc),.sl (b.goals.map Gl.enc)]:=fun b=>Rl.enc_eq _;have wj:IntKind.i64.wrap ((k:Int)+1)=((k+1:Nat):Int):=by rw [l6 (by omega) (by omega)];omega
    have hgl:(gs.map Gl.enc).length=gs.length:=o_ _;by_cases hg1:gs.length=1
    ·obtain ⟨g0,rfl⟩:∃g0,gs=[g0]:=List.length_eq_one_iff.1 hg1
     have hoc:=av0 B hB 2 i7 h7 p4 p5;refine l7 Tryz.func20 mixed 10 _ _ (by kernel_rfl) ?_;simp only [go_sem,seval,run.eq_1]
     repeat' (first
      | ((refine (l8.emb hoc [0] rfl rfl rfl (by decide) rfl ?_)<;>(rintro c H' ⟨b,i8,h8,rfl,rfl,f3,f4⟩ _;cases b<;>refine ⟨rfl,rfl,?_⟩))<;>(try simp only [go_sem,seval,run.eq_1]))
      | fail)
     ·have hs:=hset ⟨8,[],[],[g0]⟩
      dsimp only [Gl.kind,Gl.name,Gl.terms,Gl.goals] at hs;simp only [s_,H_] at hs;refine AW.regT ?_;simp only [go_sem,seval,hgd,hRe,hml,n1,hkl]
      repeat' (first
       | ((refine ⟨sd,?_⟩)<;>(try simp only [go_sem,seval,hgd,hRe,hml,n1,hkl]))
       | fail)
      refine rS_ Tryz.func20 ?_;simp only [go_sem,seval,wj];refine hnx (k+1) (M.set k ⟨r.name,r.arity,r.locals,⟨8,[],[],[g0]⟩⟩) i8 h8 _ ⟨by rw [<-m1];exact aS2 _ hr,by dsimp only;omega,aE8 hr (.inr ⟨rfl,rfl,rfl,by simp [Gl.goals],p3⟩) m3,f3,f4⟩ (by dsimp only;omega) (by refine ⟨by simp [mkS,A9,hr,hRe,hs],by simp [mkS,A9,hr,hRe,hs],by simp only [mkS,b_,d_,O.refsLt,C.refsLt,C.refsLt1,o5];first | done | rfl | (simp;done),?_⟩;simp [mkS,Abs.get,C.refsLtT,C.refsLt,C.refsLt1])
     ·have hs:=hset g0
      have hge:=Gl.enc_eq g0;refine AW.regT ?_;simp only [go_sem,seval,hgd,hRe,hml,n1,hkl,hge]
      repeat' (first
       | ((refine ⟨sd,?_⟩)<;>(try simp only [go_sem,seval,hgd,hRe,hml,n1,hkl,hge]))
       | fail)
      refine rS_ Tryz.func20 ?_;simp only [go_sem,seval,wj];refine hnx (k+1) (M.set k ⟨r.name,r.arity,r.locals,g0⟩) i8 h8 _ ⟨by rw [<-m1];exact aS2 _ hr,by dsimp only;omega,aE8 hr (.inl (p3 g0 (by simp))) m3,f3,f4⟩ (by dsimp only;omega) (by refine ⟨by simp [mkS,A9,hr,hRe,hs],by simp [mkS,A9,hr,hRe,hs],by simp only [mkS,b_,d_,O.refsLt,C.refsLt,C.refsLt1,o5];first | done | rfl | (simp;done),?_⟩;simp [mkS,Abs.get,C.refsLtT,C.refsLt,C.refsLt1])
    ·have hg1':¬(gs.length:Int)=1:=by omega
     have hs:=hset ⟨8,[],[],gs⟩;dsimp only [Gl.kind,Gl.name,Gl.terms,Gl.goals] at hs;simp only [s_] at hs;refine l7 Tryz.func20 mixed 10 _ _ (by kernel_rfl) ?_;simp only [go_sem,seval,run.eq_1,hgl,hg1'];refine AW.regT ?_;simp only [go_sem,seval,hgd,hRe,hml,n1,hkl]
     repeat' (first
      | ((refine ⟨sd,?_⟩)<;>(try simp only [go_sem,seval,hgd,hRe,hml,n1,hkl]))
      | fail)
     refine rS_ Tryz.func20 ?_;simp only [go_sem,seval,wj];refine hnx (k+1) (M.set k ⟨r.name,r.arity,r.locals,⟨8,[],[],gs⟩⟩) i7 h7 _ ⟨by rw [<-m1];exact aS2 _ hr,by dsimp only;omega,aE8 hr (.inr ⟨rfl,rfl,rfl,by simp [Gl.goals];omega,p3⟩) m3,p4,p5⟩ (by dsimp only;omega) (by refine ⟨by simp [mkS,A9,hr,hRe,hs],by simp [mkS,A9,hr,hRe,hs],by simp only [mkS,b_,d_,O.refsLt,C.refsLt,C.refsLt1,o5];first | done | rfl | (simp;done),?_⟩;simp [mkS,Abs.get,C.refsLtT,C.refsLt,C.refsLt1])
   ·obtain ⟨kk,rfl⟩:∃k',kk=k'+1:=⟨kk - 1,by omega⟩
    have e1:(0:Int)<((kk+1:Nat):Int):=by omega
    have e1':(0:Int)<(kk:Int)+1:=by omega
    have wk1:IntKind.i64.wrap ((kk:Int)+1 - 1)=(kk:Int):=by rw [l6 (by omega) (by omega)];omega
    have hb5:=y9 B i7 h7 hB p4 p5 5;refine l7 Tryz.func20 mixed 7 _ _ (by kernel_rfl) ?_;simp only [go_sem,seval,run.eq_1,e1,e1'];refine AW.drawA mixed #[true,true,true,true,true,true,true,true,true,true,true,true,true,true,false] [(2,.box [.own 3 q]),(6,.box [.d (.int .i64 8),.d (.str []),.nil0,.own 5 q2])] [] [0,1,2,3,4,5,6,9,7,8,10,11,12,13] [14] none (by kernel_rfl) trivial (by simp [x9]) ?_;simp only [go_sem,seval]
    repeat' (first
     | ((refine (l8.emb hb5 [0] rfl rfl rfl (by decide) rfl ?_)<;>(rintro c H' ⟨z,i8,h8,rfl,rfl,⟨z0,z1⟩,f3,f4⟩ _;refine ⟨rfl,rfl,?_⟩))<;>(try simp only [go_sem,seval]))
     | fail)
    obtain ⟨cn,hc1,hc2⟩:∃cn:Nat,IntKind.i64.wrap (Int.tdiv z 2)=(cn:Int)/\cn<=2:=by
     rcases (show z=0\/z=1\/z=2\/z=3\/z=4 by omega) with rfl | rfl | rfl | rfl | rfl
     ·exact ⟨0,by decide,by omega⟩
     ·exact ⟨0,by decide,by omega⟩
     ·exact ⟨1,by decide,by omega⟩
     ·exact ⟨1,by decide,by omega⟩
     ·exact ⟨2,by decide,by omega⟩
    rw [hc1];have hcl:=au4 B hB M (by omega) (by omega) (fun y hy=>by obtain ⟨f1,f2,f3,f4,f5⟩:=hha y hy;exact ⟨f1,by omega,by omega⟩) (r.arity+r.locals) (by omega) cn hc2 mode i8 h8 f3 f4 q 81;refine (l8.emb hcl [0,3] rfl rfl rfl (by decide) rfl ?_);rintro c H' ⟨g',i9,h9,rfl,rfl,dg',o3,o4⟩ _;refine ⟨rfl,rfl,?_⟩;simp only [go_sem,seval]
    repeat' (first
     | ((refine ⟨sd,?_⟩)<;>(try simp only [go_sem,seval]))
     | fail)
    rw [n2] at dg';have hge:=Gl.enc_eq g';refine rS_ Tryz.func20 ?_;simp only [go_sem,seval,wk1,hge]
    all_goals refine hny kk (q2+1) (gs++[g']) i9 h9 _ ⟨by rw [c_];dsimp only [a_,g_];omega,by rw [c_];dsimp only [a_,g_];omega,fun w hw=>by
     rcases l_.1 hw with hw | hw
     ·exact p3 w hw
     ·simp at hw;subst hw;exact dg',o3,o4⟩ (by dsimp only;omega) (by refine ⟨by simp [mkS,A9,hge],by simp [mkS,A9,hge],by simp only [mkS,b_,d_,O.refsLt,C.refsLt,C.refsLt1,o5];first | done | rfl | (simp;done),?_⟩;simp [mkS,Abs.get,C.refsLtT,C.refsLt,C.refsLt1])
theorem bB1 (B:List UInt8) (hB:B.length<=1048576) (L:List (List UInt8)) (hL:1<=L.length) (hl:L.length<=100) (i h:Int) (h0:0<=i) (h1:i<=B.length):l8 Tryz.prog 43 [.ptr 0 0,.d (.sl (Y1 L))] [cuO B i h] (fun c H'=>∃s i' h',c=.d (.str s)/\H'=[cuO B i' h']/\s∈L/\0<=i'/\i'<=B.length):=by
 have hb:=y9 B i h hB h0 h1 (L.length:Int);refine aE_ Tryz.func43 ?_;refine rS_ Tryz.func43 ?_;simp only [go_sem,seval,l9];refine (l8.emb hb [0] rfl rfl rfl (by decide) rfl ?_);rintro c H' ⟨x,i2,h2,rfl,rfl,⟨b1,b2⟩,b3,b4⟩ _;refine ⟨rfl,rfl,?_⟩;obtain ⟨k,hk,hkl⟩:∃k:Nat,x=k/\k<L.length:=⟨x.toNat,by omega,by omega⟩;subst hk;obtain ⟨s,hs⟩:∃s,L[k]? = some s:=⟨L[k],h_ hkl⟩;have hxx:=G8 hs;simp only [go_sem,seval,l9,d9 hxx]
 repeat' (first
  | (exact ⟨s,_,_,rfl,rfl,f_ hs,b3,b4⟩)
  | ((refine ⟨sd,?_⟩)<;>(try simp only [go_sem,seval,l9,d9 hxx]))
  | fail)
theorem bq7 (B:List UInt8) (hB:B.length<=1048576) (i h:Int) (h0:0<=i) (h1:i<=B.length):l8 Tryz.prog 16 [.ptr 0 0] [cuO B i h] (fun c H'=>∃k i' h',c=.d (.str (bq1 k))/\H'=[cuO B i' h']/\0<=i'/\i'<=B.length):=by
 have hb:=bB1 B hB [bq1 0,bq1 1,bq1 2,bq1 3] (by decide) (by decide) i h h0 h1;have hsd:Y1 [bq1 0,bq1 1,bq1 2,bq1 3]=[[.str [108,105,115,116,115]],[.str [103,114,97,112,104]],[.str [115,101,116,115]],[.str [103,97,109,101,115]]]:=rfl;rw [hsd] at hb;refine aE_ Tryz.func16 ?_;refine rS_ Tryz.func16 ?_;simp only [go_sem,seval]
 repeat' (first
  | ((refine (l8.emb hb [0] rfl rfl rfl (by decide) rfl ?_)<;>(rintro c H' ⟨s,i2,h2,rfl,rfl,hs,b3,b4⟩ _;refine ⟨rfl,rfl,?_⟩))<;>(try simp only [go_sem,seval]))
  | fail)
 obtain ⟨k,rfl⟩:∃k,s=bq1 k:=by
  simp only [List.mem_cons,List.not_mem_nil,or_false] at hs;rcases hs with rfl | rfl | rfl | rfl<;>exact ⟨_,rfl⟩
 exact ⟨k,_,_,rfl,rfl,b3,b4⟩
theorem as0 (p:Pg) (s:List UInt8) (hw:wtL p.enc<=1048576):Gives Tryz.prog 90 [.agg p.enc,.str s] (.d (.int .i64 (if N9 p then p.find s else -1))):=by
 refine aE_ Tryz.func90 ?_;refine rS_ Tryz.func90 ?_;simp only [go_sem,seval]
 repeat' (first
  | ((refine C9 (fun hq=>?_) (fun hq=>?_))<;>(try simp only [go_sem,seval,hq]))
  | ((first
   | (refine (F5 _ sd).calls rfl ?_)
   | (refine (X4 _ _).calls rfl ?_))<;>(try simp only [go_sem,seval]))
  | fail)
 all_goals simp [*]
theorem bK8 (k:Int):Gives Tryz.prog 170 [.int .i64 k] (.d (.bool (decide (k=10)))):=by
 refine aE_ Tryz.func170 ?_;refine rS_ Tryz.func170 ?_;simp only [go_sem,seval]
theorem bM5 (gb:List D) (f:FuncId) (q:Int->Bool) (hgo:isGo Tryz.prog f=true) (hf:∀k,Gives Tryz.prog f [.int .i64 k] (.d (.bool (q k)))):Clo Tryz.prog 178 [.ptr 2 0,.ptr 1 0] 3 (fun x:Gl=>D.agg x.enc) (fun b:Bool=>[.box (gb.map .d),.box [.fn f []],.box [.d (.bool b)]]) (fun _=>True) (fun b x=>b || q x.kind):=by
 refine ⟨by kernel_rfl,rfl,fun _=>rfl,fun a=>by simp only [b_,d_,O.refsLt,o5,C.refsLt,C.refsLt1];rfl,fun a x _=>?_⟩;refine aE_ Tryz.func178 ?_;refine rS_ Tryz.func178 ?_;simp only [go_sem,seval,hgo]
 repeat' (first
  | ((refine C9 (fun hq=>?_) (fun hq=>?_))<;>(try simp only [go_sem,seval,hgo,hq]))
  | ((refine (hf _).calls rfl ?_)<;>(try simp only [go_sem,seval,hgo]))
  | fail)
 all_goals simp only [o5,M_,Bool.true_or]
theorem bi1 (g:Gl) (f:FuncId) (q:Int->Bool) (hgo:isGo Tryz.prog f=true) (hf:∀k,Gives Tryz.prog f [.int .i64 k] (.d (.bool (q k)))):l8 Tryz.prog 169 [.d (.agg g.enc),.fn f []] [] (fun c H'=>c=.d (.bool (g.subs.any fun x=>q x.kind))/\H'=[]):=by
 have e1:=ag1 (bM5 g.enc f q hgo hf) g false (fun _ _=>trivial);rw [aO8,M_] at e1;generalize (g.subs.any fun x=>q x.kind)=N at e1 |-;refine aE_ Tryz.func169 ?_;refine rS_ Tryz.func169 ?_;simp only [go_sem,seval]
 repeat' (first
  | ((refine l8.mono e1 ?_<;>(rintro c H' ⟨rfl,rfl⟩))<;>(try simp only [go_sem,seval]))
  | fail)
theorem aT4 (g:Gl):Gives Tryz.prog 151 [.agg g.enc] (.d (.bool (!g.only false))):=by
 rw [<-Gl.only_neg];have e1:=bi1 g 170 (fun k=>decide (k=10)) (by kernel_rfl) bK8;generalize (g.subs.any fun x=>decide (x.kind=10))=N at e1 |-;refine aE_ Tryz.func151 ?_;refine rS_ Tryz.func151 ?_;simp only [go_sem,seval]
 repeat' (first
  | ((refine e1.frame (X:=[_]) rfl rfl ?_<;>(rintro c H' ⟨rfl,rfl⟩ _))<;>(try simp only [go_sem,seval]))
  | fail)
theorem aT0 (p:Pg):Gives Tryz.prog 111 [.agg p.enc] (.d (.bool (p.rels.all fun r=>r.body.only false))):=by
 refine aE_ Tryz.func111 ?_;refine rS_ Tryz.func111 ?_;simp only [go_sem,seval];refine AW.rng p.rels [6,7] 8 6 (fun _:Unit=>[]) (fun H _=>H) (fun r _=>(r.all fun r=>r.body.only false)=p.rels.all fun r=>r.body.only false) () rfl (by simp) rfl H6 (fun i x r acc hxi hdr hlt hm hinv hnext=>?_) (fun acc hinv=>?_)
 ·rw [b_] at hinv
  refine rS_ Tryz.func111 ?_;simp only [go_sem,seval,hlt,d9 hxi]
  repeat' (first
   | ((refine C9 (fun hq=>?_) (fun hq=>?_))<;>(try simp only [go_sem,seval,hq]))
   | (simp (disch:=omega) only [l6])
   | (refine hnext () _ ?_ H6)
   | ((refine (aT4 _).calls rfl ?_)<;>(try simp only [go_sem,seval]))
   | fail)
  all_goals clear hnext
  all_goals (rw [<-hinv];simp_all;done)
 ·rw [d_] at hinv
  refine rS_ Tryz.func111 ?_;simp only [go_sem,seval];rw [<-hinv]
theorem ay5 (p:Pg) (hw:wtL p.enc<=1048576):Gives Tryz.prog 66 [.agg p.enc] (.d (.bool (p.all false))):=by
 have hp:p.all false=(N9 p && p.rels.all fun r=>r.body.only false):=rfl;rw [hp];refine aE_ Tryz.func66 ?_;refine rS_ Tryz.func66 ?_;simp only [go_sem,seval]
 repeat' (first
  | ((refine C9 (fun hq=>?_) (fun hq=>?_))<;>(try simp only [go_sem,seval,hq]))
  | ((first
   | (refine (Y7 _ sd).calls rfl ?_)
   | (refine (aT0 _).calls rfl ?_))<;>(try simp only [go_sem,seval]))
  | fail)
 all_goals simp [*]
theorem bg8 (pu:Bool):∀(t:Gl),Gives Tryz.prog 80 [.agg t.enc,.bool pu] (.d (.bool (t.only pu))):=by
 intro t;induction t using Gl.ind' with
 | h t ih =>
  have h0:=Gl.only_eq pu t;have h1:Gl.onlyK pu t.kind=(decide (t.kind≠10) && !(pu && (decide (3<=t.kind) && decide (t.kind<=6)))):=rfl;rw [h1] at h0;clear h1;generalize t.only pu=N at h0 |-;refine aE_ Tryz.func80 ?_;refine rS_ Tryz.func80 ?_;simp only [go_sem,seval];refine AW.rng t.goals [1,2,8,9] 10 8 (fun _:Unit=>[]) (fun H _=>H) (fun r _=>r.all (Gl.only pu)=t.goals.all (Gl.only pu)) () rfl (by simp) rfl H6 (fun i x r acc hxi hdr hlt hm hinv hnext=>?_) (fun acc hinv=>?_)
  ·have ihx:=ih x (f_ hxi)
   rw [b_] at hinv;refine rS_ Tryz.func80 ?_;simp only [go_sem,seval,hlt,d9 hxi]
   repeat' (first
    | ((refine C9 (fun hq=>?_) (fun hq=>?_))<;>(try simp only [go_sem,seval,hq]))
    | (simp (disch:=omega) only [l6])
    | (refine hnext () _ ?_ H6)
    | ((refine ihx.calls rfl ?_)<;>(try simp only [go_sem,seval]))
    | fail)
   all_goals clear hnext ihx ih
   all_goals first | (rw [h0,<-hinv];simp [*];done) | (rw [<-hinv];simp [*];done)
  ·rw [d_] at hinv
   rw [<-hinv,v_] at h0;clear hinv ih;refine rS_ Tryz.func80 ?_;simp only [go_sem,seval]
   repeat' (first
    | ((refine C9 (fun hq=>?_) (fun hq=>?_))<;>(try simp only [go_sem,seval,hq]))
    | ((refine (E9 _ _ _).calls rfl ?_)<;>(try simp only [go_sem,seval]))
    | fail)
   all_goals (rw [h0];clear h0;simp_all)
theorem aN5 (pu:Bool) (p:Pg) (hw:wtL p.enc<=1048576):Gives Tryz.prog 44 [.agg p.enc,.bool pu] (.d (.bool (p.all pu))):=by
 have hp:p.all pu=(N9 p && p.rels.all fun r=>r.body.only pu):=rfl;rw [hp];by_cases hok:N9 p=true
 ·rw [hok,v_]
  refine aE_ Tryz.func44 ?_;refine rS_ Tryz.func44 ?_;simp only [go_sem,seval,hok]
  repeat' (first
   | ((refine (F5 _ sd).calls rfl ?_)<;>(try simp only [go_sem,seval,hok]))
   | fail)
  refine AW.rng p.rels [1,11,12] 13 11 (fun _:Unit=>[]) (fun H _=>H) (fun r _=>(r.all fun r=>r.body.only pu)=p.rels.all fun r=>r.body.only pu) () rfl (by simp) rfl H6 (fun i x r acc hxi hdr hlt hm hinv hnext=>?_) (fun acc hinv=>?_)
  ·rw [b_] at hinv
   refine rS_ Tryz.func44 ?_;simp only [go_sem,seval,hlt,d9 hxi]
   repeat' (first
    | ((refine C9 (fun hq=>?_) (fun hq=>?_))<;>(try simp only [go_sem,seval,hq]))
    | (simp (disch:=omega) only [l6])
    | (refine hnext () _ ?_ H6)
    | ((refine (bg8 _ _).calls rfl ?_)<;>(try simp only [go_sem,seval]))
    | fail)
   all_goals clear hnext
   all_goals (rw [<-hinv];simp_all;done)
  ·rw [d_] at hinv
   refine rS_ Tryz.func44 ?_;simp only [go_sem,seval];rw [<-hinv]
 ·simp only [C_] at hok
  rw [hok];refine aE_ Tryz.func44 ?_;refine rS_ Tryz.func44 ?_;simp only [go_sem,seval,hok]
  repeat' (first
   | ((refine (F5 _ sd).calls rfl ?_)<;>(try simp only [go_sem,seval,hok]))
   | fail)
theorem ad8 (p:Pg) (hw:wtL p.enc<=1048576):Gives Tryz.prog 18 [.agg p.enc] (.d (.bool (p.all false))):=by
 refine aE_ Tryz.func18 ?_;refine rS_ Tryz.func18 ?_;simp only [go_sem,seval]
 repeat' (first
  | ((refine (aN5 _ _ sd).calls rfl ?_)<;>(try simp only [go_sem,seval]))
  | fail)
theorem be1 (p:Pg) (hw:wtL p.enc<=1048576):Gives Tryz.prog 19 [.agg p.enc] (.d (.bool (p.all true))):=by
 refine aE_ Tryz.func19 ?_;refine rS_ Tryz.func19 ?_;simp only [go_sem,seval]
 repeat' (first
  | ((refine (aN5 _ _ sd).calls rfl ?_)<;>(try simp only [go_sem,seval]))
  | fail)
theorem bE5 {p:Pg} (h:p.all true=true):p.all false=true:=by
 unfold Pg.all at h |-;rw [i_] at h |-;refine ⟨h.1,u_.2 fun r hr=>?_⟩;have:=u_.1 h.2 r hr;unfold Gl.only at this |-;refine u_.2 fun x hx=>?_;have:=u_.1 this x hx;unfold Gl.onlyK at this |-;rw [i_] at this |-;exact ⟨this.1,rfl⟩
theorem ax3 (B:List UInt8) (hB:B.length<=1048576):l8 Tryz.prog 4 [.d (.sl (bytesD B)),.d (.int .i64 0),.d (.int .i64 1)] [] (fun c H'=>∃p,c=.d (.agg (Pg.enc p))/\H'=[]/\p.made 1):=by
 have hmx:maxLen=9223372036854775807:=rfl;have hw:=aG2 B hB 0 (by omega);rw [show ((0:Nat):Int)=0 from rfl] at hw;refine aE_ Tryz.func4 ?_;refine AW.hole ?_;refine l7 Tryz.func4 mixed 5 _ _ (by kernel_rfl) ?_;simp only [go_sem,seval,run.eq_1]
 repeat' (first
  | ((refine (l8.emb hw [0] rfl rfl rfl (by decide) rfl ?_)<;>(rintro c H' ⟨rfl,i,h,rfl,e1,e2⟩ _;refine ⟨rfl,rfl,?_⟩))<;>(try simp only [go_sem,seval,run.eq_1]))
  | fail)
 refine AW.unbox 7 0 (cs:=cuD B i h) rfl rfl ?_;have hnm:=bq7 B hB i h e1 e2;refine rS_ Tryz.func4 ?_;simp only [go_sem,seval]
 repeat' (first
  | ((refine (l8.emb hnm [2] rfl rfl rfl (by decide) rfl ?_)<;>(rintro c H' ⟨k,i2,h2,rfl,rfl,b3,b4⟩ _;refine ⟨rfl,rfl,?_⟩))<;>(try simp only [go_sem,seval]))
  | fail)
 obtain ⟨T,rels,hT,hTl,hTm,hp,hok,hfine⟩:=bA8 k;have hlt:=az1 k;have hpp:=ap2 (bw5 k) (by have:=bA9 k;omega) T rels hT (by omega) (fun t ht=>⟨((bx7 hT).2 t ht).1,by have:=hTm t ht;omega⟩) hp hok (by have:=hfine.wt;omega);have hPe:(Pg.mk rels).enc=[.sl (rels.map Rl.enc)]:=Pg.enc_eq _;rw [hPe] at hpp;have hip:=ad8 ⟨rels⟩ (by have:=hfine.wt;omega);have hiu:=be1 ⟨rels⟩ (by have:=hfine.wt;omega);have hfin1:(Pg.mk rels).all false=true->(Pg.mk rels).fine 1:=fun h=>⟨hfine.ok,hfine.wt,hfine.cls,hfine.one,fun _=>h⟩;have hal:(Pg.mk rels).all true=true->(Pg.mk rels).all false=true:=bE5;rw [hPe] at hip hiu;generalize (Pg.mk rels).all false=X1 at hip hfin1 hal;generalize (Pg.mk rels).all true=X2 at hiu hal;have hon:=av0 B hB 8 i2 h2 b3 b4
 repeat' (first
  | ((refine C9 (fun hq=>?_) (fun hq=>?_))<;>(try simp only [go_sem,seval,hq]))
  | ((first
   | (refine hlt.calls rfl ?_)
   | (refine hip.calls rfl ?_)
   | (refine hiu.calls rfl ?_)
   | (refine hpp.calls rfl ?_)
   | (refine (l8.emb hon [2] rfl rfl rfl (by decide) rfl ?_)<;>(rintro c H' ⟨b,i3,h3,rfl,rfl,c3,c4⟩ _;cases b<;>refine ⟨rfl,rfl,?_⟩))
   | (refine (l8.emb (bq8 B hB 1 i3 h3 c3 c4) [2] rfl rfl rfl (by decide) rfl ?_)<;>(rintro c H' ⟨p,i4,h4,rfl,rfl,dp,d3,d4⟩ _;refine ⟨rfl,rfl,?_⟩))
   | (refine ⟨by assumption,?_⟩))<;>(try simp only [go_sem,seval]))
  | fail)
 ·exact .inl dp
 ·exact ⟨⟨rels⟩,by rw [hPe],.inr ⟨k,T,_,hT,hp,hfin1 (hal (by assumption))⟩⟩
 ·exact .inl dp
 ·exact ⟨⟨rels⟩,by rw [hPe],.inr ⟨k,T,_,hT,hp,hfin1 (by assumption)⟩⟩
end Go.Proofs.YtmfkcdelddmfpaaGreat
