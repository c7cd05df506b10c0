import Derived.Test.YtehgpkadkdekmaaGreatDoorJ13
import Derived.Shelf.Strings.Builder1
import Derived.Shelf.Small.Bits
import Derived.Shelf.Small.Wraps
import Derived.Shelf.Strconv.Itoa0
import Derived.Shelf.Strconv.Itoa1
import Derived.Shelf.LaysM
import Derived.Shelf.Strconv.Itoa2
import Derived.Shelf.Strconv.Itoa3
import Derived.Shelf.Sort.Plain
import Derived.Ground.GgsProg
import Derived.Shelf.GgSortFunc.Insertion
import Derived.Shelf.GgSortFunc.Tiny
import Derived.Shelf.GgSortFunc.Compose
import Derived.Ground.GgtProg
import Derived.Shelf.GgSortMore.Stable
import Derived.Shelf.Slices.In.SortNone
import Derived.Shelf.Slices.In.SortNone2
import Derived.Test.YtehgpkadkdekmaaGreatDoorProg
open List renaming length_cons->a_,all_cons->b_,length_append->c_,all_nil->d_,getElem?_eq_some_iff->e_,mem_of_getElem?->f_,length_nil->g_,getElem?_eq_getElem->h_,append_assoc->j_,mem_append->l_,drop_eq_getElem_cons->n_,length_map->o_,foldl_append->p_,drop_eq_nil_of_le->r_,map_nil->s_,length_drop->t_,all_eq_true->u_,eq_nil_of_length_eq_zero->w_,getD_eq_getElem?_getD->x_,foldl_nil->y_,getElem?_eq_none_iff->A_,getElem?_map->B_,getElem?_eq_none->D_,mem_of_mem_take->F_,mem_of_mem_drop->G_,map_cons->I_,findIdx_cons->K_,mem_map->O_
open Bool renaming and_eq_true->i_,true_and->v_,not_eq_true->C_,and_eq_false_iff->E_,and_true->J_,and_false->L_,false_or->N_
open Nat renaming lt_succ_iff_lt_or_eq->k_,le_refl->m_,zero_le->q_,add_le_add_left->H_,le_trans->P_
open Int renaming tdiv_eq_ediv_of_nonneg->z_,tmod_eq_emod_of_nonneg->M_
namespace Go.Proofs.YtehgpkadkdekmaaGreatDoor
open Go.Abs
set_option maxRecDepth 100000
set_option maxHeartbeats 4000000
set_option linter.unusedSimpArgs false
set_option linter.unusedVariables false
theorem F8 (a lo hi:Int):Gives Tryz.prog 85 [.int .i64 a,.int .i64 lo,.int .i64 hi] (.d (.bool (decide (lo<=a) && decide (a<=hi)))):=by
 refine aE_ Tryz.func85 ?_;refine rS_ Tryz.func85 ?_;simp only[go_sem,seval]
 repeat' (first|refine E8 ?_ ?_<;>intro hq<;>try simp only[go_sem,seval,hq]|fail)
 all_goals (simp_all;try omega)
theorem aR2 (s:List UInt8) (i:Nat):0<=((s[i]?.getD 0).toNat:Int)/\((s[i]?.getD 0).toNat:Int)<=255:=by
 have:=UInt8.toNat_lt (s[i]?.getD 0);omega
theorem ac8 (s:List UInt8) (hm:s.length<=9000000):Gives Tryz.prog 127 [.str s] (.d (.bool (D7 s))):=by
 refine aE_ Tryz.func127 ?_;refine rS_ Tryz.func127 ?_;simp only[go_sem,seval];refine AW.lp [0] (fun i:Nat=>[(3,.d (.int .i64 i))]) (fun H _=>H) (fun i=>i<=s.length/\∀j,j<i->aF8 s j=true) (fun i=>s.length - i) 0 ⟨by omega,by omega⟩ I7 ?_;rintro i ⟨hi,hall⟩ hnext;by_cases h:i<s.length
 ·have hlt:(i:Int)<(s.length:Int):=by omega
  have next:aF8 s i=true->∀j,j<i+1->aF8 s j=true:=fun h j hj=>by
   rcases k_.1 hj with h' | rfl
   ·exact hall j h'
   ·exact h
  have bad:=am8 h;obtain⟨b,hb⟩:∃b:Int,((s[i]?.getD 0).toNat:Int)=b:=⟨_,rfl⟩;have hb0:=aR2 s i;have hok:aF8 s i=((decide (97<=b) && decide (b<=122)) || (i != 0 && (b == 45 || decide (48<=b) && decide (b<=57)))):=by unfold aF8 af0;rw[hb]
  rw[hb] at hb0;rw[hok] at next bad
  refine rS_ Tryz.func127 ?_;simp only[go_sem,seval,hlt,hb]
  repeat' (first|refine E8 ?_ ?_<;>intro hq<;>try simp only[go_sem,seval,hlt,hb,hq]|simp(disch:=omega) only[l6]|refine hnext (i+1) _ ⟨by omega,next (by simp;omega)⟩ (by omega) I7|refine(F8 _ _ _).calls rfl ?_<;>try simp only[go_sem,seval,hlt,hb]|fail)
  all_goals (rw[bad (by simp;omega)])
 ·obtain rfl:i=s.length:=by omega
  refine rS_ Tryz.func127 ?_;simp only[go_sem,seval]
  repeat' (first|refine(F8 _ _ _).calls rfl ?_<;>try simp only[go_sem,seval]|fail)
  all_goals (rw[aC3 hall];congr 3<;>simp<;>omega)
theorem aC5 (s:List UInt8) (hm:s.length<=9000000):Gives Tryz.prog 111 [.str s] (.d (.bool (D7 s))):=by
 obtain⟨b0,hb0⟩:∃b:Int,((s[0]?.getD 0).toNat:Int)=b:=⟨_,rfl⟩;have h0b:=aR2 s 0;have hok0:aF8 s 0=(decide (97<=b0) && decide (b0<=122)):=by unfold aF8 af0;rw[hb0];simp
 rw[hb0] at h0b;have bad0:=fun h:0<s.length=>am8 h;have badl:¬(1<=s.length/\s.length<=12)->D7 s=false:=fun h=>by
  cases hn:D7 s with
  | false=>rfl
  | true=>exact absurd (H5 hn) h
 refine aE_ Tryz.func111 ?_;refine rS_ Tryz.func111 ?_;simp only[go_sem,seval]
 repeat' (first|refine E8 ?_ ?_<;>intro hq<;>try simp only[go_sem,seval,hb0,hq]|refine⟨sd,?_⟩<;>try simp only[go_sem,seval,hb0]|fail)
 all_goals try (rw[badl (by omega)];done)
 all_goals try (rw[bad0 (by omega) (by rw[hok0];simp;omega)];done)
 have st:∀j,j<1->aF8 s j=true:=fun j hj=>by
  obtain rfl:j=0:=by omega
  rw[hok0];simp;omega
 refine AW.lp [0] (fun i:Nat=>[(3,.d (.int .i64 i))]) (fun H _=>H) (fun i=>1<=i/\i<=s.length/\∀j,j<i->aF8 s j=true) (fun i=>s.length - i) 1 ⟨by omega,by omega,st⟩ I7 ?_;rintro i ⟨hi1,hi,hall⟩ hnext;by_cases h:i<s.length
 ·have hlt:(i:Int)<(s.length:Int):=by omega
  have next:aF8 s i=true->∀j,j<i+1->aF8 s j=true:=fun h j hj=>by
   rcases k_.1 hj with h' | rfl
   ·exact hall j h'
   ·exact h
  have bad:=am8 h;obtain⟨b,hb⟩:∃b:Int,((s[i]?.getD 0).toNat:Int)=b:=⟨_,rfl⟩;have hb0:=aR2 s i;have hok:aF8 s i=((decide (97<=b) && decide (b<=122)) || (i != 0 && (b == 45 || decide (48<=b) && decide (b<=57)))):=by unfold aF8 af0;rw[hb]
  rw[hb] at hb0;rw[hok] at next bad
  refine rS_ Tryz.func111 ?_;simp only[go_sem,seval,hlt,hb]
  repeat' (first|refine E8 ?_ ?_<;>intro hq<;>try simp only[go_sem,seval,hlt,hb,hq]|simp(disch:=omega) only[l6]|refine hnext (i+1) _ ⟨by omega,by omega,next (by simp;omega)⟩ (by omega) I7|fail)
  all_goals (rw[bad (by simp;omega)])
 ·obtain rfl:i=s.length:=by omega
  refine rS_ Tryz.func111 ?_;simp only[go_sem,seval];rw[aC3 hall];congr 2;simp;omega
theorem bg3:∀(t:Tm) (room:Int),wtL t.enc<=9000000->-10000000<=room->room<=10000000->Gives Tryz.prog 105 [.agg t.enc,.int .i64 room] (.d (.int .i64 (nodes t room))):=by
 intro t;induction t using Tm.ind' with
 | h t ih =>
  intro room hw h0 h1;have hn:=bs6 t;have lf:=aS9 t (room:=room);have bd:=bg2 t (room:=room);have nl:=nodes_lt (t:=t) (room:=room);by_cases h2:t.args.length=2
  ·obtain⟨a,b,hab⟩:∃a b,t.args=[a,b]:=by
    match h:t.args,h2 with
    | [a,b],_=>exact⟨a,b,rfl⟩
   have ia:=ih a (by simp[hab]);have ib:=ih b (by simp[hab]);have wa:=al4 (t:=t) (x:=a) (by simp[hab]);have wb:=al4 (t:=t) (x:=b) (by simp[hab]);have kds:=aT0 t a b hab (room:=room);have ga:=nodes_ge (t:=a) (room:=room - 1);have gb:=nodes_ge (t:=b) (room:=room - 1 - nodes a (room - 1));generalize nodes t room=N at lf bd kds nl |-;refine aE_ Tryz.func105 ?_;refine rS_ Tryz.func105 ?_;simp only[go_sem,seval]
   repeat' (first|refine E8 ?_ ?_<;>intro hq<;>try simp only[go_sem,seval,hab,hq]|simp(disch:=omega) only[l6]|((first|refine(ia _ (by omega) (by omega) (by omega)).calls rfl ?_|refine(ib _ (by omega) (by omega) (by omega)).calls rfl ?_)<;>(try simp only[go_sem,seval,hab]))|fail)
   all_goals clear ia ib
   all_goals try clear ih
   all_goals try clear hnext
   all_goals first
    | simp_all;done
    | simp_all;omega
    | simp_all;split<;>simp_all<;>omega
    | exfalso;omega
    | assumption
  ·generalize nodes t room=N at lf bd nl |-
   refine aE_ Tryz.func105 ?_;refine rS_ Tryz.func105 ?_;simp only[go_sem,seval]
   repeat' (first|((first | refine E8 ?_ ?_<;>intro hq | (refine A8 (fun x hx=>have hq:=hx;?_)))<;>(try simp only[go_sem,seval,hq]))|simp(disch:=omega) only[l6]|refine(aC5 _ sd).calls rfl ?_<;>try simp only[go_sem,seval]|fail)
   all_goals try clear ih
   all_goals try clear hnext
   all_goals first
    | simp_all;done
    | simp_all;omega
    | simp_all;split<;>simp_all<;>omega
    | exfalso;omega
    | assumption
theorem ad9 (t:Tm) (hw:wtL t.enc<=9000000):Gives Tryz.prog 59 [.agg t.enc] (.d (.bool (M7 t))):=by
 refine aE_ Tryz.func59 ?_;refine rS_ Tryz.func59 ?_;simp only[go_sem,seval]
 repeat' (first|refine(bg3 _ _ sd sd sd).calls rfl ?_<;>try simp only[go_sem,seval]|fail)
 all_goals (rw[nodes_ok])
theorem R9 (l:List Tm) (hl:∀t,t∈l->wtL t.enc<=9000000):Gives Tryz.prog 30 [.sl (l.map Tm.enc)] (.d (.bool (l.all M7))):=by
 refine aE_ Tryz.func30 ?_;refine rS_ Tryz.func30 ?_;simp only[go_sem,seval];refine AW.rng l [5,6] 7 5 (fun _:Unit=>[]) (fun H _=>H) (fun r _=>r.all M7=l.all M7) () rfl (by simp) rfl I7 (fun i x r acc hxi hdr hlt hm hinv hnext=>?_) (fun acc hinv=>?_)
 ·have hw:=hl x (f_ hxi)
  refine rS_ Tryz.func30 ?_;simp only[go_sem,seval,hlt,d9 hxi]
  repeat' (first|refine E8 ?_ ?_<;>intro hq<;>try simp only[go_sem,seval,hq]|simp(disch:=omega) only[l6]|refine hnext () _ ?_ I7|refine(ad9 _ sd).calls rfl ?_<;>try simp only[go_sem,seval]|fail)
  all_goals (simp_all;done)
 ·refine rS_ Tryz.func30 ?_
  simp only[go_sem,seval];simp_all
theorem aU1:∀(t:Tm) (most:Int),wtL t.enc<=9000000->-10000000<=most->most<=10000000->Gives Tryz.prog 173 [.agg t.enc,.int .i64 most] (.d (.int .i64 (countF t most))):=by
 intro t;induction t using Tm.ind with
 | h k i nm ks ih =>
  intro most hw h0 h1;have hwk:=fun x (hx:x∈ks)=>al4 (t:=.mk k i nm ks) (x:=x) hx;have e4:(Tm.mk k i nm ks).args=ks:=rfl;have hc:=cnt_le_wt (.mk k i nm ks);simp only[Tm.cnt] at hc;refine aE_ Tryz.func173 ?_;refine rS_ Tryz.func173 ?_;simp only[go_sem,seval];simp only[go_sem,seval,e4];refine AW.rng ks [1,9,10] 11 9 (fun n:Int=>[(5,.d (.int .i64 n))]) (fun H _=>H) (fun r n=>1<=n/\n+Tm.cnts r<=1+Tm.cnts ks/\countL r most n=countF (.mk k i nm ks) most) 1 rfl (by simp) ⟨by omega,by omega,rfl⟩ I7 (fun i x r acc hxi hdr hlt hm hinv hnext=>?_) (fun acc hinv=>?_)
  ·have hx:=f_ hxi
   have ihx:=ih x hx;have hwx:=hwk x hx;have hcs:=count_spec x (most - acc);obtain⟨v1,v2,v3⟩:=hinv;simp only[countL,Tm.cnts] at v2 v3;refine rS_ Tryz.func173 ?_;simp only[go_sem,seval,hlt,d9 hxi]
   repeat' (first|refine E8 ?_ ?_<;>intro hq<;>try simp only[go_sem,seval,hq]|simp(disch:=omega) only[l6]|refine hnext (acc+countF x (most - acc)) _ ⟨by omega,by omega,?_⟩ I7|refine(ihx _ (by omega) (by omega) (by omega)).calls rfl ?_<;>try simp only[go_sem,seval]|fail)
   all_goals clear hnext ihx ih
   ·rw[if_pos (by omega)] at v3;rw[v3]
   ·rw[if_neg (by omega)] at v3;exact v3
  ·refine rS_ Tryz.func173 ?_
   simp only[go_sem,seval];simp_all[countL]
theorem ag6:∀(t:Tm),wtL t.enc<=9000000->Gives Tryz.prog 174 [.agg t.enc] (.d (.bool (t.v?.isSome))):=by
 intro t;induction t using Tm.ind' with
 | h t ih =>
  intro hw;have hn:=bs6 t;have bd:=bp4 t;have lf:=be8 t;have pr:=be7 t;by_cases h2:t.args.length=2
  ·obtain⟨a,b,hab⟩:∃a b,t.args=[a,b]:=by
    match h:t.args,h2 with
    | [a,b],_=>exact⟨a,b,rfl⟩
   have ia:=ih a (by simp[hab]);have ib:=ih b (by simp[hab]);have wa:=al4 (t:=t) (x:=a) (by simp[hab]);have wb:=al4 (t:=t) (x:=b) (by simp[hab]);generalize t.v?.isSome=N at bd lf pr |-;refine aE_ Tryz.func174 ?_;refine rS_ Tryz.func174 ?_;simp only[go_sem,seval]
   repeat' (first|refine E8 ?_ ?_<;>intro hq<;>try simp only[go_sem,seval,hab,hq]|((first|refine(ia (by omega)).calls rfl ?_|refine(ib (by omega)).calls rfl ?_)<;>(try simp only[go_sem,seval,hab]))|fail)
   all_goals clear ia ib
   all_goals try clear ih
   all_goals try clear hnext
   all_goals first
    | simp_all;done
    | simp_all;omega
    | simp_all;split<;>simp_all<;>omega
    | exfalso;omega
    | assumption
  ·generalize t.v?.isSome=N at bd lf pr |-
   refine aE_ Tryz.func174 ?_;refine rS_ Tryz.func174 ?_;simp only[go_sem,seval]
   repeat' (first|((first | refine E8 ?_ ?_<;>intro hq | (refine A8 (fun x hx=>have hq:=hx;?_)))<;>(try simp only[go_sem,seval,hq]))|((first|refine(F8 _ _ _).calls rfl ?_|refine(ac8 _ sd).calls rfl ?_)<;>(try simp only[go_sem,seval]))|fail)
   all_goals try clear ih
   all_goals try clear hnext
   all_goals first
    | simp_all;done
    | simp_all;omega
    | simp_all;split<;>simp_all<;>omega
    | exfalso;omega
    | assumption
theorem al8 (t:Tm) (hw:wtL t.enc<=9000000):Gives Tryz.prog 159 [.agg t.enc] (.d (.bool (M7 t))):=by
 have hc:=count_ok t;generalize M7 t=N at hc |-;refine aE_ Tryz.func159 ?_;refine rS_ Tryz.func159 ?_;simp only[go_sem,seval]
 repeat' (first|refine E8 ?_ ?_<;>intro hq<;>try simp only[go_sem,seval,hq]|((first|refine(aU1 _ _ sd sd sd).calls rfl ?_|refine(ag6 _ sd).calls rfl ?_)<;>(try simp only[go_sem,seval]))|fail)
 all_goals first
  | rw[<-hc,decide_eq_false (by omega)];rfl
  | simp_all;done
theorem av5 (l:List Tm) (hl:∀t,t∈l->wtL t.enc<=9000000):Gives Tryz.prog 176 [.sl (l.map Tm.enc)] (.d (.bool (l.all M7))):=by
 refine aE_ Tryz.func176 ?_;refine rS_ Tryz.func176 ?_;simp only[go_sem,seval];refine AW.rng l [5,6] 7 5 (fun _:Unit=>[]) (fun H _=>H) (fun r _=>r.all M7=l.all M7) () rfl (by simp) rfl I7 (fun i x r acc hxi hdr hlt hm hinv hnext=>?_) (fun acc hinv=>?_)
 ·have hw:=hl x (f_ hxi)
  refine rS_ Tryz.func176 ?_;simp only[go_sem,seval,hlt,d9 hxi]
  repeat' (first|refine E8 ?_ ?_<;>intro hq<;>try simp only[go_sem,seval,hq]|simp(disch:=omega) only[l6]|refine hnext () _ ?_ I7|refine(al8 _ sd).calls rfl ?_<;>try simp only[go_sem,seval]|fail)
  all_goals try clear ih
  all_goals try clear hnext
  all_goals first
   | simp_all;done
   | simp_all;omega
   | simp_all;split<;>simp_all<;>omega
   | exfalso;omega
   | assumption
 ·refine rS_ Tryz.func176 ?_
  simp only[go_sem,seval];simp_all
theorem ad6 (b:Bool):Gives Tryz.prog 135 [.bool b] (.d (.int .i64 (if b then -1 else 1))):=by
 refine aE_ Tryz.func135 ?_;refine rS_ Tryz.func135 ?_;simp only[go_sem,seval]
 repeat' (first|refine E8 ?_ ?_<;>intro hq<;>try simp only[go_sem,seval,hq]|fail)
 all_goals try clear ih
 all_goals try clear hnext
 all_goals first
  | simp_all;done
  | simp_all;omega
  | simp_all;split<;>simp_all<;>omega
  | exfalso;omega
  | assumption
theorem ao1 (a b:Int):Gives Tryz.prog 122 [.int .i64 a,.int .i64 b] (.d (.int .i64 (G5 a b))):=by
 refine aE_ Tryz.func122 ?_;refine rS_ Tryz.func122 ?_;simp only[go_sem,seval]
 repeat' (first|refine E8 ?_ ?_<;>intro hq<;>try simp only[go_sem,seval,hq]|fail)
 all_goals try clear ih
 all_goals try clear hnext
 all_goals first
  | simp_all[G5];done
  | simp_all[G5];omega
  | simp_all[G5];split<;>simp_all<;>omega
  | exfalso;omega
  | assumption
theorem K9:∀(m:Nat) (a b:V),a.size<=m->Gives Tryz.prog 76 [.agg a.enc,.agg b.enc] (.d (.int .i64 (a.cmp b))):=by
 intro m;induction m with
 | zero=>intro a b h;have:=a.size_pos;omega
 | succ m ih =>
  intro a b hm;by_cases h:(∃x y,a=.pair x y)/\(∃x y,b=.pair x y)
  ·obtain⟨⟨a1,a2,rfl⟩,b1,b2,rfl⟩:=h
   have:=a1.size_pos;have:=a2.size_pos;have hc:=V.cmp_pair a1 a2 b1 b2;have hab:∀x y:V,(V.pair x y).kids=[x,y]/\(V.pair x y).kind=4/\(V.pair x y).int=0/\(V.pair x y).name=[]:=fun _ _=>⟨rfl,rfl,rfl,rfl⟩;simp only[V.size] at hm;generalize V.cmp (.pair a1 a2) (.pair b1 b2)=N at hc |-;refine aE_ Tryz.func76 ?_;refine rS_ Tryz.func76 ?_;simp only[go_sem,seval];simp only[go_sem,seval,hab]
   repeat' (first|refine E8 ?_ ?_<;>intro hq<;>try simp only[go_sem,seval,hab,hq]|((first|refine(ih a1 b1 (by omega)).callQ rfl ?_|refine(ih a2 b2 (by omega)).callQ rfl ?_)<;>(try simp only[go_sem,seval,hab]))|fail)
   all_goals try clear ih
   all_goals try clear hnext
   all_goals first
    | simp_all;done
    | simp_all;omega
    | simp_all;split<;>simp_all<;>omega
    | exfalso;omega
    | assumption
  ·have hk:a.kind≠4\/b.kind≠4:=by
    rcases a.pair_or with ha | ⟨ha,_⟩
    ·rcases b.pair_or with hb | ⟨hb,_⟩
     ·exact absurd ⟨ha,hb⟩ h
     ·exact .inr hb
    ·exact .inl ha
   have hc:=V.cmp_else hk;generalize V.cmp a b=N at hc |-;clear ih h hm;refine aE_ Tryz.func76 ?_;refine rS_ Tryz.func76 ?_;simp only[go_sem,seval]
   repeat' (first|((first | refine E8 ?_ ?_<;>intro hq | (refine A8 (fun x hx=>have hq:=hx;?_)))<;>(try simp only[go_sem,seval,hq]))|((first|refine(ao1 _ _).calls rfl ?_|refine⟨sd,?_⟩)<;>(try simp only[go_sem,seval]))|fail)
   all_goals first
    | exfalso;omega
    | simp_all[G5];done
    | simp_all[G5];omega
    | simp_all[G5];split<;>simp_all<;>omega
theorem Y1:∀(m:Nat) (a b:V),a.size<=m->Gives Tryz.prog 96 [.agg a.enc,.agg b.enc] (.d (.int .i64 (a.cmp b))):=by
 intro m;induction m with
 | zero=>intro a b h;have:=a.size_pos;omega
 | succ m ih =>
  intro a b hm;by_cases h:(∃x y,a=.pair x y)/\(∃x y,b=.pair x y)
  ·obtain⟨⟨a1,a2,rfl⟩,b1,b2,rfl⟩:=h
   have:=a1.size_pos;have:=a2.size_pos;have hc:=V.cmp_pair a1 a2 b1 b2;have hab:∀x y:V,(V.pair x y).kids=[x,y]/\(V.pair x y).kind=4/\(V.pair x y).int=0/\(V.pair x y).name=[]:=fun _ _=>⟨rfl,rfl,rfl,rfl⟩;simp only[V.size] at hm;generalize V.cmp (.pair a1 a2) (.pair b1 b2)=N at hc |-;refine aE_ Tryz.func96 ?_;refine rS_ Tryz.func96 ?_;simp only[go_sem,seval];simp only[go_sem,seval,hab]
   repeat' (first|refine E8 ?_ ?_<;>intro hq<;>try simp only[go_sem,seval,hab,hq]|simp(disch:=omega) only[l6]|((first|refine AW.loop ?_<;>(refine rS_ Tryz.func96 ?_)|refine AW.round ?_<;>(refine rS_ Tryz.func96 ?_)|refine(ih a1 b1 (by omega)).callQ rfl ?_|refine(ih a2 b2 (by omega)).callQ rfl ?_)<;>(try simp only[go_sem,seval,hab]))|fail)
   all_goals try clear ih
   all_goals try clear hnext
   all_goals first
    | simp_all;done
    | simp_all;omega
    | simp_all;split<;>simp_all<;>omega
    | exfalso;omega
    | assumption
  ·have hk:(a.kind≠4/\a.kids=[])\/(b.kind≠4/\b.kids=[]):=by
    rcases a.pair_or with ha | ha
    ·rcases b.pair_or with hb | hb
     ·exact absurd ⟨ha,hb⟩ h
     ·exact .inr hb
    ·exact .inl ha
   have hc:=V.cmp_else (a:=a) (b:=b) (by rcases hk with h | h;exact .inl h.1;exact .inr h.1);generalize V.cmp a b=N at hc |-;clear ih h hm;rcases hk with ⟨hk,hk'⟩ | ⟨hk,hk'⟩
   ·refine aE_ Tryz.func96 ?_
    refine rS_ Tryz.func96 ?_;simp only[go_sem,seval]
    repeat' (first|refine E8 ?_ ?_<;>intro hq<;>try simp only[go_sem,seval,hk',hq]|((first|refine AW.loop ?_<;>(refine rS_ Tryz.func96 ?_)|refine(ad6 _).calls rfl ?_)<;>(try simp only[go_sem,seval,hk']))|fail)
    all_goals try clear ih
    all_goals try clear hnext
    all_goals first
     | simp_all;done
     | simp_all;omega
     | simp_all;split<;>simp_all<;>omega
     | exfalso;omega
     | assumption
   ·refine aE_ Tryz.func96 ?_
    refine rS_ Tryz.func96 ?_;simp only[go_sem,seval]
    repeat' (first|refine E8 ?_ ?_<;>intro hq<;>try simp only[go_sem,seval,hk',hq]|((first|refine AW.loop ?_<;>(refine rS_ Tryz.func96 ?_)|refine(ad6 _).calls rfl ?_)<;>(try simp only[go_sem,seval,hk']))|fail)
    all_goals try clear ih
    all_goals try clear hnext
    all_goals first
     | simp_all;done
     | simp_all;omega
     | simp_all;split<;>simp_all<;>omega
     | exfalso;omega
     | assumption
theorem O1 (b:Int):Gives Tryz.prog 84 [.int .u8 b] (.d (.bool (brI b))):=by
 unfold brI;refine aE_ Tryz.func84 ?_;refine rS_ Tryz.func84 ?_;simp only[go_sem,seval]
 repeat' (first|refine E8 ?_ ?_<;>intro hq<;>try simp only[go_sem,seval,hq]|fail)
 all_goals (simp_all;try omega)
theorem bA3 {i:Nat} {s:List UInt8} (hs:s.length<=100000) (hi:i<s.length):IntKind.i64.wrap ((i:Int)+1)=((i+1:Nat):Int):=by simp(disch:=omega) only[l6];omega
theorem bM4 {s:List UInt8} (h0:s.length<=100000) (h:s.all okB=true):aA3 s=if (toks s).length<=20000 then some (toks s) else none:=by
 unfold aA3;simp[h0,h]
theorem bf1 (s:List UInt8) (hm:s.length<=1048576):Gives Tryz.prog 45 [.str s] (tkC (aA3 s)):=by
 have hmx:maxLen=9223372036854775807:=rfl;have htl:=ai7 _ s (m_ _);by_cases h0:s.length<=100000
 ·have n0:¬(100000:Int)<(s.length:Int):=by omega
  refine aE_ Tryz.func45 ?_;refine rS_ Tryz.func45 ?_;simp only[go_sem,seval,n0];refine AW.adopt 4 1 9 (by decide) rfl ?_;refine AW.lp [0] (fun u:Nat×Nat×List (List UInt8)=>[(5,.d (.int .i64 u.1)),(4,.own 0 u.2.1)]) (fun _ u=>[.grow u.2.1 1 9 (U2 u.2.2)]) (fun u=>u.1<=s.length/\u.2.2++toks (s.drop u.1)=toks s) (fun u=>s.length - u.1) (0,0,[]) ⟨q_ _,by simp⟩ (by refine⟨by simp[mkS,U2],by simp[mkS,U2],by simp only[mkS,b_,d_,O.refsLt,C.refsLt,C.refsLt1,l7];first | done | rfl | (simp;done),?_⟩;simp[mkS,Abs.get,C.refsLtT,C.refsLt,C.refsLt1]) ?_;rintro ⟨i,q,L⟩ ⟨hi,hinv⟩ hnext;dsimp only at hi hinv hnext |-;have hLl:L.length<=100000:=by have:=congrArg List.length hinv;simp at this;omega
  by_cases h:i<s.length
  ·have hlt:(i:Int)<(s.length:Int):=by omega
   obtain⟨c,hc,hb⟩:=byte_at h;have hw:=bA3 h0 h;have hnx:=fun k q' L' s'=>hnext (k,q',L') s';clear hnext;dsimp only at hnx;have hbr:=by0 c;by_cases h59:(c.toNat:Int)=59
   ·have hc59:c=59:=(ap7 (n:=59) (by omega)).2 h59
    refine rS_ Tryz.func45 ?_;simp only[go_sem,seval,hlt,hb,h59,hw];refine AW.lp [0,4] (fun k:Nat=>[(6,.d (.int .i64 k))]) (fun H _=>H) (fun k=>i<k/\k<=s.length/\∀j,i<j->j<k->∀c,s[j]? = some c->bg4 c=true) (fun k=>s.length - k) (i+1) ⟨by omega,by omega,by omega⟩ A7 ?_;rintro k ⟨hik,hk,hall⟩ hnk;dsimp only at hik hk hall hnk |-;have hstep:(∀c,s[k]? = some c->bg4 c=false)->L++toks (s.drop k)=toks s:=fun he=>by
     rw[hc59] at hc;rw[<-hinv,bB1 hc (by omega) hk (fun j h1 h2 d hd=>by
      rcases Nat.lt_or_ge i j with h3 | h3
      ·exact hall j h3 h2 d hd
      ·have hj:j=i:=by omega
       rw[hj,hc] at hd;cases hd;rfl) he]
    by_cases hkl:k<s.length
    ·have hlk:(k:Int)<(s.length:Int):=by omega
     obtain⟨c2,hc2,hb2⟩:=byte_at hkl;have hw2:=bA3 h0 hkl;by_cases h10:(c2.toNat:Int)=10
     ·refine rS_ Tryz.func45 ?_
      simp only[go_sem,seval,hlk,hb2,h10];refine hnx k q L _ ⟨hk,hstep (fun d hd=>by rw[hc2] at hd;cases hd;rw[bY1];simp[h10])⟩ (by omega) A7
     ·have hne:((c2.toNat:Int) != 10)=true:=by simp[h10]
      refine rS_ Tryz.func45 ?_;simp only[go_sem,seval,hlk,hb2,hne,hw2];refine hnk (k+1) _ ⟨by omega,by omega,fun j h1 h2 d hd=>?_⟩ (by omega) A7;rcases k_.1 h2 with h' | rfl
      ·exact hall j h1 h' d hd
      ·rw[hc2] at hd;cases hd;rw[bY1];simp[h10]
    ·obtain rfl:k=s.length:=by omega
     refine rS_ Tryz.func45 ?_;simp only[go_sem,seval];refine hnx s.length q L _ ⟨by omega,hstep (fun d hd=>by rw[D_ (m_ _)] at hd;cases hd)⟩ (by omega) A7
   ·by_cases hbk:bU5 c=true
    ·by_cases hpar:(c.toNat:Int)=40\/(c.toNat:Int)=41
     ·have hcp:c=40\/c=41:=hpar.imp (fun h=>(ap7 (n:=40) (by omega)).2 h) (fun h=>(ap7 (n:=41) (by omega)).2 h)
      have ht:=bB0 hc hcp;rw[ht] at hinv;have h1:=bX7 hc;have hLl2:=congrArg List.length hinv;simp only[c_,a_] at hLl2;have hl1:=ai7 _ (s.drop (i+1)) (m_ _);rw[hbk] at hbr;have b40:brI 40=true:=rfl;have b41:brI 41=true:=rfl;rcases hpar with hp | hp
      ·refine rS_ Tryz.func45 ?_
       simp only[go_sem,seval,hlt,hb,h59,hw,hbr,hp,b40,b41]
       repeat' (first|((first|refine(O1 _).calls rfl ?_|refine⟨sd,?_⟩)<;>(try simp only[go_sem,seval,hlt,hb,h59,hw,hbr,hp,b40,b41,h1,l8]))|fail)
       refine hnx (i+1) (q+1) (L++[[c]]) _ ⟨by omega,by rw[<-hinv];simp⟩ (by omega) (by refine⟨by simp[mkS,p8,y7,h1],by simp[mkS,p8,y7,h1],by simp only[mkS,b_,d_,O.refsLt,C.refsLt,C.refsLt1,l7];first | done | rfl | (simp;done),?_⟩;simp[mkS,Abs.get,C.refsLtT,C.refsLt,C.refsLt1])
      ·refine rS_ Tryz.func45 ?_
       simp only[go_sem,seval,hlt,hb,h59,hw,hbr,hp,b40,b41]
       repeat' (first|((first|refine(O1 _).calls rfl ?_|refine⟨sd,?_⟩)<;>(try simp only[go_sem,seval,hlt,hb,h59,hw,hbr,hp,b40,b41,h1,l8]))|fail)
       refine hnx (i+1) (q+1) (L++[[c]]) _ ⟨by omega,by rw[<-hinv];simp⟩ (by omega) (by refine⟨by simp[mkS,p8,y7,h1],by simp[mkS,p8,y7,h1],by simp only[mkS,b_,d_,O.refsLt,C.refsLt,C.refsLt1,l7];first | done | rfl | (simp;done),?_⟩;simp[mkS,Abs.get,C.refsLtT,C.refsLt,C.refsLt1])
     ·have hsp:c=32\/c=10:=by
       rw[<-by0] at hbk;unfold brI at hbk;simp only[Bool.or_eq_true,decide_eq_true_eq] at hbk;rcases hbk with (((h | h) | h) | h) | h
       ·exact .inl ((ap7 (n:=32) (by omega)).2 h)
       ·exact .inr ((ap7 (n:=10) (by omega)).2 h)
       ·exact absurd (.inl h) hpar
       ·exact absurd (.inr h) hpar
       ·exact absurd h h59
      have ht:=bM3 hc hsp;rw[ht] at hinv;have h40:¬(c.toNat:Int)=40:=fun h=>hpar (.inl h);have h41:¬(c.toNat:Int)=41:=fun h=>hpar (.inr h);rw[hbk] at hbr;refine rS_ Tryz.func45 ?_;simp only[go_sem,seval,hlt,hb,h59,hw,hbr,h40,h41]
      repeat' (first|refine(O1 _).calls rfl ?_<;>try simp only[go_sem,seval,hlt,hb,h59,hw,hbr,h40,h41]|fail)
      refine hnx (i+1) q L _ ⟨by omega,hinv⟩ (by omega) A7
    ·rw[C_] at hbk
     rw[hbk] at hbr;refine rS_ Tryz.func45 ?_;simp only[go_sem,seval,hlt,hb,h59,hw,hbr]
     repeat' (first|refine(O1 _).calls rfl ?_<;>try simp only[go_sem,seval,hlt,hb,h59,hw,hbr]|fail)
     refine AW.lp [0,4,5] (fun k:Nat=>[(6,.d (.int .i64 k))]) (fun H _=>H) (fun k=>i<k/\k<=s.length/\∀j,i<=j->j<k->∀c,s[j]? = some c->aG0 c=true) (fun k=>s.length - k) (i+1) ⟨by omega,by omega,fun j h1 h2 d hd=>by have hj:j=i:=(by omega);rw[hj,hc] at hd;cases hd;unfold aG0;rw[hbk];rfl⟩ A7 ?_;rintro k ⟨hik,hk,hall⟩ hnk;dsimp only at hik hk hall hnk |-;have hstep:(∀c,s[k]? = some c->aG0 c=false)->(L++[(s.take k).drop i])++toks (s.drop k)=toks s/\L.length+1<=100000:=fun he=>by
      rw[bn5 hc hbk hik hk hall he] at hinv;have:=congrArg List.length hinv;simp only[c_,a_] at this;exact⟨by rw[<-hinv];simp,by omega⟩
     by_cases hkl:k<s.length
     ·have hlk:(k:Int)<(s.length:Int):=by omega
      obtain⟨c2,hc2,hb2⟩:=byte_at hkl;have hw2:=bA3 h0 hkl;have hbr2:=by0 c2;cases hk2:bU5 c2 with
      | true =>
       rw[hk2] at hbr2;obtain⟨hs1,hs2⟩:=hstep (fun d hd=>by rw[hc2] at hd;cases hd;unfold aG0;rw[hk2];rfl);refine rS_ Tryz.func45 ?_;simp only[go_sem,seval,hlk,hb2,hbr2]
       repeat' (first|((first|refine(O1 _).calls rfl ?_|refine⟨sd,?_⟩)<;>(try simp only[go_sem,seval,hlk,hb2,hbr2,l8]))|fail)
       refine hnx k (q+1) (L++[(s.take k).drop i]) _ ⟨hk,hs1⟩ (by omega) (by refine⟨by simp[mkS,p8,y7],by simp[mkS,p8,y7],by simp only[mkS,b_,d_,O.refsLt,C.refsLt,C.refsLt1,l7];first | done | rfl | (simp;done),?_⟩;simp[mkS,Abs.get,C.refsLtT,C.refsLt,C.refsLt1])
      | false =>
       rw[hk2] at hbr2;refine rS_ Tryz.func45 ?_;simp only[go_sem,seval,hlk,hb2,hbr2,hw2]
       repeat' (first|refine(O1 _).calls rfl ?_<;>try simp only[go_sem,seval,hlk,hb2,hbr2,hw2]|fail)
       refine hnk (k+1) _ ⟨by omega,by omega,fun j h1 h2 d hd=>?_⟩ (by omega) A7;rcases k_.1 h2 with h' | rfl
       ·exact hall j h1 h' d hd
       ·rw[hc2] at hd;cases hd;unfold aG0;rw[hk2];rfl
     ·obtain rfl:k=s.length:=by omega
      obtain⟨hs1,hs2⟩:=hstep (fun d hd=>by rw[D_ (m_ _)] at hd;cases hd);refine rS_ Tryz.func45 ?_;simp only[go_sem,seval]
      repeat' (first|refine⟨sd,?_⟩<;>try simp only[go_sem,seval,l8]|fail)
      refine hnx s.length (q+1) (L++[(s.take s.length).drop i]) _ ⟨by omega,hs1⟩ (by omega) (by refine⟨by simp[mkS,p8,y7],by simp[mkS,p8,y7],by simp only[mkS,b_,d_,O.refsLt,C.refsLt,C.refsLt1,l7];first | done | rfl | (simp;done),?_⟩;simp[mkS,Abs.get,C.refsLtT,C.refsLt,C.refsLt1])
  ·obtain rfl:i=s.length:=by omega
   rw[bn6 (m_ _),List.append_nil] at hinv;refine rS_ Tryz.func45 ?_;simp only[go_sem,seval];refine AW.lp [0,4] (fun k:Nat=>[(7,.d (.int .i64 k))]) (fun H _=>H) (fun k=>k<=s.length/\∀j,j<k->∀c,s[j]? = some c->okB c=true) (fun k=>s.length - k) 0 ⟨q_ _,by omega⟩ (by refine⟨by simp[mkS,U2],by simp[mkS,U2],by simp only[mkS,b_,d_,O.refsLt,C.refsLt,C.refsLt1,l7];first | done | rfl | (simp;done),?_⟩;simp[mkS,Abs.get,C.refsLtT,C.refsLt,C.refsLt1]) ?_;rintro k ⟨hk,hall⟩ hnk;dsimp only at hk hall hnk |-;by_cases hkl:k<s.length
   ·have hlt:(k:Int)<(s.length:Int):=by omega
    obtain⟨c,hc,hb⟩:=byte_at hkl;have hw:=bA3 h0 hkl;have hnx:=fun (ho:okB c=true) s'=>hnk (k+1) s' ⟨by omega,fun j hj d hd=>by
     rcases k_.1 hj with h' | rfl
     ·exact hall j h' d hd
     ·rw[hc] at hd;cases hd;exact ho⟩ (by omega)
    clear hnk;have hok:=cn3 (c:=c);have hbad:okB c=false->aA3 s=none:=fun h=>by unfold aA3;rw[if_neg];rintro ⟨_,h2,_⟩;rw[bS4 hc h] at h2;cases h2
    rw[hok] at hbad hnx;obtain⟨b,hbb⟩:∃b:Int,(c.toNat:Int)=b:=⟨_,rfl⟩;have hb0:0<=b/\b<=255:=by have:=UInt8.toNat_lt c;omega
    rw[hbb] at hb hbad hnx;clear hok hc hbb hall;refine rS_ Tryz.func45 ?_;simp only[go_sem,seval,hlt,hb]
    repeat' (first|refine E8 ?_ ?_<;>intro hq<;>try simp only[go_sem,seval,hlt,hb,hw,hq]|simp(disch:=omega) only[l6]|refine hnx (by simp;omega) _ A7|refine(F8 _ _ _).calls rfl ?_<;>try simp only[go_sem,seval,hlt,hb,hw]|fail)
    all_goals (rw[hbad (by simp;omega)];rfl)
   ·obtain rfl:k=s.length:=by omega
    have hok:=bS7 hall;clear hall hnk;have hT:=bM4 h0 hok;by_cases hT2:(toks s).length<=20000
    ·have n2:¬(20000:Int)<(L.length:Int):=by rw[hinv];omega
     rw[hT,if_pos hT2,<-hinv];refine rS_ Tryz.func45 ?_;simp only[go_sem,seval,n2,l8];all_goals rfl
    ·have n2:(20000:Int)<(L.length:Int):=by rw[hinv];omega
     rw[hT,if_neg hT2];refine rS_ Tryz.func45 ?_;simp only[go_sem,seval,n2,l8];all_goals rfl
 ·have n0:(100000:Int)<(s.length:Int):=by omega
  rw[show aA3 s=none from by unfold aA3;rw[if_neg];rintro ⟨h,_⟩;exact h0 h];refine aE_ Tryz.func45 ?_;refine rS_ Tryz.func45 ?_;simp only[go_sem,seval,n0];all_goals rfl
def pIN (l:List UInt8):Int:=(V6 l).getD 0
def pIC (l:List UInt8):C:=.tup [.d (.int .i64 (pIN l)),.d (.bool (V6 l).isSome)]
theorem J2 {l:List UInt8} (h:V6 l=none):pIC l=.tup [.d (.int .i64 0),.d (.bool false)]:=by unfold pIC pIN;rw[h];rfl
theorem aj4 {l:List UInt8} {n:Int} (h:V6 l=some n):pIC l=.tup [.d (.int .i64 n),.d (.bool true)]:=by unfold pIC pIN;rw[h];rfl
theorem U8 (n:Int) (h0:0<=n) (h1:n<=9223372036854775807):Gives Tryz.prog 87 [.int .i64 n] (.d (.str (dec n))):=by
 have hmx:maxLen=9223372036854775807:=rfl;refine aE_ Tryz.func87 ?_;refine rS_ Tryz.func87 ?_;simp only[go_sem,seval]
 repeat' (first|refine E8 ?_ ?_<;>intro hq<;>try simp only[go_sem,seval,hq]|simp(disch:=omega) only[l6]|refine⟨sd,?_⟩<;>try simp only[go_sem,seval]|fail)
 ·exfalso;omega
 ·exfalso;omega
 refine AW.lp [] (fun p:Int×List UInt8=>[(0,.d (.int .i64 p.1)),(3,.d (.str p.2))]) (fun H _=>H) (fun p=>0<=p.1/\p.1<=n/\(p.2.length:Int)<=n - p.1/\Lib.decDigits p.1.toNat++p.2=dec n) (fun p=>p.1.toNat) (n,[]) ⟨by omega,by omega,by simp,by simp[X0 h0]⟩ I7 ?_;rintro ⟨m,acc⟩ ⟨i1,i2,i4,i3⟩ hnext;dsimp only at i1 i2 i3 i4 hnext;have hacc:acc.length<=21:=by
  have h3:=congrArg List.length i3;have h4:=aP9 (n:=n) (by omega) (by omega);rw[c_] at h3;omega
 by_cases hm:9<m
 ·have hd0:0<=m.tmod 10/\m.tmod 10<10/\(m.tmod 10).toNat=m.toNat % 10:=by
   rw[M_ (by omega)];omega
  have hq0:0<=m.tdiv 10/\m.tdiv 10<m/\(m.tdiv 10).toNat=m.toNat / 10:=by
   rw[z_ (by omega)];omega
  have hw8:IntKind.u8.wrap (48+m.tmod 10)=48+m.tmod 10:=by
   unfold IntKind.wrap;simp[IntKind.bits,IntKind.signed];omega
  refine rS_ Tryz.func87 ?_;simp only[go_sem,seval,hm,hw8,bytesOf]
  repeat' (first|simp(disch:=omega) only[l6]|refine⟨sd,?_⟩<;>try simp only[go_sem,seval,hm,hw8,bytesOf]|fail)
  refine hnext (m.tdiv 10,UInt8.ofNat (48+m.tmod 10).toNat :: acc) _ ⟨by omega,by omega,by simp only[a_];omega,?_⟩ (by dsimp only;omega) (by refine⟨by simp[mkS],by simp[mkS],by simp[mkS,O.refsLt],?_⟩;simp[mkS,Abs.get,C.refsLtT,C.refsLt,C.refsLt1]);dsimp only;rw[<-i3,hq0.2.2,Lib.decDigits.eq_def m.toNat,dif_neg (by omega),show (48+m.tmod 10).toNat=48+m.toNat % 10 by omega];simp
 ·have hw8:IntKind.u8.wrap (48+m)=48+m:=by
   unfold IntKind.wrap;simp[IntKind.bits,IntKind.signed];omega
  rw[Lib.decDigits.eq_def,dif_pos (by omega)] at i3;refine rS_ Tryz.func87 ?_;simp only[go_sem,seval,hm,hw8,bytesOf]
  repeat' (first|simp(disch:=omega) only[l6]|refine⟨sd,?_⟩<;>try simp only[go_sem,seval,hm,hw8,bytesOf]|fail)
  all_goals (rw[<-i3,show (48+m).toNat=48+m.toNat by omega];rfl)
theorem ai9:∀(k:Nat) (n:Int),n<0->-9223372036854775808<=n->n.natAbs<=k->Gives Tryz.prog 87 [.int .i64 n] (.d (.str (dec n))):=by
 intro k;induction k with
 | zero=>intro n h0 h1 hk;omega
 | succ k ih =>
  intro n h0 h1 hk;have hmx:maxLen=9223372036854775807:=rfl;obtain⟨m,hm⟩:∃m:Nat,n=-(m:Int):=⟨n.natAbs,by omega⟩;have e1:n.tdiv 10=-((m / 10:Nat):Int):=by rw[hm,Int.neg_tdiv,z_ (by omega)];omega
  have e2:n.tmod 10=-((m % 10:Nat):Int):=by rw[hm,Int.neg_tmod,M_ (by omega)];omega
  have hl:=aP9 (n:=n.tdiv 10) (by omega) (by omega);have hw:IntKind.i64.wrap (n.tdiv 10)=n.tdiv 10:=by
   unfold IntKind.wrap;simp[IntKind.bits,IntKind.signed];omega
  by_cases h9:-10<n
  ·have hw8:IntKind.u8.wrap (48 - n)=48 - n:=by
    unfold IntKind.wrap;simp[IntKind.bits,IntKind.signed];omega
   have hz:n.tdiv 10=0:=by omega
   rw[bR4 h0 h9];refine aE_ Tryz.func87 ?_;refine rS_ Tryz.func87 ?_;simp only[go_sem,seval,h0,hw,hw8,bytesOf]
   repeat' (first|refine E8 ?_ ?_<;>intro hq<;>try simp only[go_sem,seval,h0,hw,hw8,bytesOf,hq]|simp(disch:=omega) only[l6]|refine⟨sd,?_⟩<;>try simp only[go_sem,seval,h0,hw,hw8,bytesOf]|fail)
   all_goals first | exfalso;omega | rfl
  ·have hw8:IntKind.u8.wrap (48 - n.tmod 10)=48 - n.tmod 10:=by
    unfold IntKind.wrap;simp[IntKind.bits,IntKind.signed];omega
   have hz:¬n.tdiv 10=0:=by omega
   rw[bG7 h0 (by omega)];have hrec:=ih (n.tdiv 10) (by omega) (by omega) (by omega);generalize dec (n.tdiv 10)=N at hrec hl |-;refine aE_ Tryz.func87 ?_;refine rS_ Tryz.func87 ?_;simp only[go_sem,seval,h0,hw,hw8,bytesOf]
   repeat' (first|refine E8 ?_ ?_<;>intro hq<;>try simp only[go_sem,seval,h0,hw,hw8,bytesOf,hq]|simp(disch:=omega) only[l6]|((first|refine hrec.callQ rfl ?_|refine⟨sd,?_⟩)<;>(try simp only[go_sem,seval,h0,hw,hw8,bytesOf]))|fail)
   all_goals first | exfalso;omega | rfl
theorem X6 (n:Int) (h0:-9223372036854775808<=n) (h1:n<=9223372036854775807):Gives Tryz.prog 87 [.int .i64 n] (.d (.str (dec n))):=by
 by_cases h:n<0
 ·exact ai9 _ n h h0 (m_ _)
 ·exact U8 n (by omega) h1
theorem V4 (l:List UInt8) (hl:l.length<=1048576):Gives Tryz.prog 126 [.str l] (pIC l):=by
 have hmx:maxLen=9223372036854775807:=rfl;by_cases hneg:∃T,l=45 :: T
 ·obtain⟨T,hT⟩:=hneg
  have hTn:∀n,V6 l=some n->T=Lib.decDigits n.natAbs:=fun n hn=>(aL6 hT hn).2;have hng:∀n,V6 l=some n->n<0:=fun n hn=>(aL6 hT hn).1;have g1:(l.length:Int)=(T.length:Int)+1:=by rw[hT];simp
  have g2:((l[0]?.getD 0).toNat:Int)=45:=by rw[hT];rfl
  have g3:l.drop 1=T:=by rw[hT];rfl
  have g4:(0:Int)<(l.length:Int):=by omega
  have hlen:(T.length<1\/19<T.length)->V6 l=none:=fun h=>by
   cases hp:V6 l with
   | none=>rfl
   | some n =>
    exfalso;obtain⟨_,b0,b1⟩:=O6 hp;have h1:=bc5 (u:=n.natAbs) (by omega);rw[<-hTn n hp] at h1;omega
  by_cases hln:1<=T.length/\T.length<=19
  ·have n1:¬(T.length:Int)<1:=by omega
   have n2:¬(19:Int)<(T.length:Int):=by omega
   refine aE_ Tryz.func126 ?_;refine rS_ Tryz.func126 ?_;simp only[go_sem,seval,g4,g2,g3,n1,n2]
   repeat' (first|refine⟨sd,?_⟩<;>try simp only[go_sem,seval,g4,g2,g3,n1,n2]|fail)
   refine AW.lp [0,4,5] (fun u:Nat×Int=>[(7,.d (.int .i64 u.1)),(6,.d (.int .i64 u.2))]) (fun H _=>H) (fun u=>u.1<=T.length/\Rdg l T u.1 u.2) (fun u=>T.length - u.1) (0,0) ⟨q_ _,⟨by decide,by decide,fun n hn=>by simp[bc8]⟩⟩ A7 ?_;rintro ⟨i,acc⟩ ⟨hi,hR⟩ hnext;dsimp only at hi hR hnext |-;have hlo:=hR.lo;have hhi:=hR.hi;by_cases h:i<T.length
   ·have hlt:(i:Int)<(T.length:Int):=by omega
    obtain⟨c,hc,hb⟩:=byte_at h;have hbad:=hR.bad hTn hc;have hnx:=hR.next hTn hc;have hw1:IntKind.i64.wrap ((i:Int)+1)=((i+1:Nat):Int):=by simp(disch:=omega) only[l6];omega
    have hd0:0<=(c.toNat:Int)/\(c.toNat:Int)<=255:=by have:=UInt8.toNat_lt c;omega
    generalize (c.toNat:Int)=b at hb hbad hnx hd0;have hw2:IntKind.i64.wrap (b - 48)=b - 48:=by simp(disch:=omega) only[l6]
    have hw3:0<=b - 48->b - 48<=9->IntKind.i64.wrap (-9223372036854775808+(b - 48))=-9223372036854775808+(b - 48):=fun _ _=>by simp(disch:=omega) only[l6]
    by_cases hdg:(0:Int)<=b - 48/\b - 48<=9
    ·have hw3:=hw3 hdg.1 hdg.2
     have hdg1:=hdg.1;have hdg2:=hdg.2;have hqn:=aF5 (x:=-9223372036854775808+(b - 48)) (by omega);have hw4:IntKind.i64.wrap ((-9223372036854775808+(b - 48)).tdiv 10)=(-9223372036854775808+(b - 48)).tdiv 10:=by rw[hqn];simp(disch:=omega) only[l6]
     by_cases hq:acc<(-9223372036854775808+(b - 48)).tdiv 10
     ·rw[J2 (hbad (.inr hq))]
      refine rS_ Tryz.func126 ?_;simp only[go_sem,seval,hlt,hb,hw2,hdg1,hdg2,hw3,hw4,hq]
      repeat' (first|simp(disch:=omega) only[l6]|refine(F8 _ _ _).calls rfl ?_<;>try simp only[go_sem,seval,hlt,hb,hw2,hdg1,hdg2,hw3,hw4,hq]|fail)
     ·have hnx:=hnx hdg1 hdg2 hq
      have hq2:=hq;rw[hqn] at hq2;have hw5:IntKind.i64.wrap (acc * 10)=acc * 10:=by simp(disch:=omega) only[l6]
      have hw6:IntKind.i64.wrap (acc * 10 - (b - 48))=acc * 10 - (b - 48):=by simp(disch:=omega) only[l6]
      refine rS_ Tryz.func126 ?_;simp only[go_sem,seval,hlt,hb,hw2,hdg1,hdg2,hw3,hw4,hq,hw5,hw6,hw1]
      repeat' (first|simp(disch:=omega) only[l6]|refine(F8 _ _ _).calls rfl ?_<;>try simp only[go_sem,seval,hlt,hb,hw2,hdg1,hdg2,hw3,hw4,hq,hw5,hw6,hw1]|fail)
      refine hnext (i+1,acc * 10 - (b - 48)) _ ⟨by dsimp only;omega,hnx⟩ (by dsimp only;omega) A7
    ·have hdf:(decide (0<=b - 48) && decide (b - 48<=9))=false:=by simp only[E_,decide_eq_false_iff_not];omega
     rw[J2 (hbad (.inl hdg))];refine rS_ Tryz.func126 ?_;simp only[go_sem,seval,hlt,hb,hw2,hdf]
     repeat' (first|simp(disch:=omega) only[l6]|refine(F8 _ _ _).calls rfl ?_<;>try simp only[go_sem,seval,hlt,hb,hw2,hdf]|fail)
     all_goals first | exfalso;omega | skip
   ·obtain rfl:i=T.length:=by omega
    have hdn:=hR.done hTn;clear hnext hR;have hdec:=X6 acc hlo (by omega);by_cases he:dec acc=l
    ·have hp:V6 l=some acc:=by rw[<-he];exact ba6 hlo (by omega)
     rw[aj4 hp];refine rS_ Tryz.func126 ?_;simp only[go_sem,seval,he]
     repeat' (first|refine hdec.calls rfl ?_<;>try simp only[go_sem,seval,he]|fail)
    ·have hp:V6 l=none:=by
      cases hp:V6 l with
      | none=>rfl
      | some n =>
       exfalso;have h1:=hdn n hp;have h2:=hng n hp;have h3:=(O6 hp).1;rw[show acc=n from by omega] at he;exact he h3
     rw[J2 hp];refine rS_ Tryz.func126 ?_;simp only[go_sem,seval,he]
     repeat' (first|refine hdec.calls rfl ?_<;>try simp only[go_sem,seval,he]|fail)
  ·rw[J2 (hlen (by omega))]
   refine aE_ Tryz.func126 ?_;refine rS_ Tryz.func126 ?_;simp only[go_sem,seval,g4,g2,g3]
   repeat' (first|refine E8 ?_ ?_<;>intro hq<;>try simp only[go_sem,seval,g4,g2,g3,hq]|refine⟨sd,?_⟩<;>try simp only[go_sem,seval,g4,g2,g3]|fail)
   all_goals first | exfalso;omega | skip
 ·have hno:∀T,l≠45 :: T:=fun T h=>hneg ⟨T,h⟩
  obtain⟨T,hT⟩:∃T,l=T:=⟨l,rfl⟩;have hTn:∀n,V6 l=some n->T=Lib.decDigits n.natAbs:=fun n hn=>by rw[<-hT];exact(aL5 hno hn).2
  have hng:∀n,V6 l=some n->0<=n:=fun n hn=>(aL5 hno hn).1;have g1:(l.length:Int)=(T.length:Int):=by rw[hT]
  have hlen:(T.length<1\/19<T.length)->V6 l=none:=fun h=>by
   cases hp:V6 l with
   | none=>rfl
   | some n =>
    exfalso;obtain⟨_,b0,b1⟩:=O6 hp;have h1:=bc5 (u:=n.natAbs) (by omega);rw[<-hTn n hp] at h1;omega
  by_cases hln:1<=T.length/\T.length<=19
  ·have n1:¬(T.length:Int)<1:=by omega
   have n2:¬(19:Int)<(T.length:Int):=by omega
   have g4:(0:Int)<(l.length:Int):=by omega
   have g2:¬((l[0]?.getD 0).toNat:Int)=45:=by
    cases l with
    | nil=>simp at g4
    | cons c r =>
     intro h;have hc:c=45:=(ap7 (n:=45) (by omega)).2 (by simpa using h);exact hno r (by rw[hc])
   have g3:D.str l=D.str T:=by rw[hT]
   rw[show ([D.str l]:List D)=[D.str T] from by rw[hT]] at *;rw[hT] at g2 g4;refine aE_ Tryz.func126 ?_;refine rS_ Tryz.func126 ?_;simp only[go_sem,seval,g4,g2,n1,n2];refine AW.lp [0,4,5] (fun u:Nat×Int=>[(7,.d (.int .i64 u.1)),(6,.d (.int .i64 u.2))]) (fun H _=>H) (fun u=>u.1<=T.length/\Rdg l T u.1 u.2) (fun u=>T.length - u.1) (0,0) ⟨q_ _,⟨by decide,by decide,fun n hn=>by simp[bc8]⟩⟩ A7 ?_;rintro ⟨i,acc⟩ ⟨hi,hR⟩ hnext;dsimp only at hi hR hnext |-;have hlo:=hR.lo;have hhi:=hR.hi;by_cases h:i<T.length
   ·have hlt:(i:Int)<(T.length:Int):=by omega
    obtain⟨c,hc,hb⟩:=byte_at h;have hbad:=hR.bad hTn hc;have hnx:=hR.next hTn hc;have hw1:IntKind.i64.wrap ((i:Int)+1)=((i+1:Nat):Int):=by simp(disch:=omega) only[l6];omega
    have hd0:0<=(c.toNat:Int)/\(c.toNat:Int)<=255:=by have:=UInt8.toNat_lt c;omega
    generalize (c.toNat:Int)=b at hb hbad hnx hd0;have hw2:IntKind.i64.wrap (b - 48)=b - 48:=by simp(disch:=omega) only[l6]
    have hw3:0<=b - 48->b - 48<=9->IntKind.i64.wrap (-9223372036854775808+(b - 48))=-9223372036854775808+(b - 48):=fun _ _=>by simp(disch:=omega) only[l6]
    by_cases hdg:(0:Int)<=b - 48/\b - 48<=9
    ·have hw3:=hw3 hdg.1 hdg.2
     have hdg1:=hdg.1;have hdg2:=hdg.2;have hqn:=aF5 (x:=-9223372036854775808+(b - 48)) (by omega);have hw4:IntKind.i64.wrap ((-9223372036854775808+(b - 48)).tdiv 10)=(-9223372036854775808+(b - 48)).tdiv 10:=by rw[hqn];simp(disch:=omega) only[l6]
     by_cases hq:acc<(-9223372036854775808+(b - 48)).tdiv 10
     ·rw[J2 (hbad (.inr hq))]
      refine rS_ Tryz.func126 ?_;simp only[go_sem,seval,hlt,hb,hw2,hdg1,hdg2,hw3,hw4,hq]
      repeat' (first|simp(disch:=omega) only[l6]|refine(F8 _ _ _).calls rfl ?_<;>try simp only[go_sem,seval,hlt,hb,hw2,hdg1,hdg2,hw3,hw4,hq]|fail)
     ·have hnx:=hnx hdg1 hdg2 hq
      have hq2:=hq;rw[hqn] at hq2;have hw5:IntKind.i64.wrap (acc * 10)=acc * 10:=by simp(disch:=omega) only[l6]
      have hw6:IntKind.i64.wrap (acc * 10 - (b - 48))=acc * 10 - (b - 48):=by simp(disch:=omega) only[l6]
      refine rS_ Tryz.func126 ?_;simp only[go_sem,seval,hlt,hb,hw2,hdg1,hdg2,hw3,hw4,hq,hw5,hw6,hw1]
      repeat' (first|simp(disch:=omega) only[l6]|refine(F8 _ _ _).calls rfl ?_<;>try simp only[go_sem,seval,hlt,hb,hw2,hdg1,hdg2,hw3,hw4,hq,hw5,hw6,hw1]|fail)
      refine hnext (i+1,acc * 10 - (b - 48)) _ ⟨by dsimp only;omega,hnx⟩ (by dsimp only;omega) A7
    ·have hdf:(decide (0<=b - 48) && decide (b - 48<=9))=false:=by simp only[E_,decide_eq_false_iff_not];omega
     rw[J2 (hbad (.inl hdg))];refine rS_ Tryz.func126 ?_;simp only[go_sem,seval,hlt,hb,hw2,hdf]
     repeat' (first|simp(disch:=omega) only[l6]|refine(F8 _ _ _).calls rfl ?_<;>try simp only[go_sem,seval,hlt,hb,hw2,hdf]|fail)
     all_goals first | exfalso;omega | skip
   ·obtain rfl:i=T.length:=by omega
    have hdn:=hR.done hTn;clear hnext hR;by_cases hmin:acc=-9223372036854775808
    ·have hp:V6 l=none:=by
      cases hp:V6 l with
      | none=>rfl
      | some n =>
       exfalso;have h1:=hdn n hp;have h2:=hng n hp;obtain⟨_,b0,b1⟩:=O6 hp;omega
     rw[J2 hp];refine rS_ Tryz.func126 ?_;simp only[go_sem,seval,hmin]
    ·have hwn:IntKind.i64.wrap (0 - acc)=0 - acc:=by simp(disch:=omega) only[l6]
     have hdec:=X6 (0 - acc) (by omega) (by omega);by_cases he:dec (0 - acc)=T
     ·have hp:V6 l=some (0 - acc):=by rw[hT,<-he];exact ba6 (by omega) (by omega)
      rw[aj4 hp];refine rS_ Tryz.func126 ?_;simp only[go_sem,seval,he,hmin,hwn]
      repeat' (first|refine hdec.calls rfl ?_<;>try simp only[go_sem,seval,he,hmin,hwn]|fail)
     ·have hp:V6 l=none:=by
       cases hp:V6 l with
       | none=>rfl
       | some n =>
        exfalso;have h1:=hdn n hp;have h2:=hng n hp;have h3:=(O6 hp).1;rw[show 0 - acc=n from by omega,<-hT] at he;exact he h3
      rw[J2 hp];refine rS_ Tryz.func126 ?_;simp only[go_sem,seval,he,hmin,hwn]
      repeat' (first|refine hdec.calls rfl ?_<;>try simp only[go_sem,seval,he,hmin,hwn]|fail)
  ·rw[J2 (hlen (by omega))]
   have hlen2:l.length<1\/19<l.length:=by omega
   by_cases g4:(0:Int)<(l.length:Int)
   ·have g2:¬((l[0]?.getD 0).toNat:Int)=45:=by
     cases l with
     | nil=>simp at g4
     | cons c r =>
      intro h;have hc:c=45:=(ap7 (n:=45) (by omega)).2 (by simpa using h);exact hno r (by rw[hc])
    refine aE_ Tryz.func126 ?_;refine rS_ Tryz.func126 ?_;simp only[go_sem,seval,g4,g2]
    repeat' (first|refine E8 ?_ ?_<;>intro hq<;>try simp only[go_sem,seval,g4,g2,hq]|fail)
    all_goals first | exfalso;omega | skip
   ·refine aE_ Tryz.func126 ?_
    refine rS_ Tryz.func126 ?_;simp only[go_sem,seval,g4]
    repeat' (first|refine E8 ?_ ?_<;>intro hq<;>try simp only[go_sem,seval,g4,hq]|fail)
    all_goals first | exfalso;omega | skip
theorem bu1 (s:List UInt8):Gives Tryz.prog 134 [.str s] (.d (.agg (V.sym s).enc)):=by
 rw[V.enc_sym];refine aE_ Tryz.func134 ?_;refine rS_ Tryz.func134 ?_;simp only[go_sem,seval]
theorem aU0 (a b:V):Gives Tryz.prog 98 [.agg a.enc,.agg b.enc] (.d (.agg (V.pair a b).enc)):=by
 rw[V.enc_pair];refine aE_ Tryz.func98 ?_;refine rS_ Tryz.func98 ?_;simp only[go_sem,seval]
def aW5 (o:Option V):C:=match o with | some v=>.tup [.d (.agg v.enc),.d (.bool true)] | none=>.tup [.d (.agg [.int .i64 0,.int .i64 0,.str [],.sl []]),.d (.bool false)]
theorem Y5:aW5 none=.tup [.d (.agg [.int .i64 0,.int .i64 0,.str [],.sl []]),.d (.bool false)]:=rfl
theorem by8 (n:Int):aW5 (some (.var n))=.tup [.d (.agg [.int .i64 1,.int .i64 n,.str [],.sl []]),.d (.bool true)]:=rfl
theorem by9 (n:Int):aW5 (some (.num n))=.tup [.d (.agg [.int .i64 3,.int .i64 n,.str [],.sl []]),.d (.bool true)]:=rfl
theorem bp2 (n:Int):(Tm.mk 1 n [] []).v?.isSome=decide (0<=n/\n<=100000):=by
 rw[Tm.v?_mk];unfold mkV;by_cases h:0<=n/\n<=100000
 ·simp[h]
 ·have h2:0<=n->¬n<=100000:=fun a b=>h ⟨a,b⟩
  simp[h]
theorem bp3 (n:Int):(Tm.mk 3 n [] []).v?.isSome=decide (-1000000000<=n/\n<=1000000000):=by
 rw[Tm.v?_mk];unfold mkV;by_cases h:-1000000000<=n/\n<=1000000000
 ·simp[h]
 ·have h2:-1000000000<=n->¬n<=1000000000:=fun a b=>h ⟨a,b⟩
  simp[h]
theorem bY6 (k n:Int):wtL (Tm.mk k n [] []).enc=0:=by rw[Tm.enc_eq];simp[wtL,D.wt,wtR,Tm.args,Tm.name]
theorem bJ8 (k n:Int):(Tm.mk k n [] []).enc=[.int .i64 k,.int .i64 n,.str [],.sl []]:=by rw[Tm.enc_eq];rfl
theorem bi1 (t:List UInt8) (hl:t.length<=1048576):Gives Tryz.prog 163 [.str t] (aW5 (atom false t)):=by
 have hn:=ac8 t (by omega);by_cases h1:D7 t=true
 ·rw[h1] at hn
  rw[show atom false t=some (.sym t) from by unfold atom;rw[if_pos h1]];unfold aW5;refine aE_ Tryz.func163 ?_;refine rS_ Tryz.func163 ?_;simp only[go_sem,seval]
  repeat' (first|((first|refine hn.calls rfl ?_|refine(bu1 _).calls rfl ?_)<;>(try simp only[go_sem,seval]))|fail)
 ·have h1f:D7 t=false:=by simpa using h1
  rw[h1f] at hn;cases t with
  | nil =>
   have hp:=V4 [] (by simp);have hpn:V6 []=none:=by rfl
   rw[J2 hpn] at hp;rw[show atom false []=none from by unfold atom;rw[if_neg h1];simp[hpn]];unfold aW5;refine aE_ Tryz.func163 ?_;refine rS_ Tryz.func163 ?_;simp only[go_sem,seval]
   repeat' (first|((first|refine hn.calls rfl ?_|refine hp.calls rfl ?_)<;>(try simp only[go_sem,seval]))|fail)
  | cons c r =>
   obtain⟨l,hll⟩:∃l,(c :: r)=l:=⟨_,rfl⟩;have g1:(0:Int)<(l.length:Int):=by rw[<-hll,a_];omega
   have g3:l.drop 1=r:=by rw[<-hll];rfl
   have g4:(((l[0]?).getD 0).toNat:Int)=c.toNat:=by rw[<-hll];rfl
   have hrl:r.length<=1048576:=by rw[<-g3,t_];simp only[a_] at hl;rw[<-hll,a_];omega
   have hhd:l.head? = some c:=by rw[<-hll];rfl
   have htl:l.tail=r:=by rw[<-hll];rfl
   rw[hll] at hn h1 |-;have hl:l.length<=1048576:=by rw[<-hll];exact hl
   clear hll;by_cases h63:c=63
   ·have g2:(((l[0]?).getD 0).toNat:Int)=63:=by rw[g4,h63];rfl
    have hp:=V4 r hrl;have hat:atom false l=(match V6 r with | some n=>if 0<=n/\n<=100000 then some (.var n) else none | none=>none):=by
     unfold atom;rw[if_neg h1,if_pos (by rw[hhd,h63]),htl];all_goals rfl
    rw[hat];cases hpr:V6 r with
    | none =>
     rw[J2 hpr] at hp;dsimp only;rw[Y5];refine aE_ Tryz.func163 ?_;refine rS_ Tryz.func163 ?_;simp only[go_sem,seval,g1,g2,g3]
     repeat' (first|((first|refine hn.calls rfl ?_|refine hp.calls rfl ?_|refine⟨sd,?_⟩)<;>(try simp only[go_sem,seval,g1,g2,g3]))|fail)
    | some n =>
     rw[aj4 hpr] at hp;have hsh:=ag6 (Tm.mk 1 n [] []) (by rw[bY6];omega);rw[bJ8,bp2] at hsh;dsimp only;by_cases hb:0<=n/\n<=100000
     ·rw[if_pos hb,by8]
      rw[decide_eq_true hb] at hsh;refine aE_ Tryz.func163 ?_;refine rS_ Tryz.func163 ?_;simp only[go_sem,seval,g1,g2,g3]
      repeat' (first|((first|refine hn.calls rfl ?_|refine hp.calls rfl ?_|refine hsh.calls rfl ?_|refine⟨sd,?_⟩)<;>(try simp only[go_sem,seval,g1,g2,g3]))|fail)
     ·rw[if_neg hb,Y5]
      rw[decide_eq_false hb] at hsh;refine aE_ Tryz.func163 ?_;refine rS_ Tryz.func163 ?_;simp only[go_sem,seval,g1,g2,g3]
      repeat' (first|((first|refine hn.calls rfl ?_|refine hp.calls rfl ?_|refine hsh.calls rfl ?_|refine⟨sd,?_⟩)<;>(try simp only[go_sem,seval,g1,g2,g3]))|fail)
   ·have g2:¬(((l[0]?).getD 0).toNat:Int)=63:=fun h=>h63 ((ap7 (n:=63) (by omega)).2 (by rw[<-g4];exact h))
    have hp:=V4 l hl;have hat:atom false l=(match V6 l with | some n=>if false=true\/(-1000000000<=n/\n<=1000000000) then some (.num n) else none | none=>none):=by
     unfold atom;rw[if_neg h1,if_neg (by rw[hhd];intro h;exact h63 (Option.some.inj h))];rfl
    rw[hat];cases hpr:V6 l with
    | none =>
     rw[J2 hpr] at hp;dsimp only;rw[Y5];refine aE_ Tryz.func163 ?_;refine rS_ Tryz.func163 ?_;simp only[go_sem,seval,g1,g2]
     repeat' (first|((first|refine hn.calls rfl ?_|refine hp.calls rfl ?_)<;>(try simp only[go_sem,seval,g1,g2]))|fail)
    | some n =>
     rw[aj4 hpr] at hp;have hsh:=ag6 (Tm.mk 3 n [] []) (by rw[bY6];omega);rw[bJ8,bp3] at hsh;dsimp only;by_cases hb:-1000000000<=n/\n<=1000000000
     ·rw[if_pos (.inr hb),by9]
      rw[decide_eq_true hb] at hsh;refine aE_ Tryz.func163 ?_;refine rS_ Tryz.func163 ?_;simp only[go_sem,seval,g1,g2]
      repeat' (first|((first|refine hn.calls rfl ?_|refine hp.calls rfl ?_|refine hsh.calls rfl ?_)<;>(try simp only[go_sem,seval,g1,g2]))|fail)
     ·rw[if_neg (fun h=>h.elim (fun h=>by cases h) hb),Y5]
      rw[decide_eq_false hb] at hsh;refine aE_ Tryz.func163 ?_;refine rS_ Tryz.func163 ?_;simp only[go_sem,seval,g1,g2]
      repeat' (first|((first|refine hn.calls rfl ?_|refine hp.calls rfl ?_|refine hsh.calls rfl ?_)<;>(try simp only[go_sem,seval,g1,g2]))|fail)
theorem aC1 (l:List V) (t:V) (hl:l.length<=1048576):Gives Tryz.prog 164 [.sl (l.map V.enc),.agg t.enc] (.d (.agg (lst l t).enc)):=by
 refine aE_ Tryz.func164 ?_;refine rS_ Tryz.func164 ?_;simp only[go_sem,seval]
 repeat' (first|simp(disch:=omega) only[l6]|fail)
 refine AW.lp [0,3,4] (fun j:Nat=>[(5,.d (.int .i64 ((j:Int) - 1)))]) (fun _ j=>[.box ((lst (l.drop j) t).enc.map .d),.box [.d (.int .i64 0),.d (.int .i64 0),.d (.str []),.nil0]]) (fun j=>j<=l.length) (fun j=>j) l.length (m_ _) (by refine⟨by simp[mkS,lst],by simp[mkS,lst],by simp only[mkS,b_,d_,O.refsLt,C.refsLt,C.refsLt1,l7];first | done | rfl | (simp;done),?_⟩;simp[mkS,Abs.get,C.refsLtT,C.refsLt,C.refsLt1]) ?_;rintro j hj hnext;cases j with
 | zero =>
  refine rS_ Tryz.func164 ?_;simp only[go_sem,seval];all_goals (rw[List.drop_zero])
 | succ m =>
  have hm1:(m:Int)+1 - 1=m:=by omega
  obtain⟨x,hx⟩:∃x,l[m]? = some x:=⟨l[m],h_ hj⟩;have hdr:lst (l.drop m) t=.pair x (lst (l.drop (m+1)) t):=by
   obtain⟨h1,h2⟩:=e_.1 hx;rw[n_ h1,h2];rfl
  have hw:IntKind.i64.wrap ((m:Int) - 1)=(m:Int) - 1:=by simp(disch:=omega) only[l6]
  have hxe:(l.map V.enc)[m]? = some x.enc:=by rw[B_,hx];rfl
  refine l9 Tryz.func164 mixed 7 _ _ (by kernel_rfl) ?_;simp only[go_sem,seval,run.eq_1,hm1];refine AW.drawA mixed #[true,true,true,true,true,true,false] [(0,.box ((lst (l.drop (m+1)) t).enc.map .d))] [] [0,1,2,3,4,5] [6] none (by kernel_rfl) trivial (by simp[D8]) ?_;simp only[go_sem,seval,hm1,d9 hxe]
  repeat' (first|((first|refine(aU0 _ _).calls rfl ?_|refine⟨sd,?_⟩)<;>(try simp only[go_sem,seval,hm1,d9 hxe]))|fail)
  refine rS_ Tryz.func164 ?_;simp only[go_sem,seval]
  repeat' (first|simp(disch:=omega) only[l6]|fail)
  refine hnext m _ (by omega) (by omega) (by refine⟨by simp[mkS,hdr],by simp[mkS,hdr],by simp only[mkS,b_,d_,O.refsLt,C.refsLt,C.refsLt1,l7];first | done | rfl | (simp;done),?_⟩;simp[mkS,Abs.get,C.refsLtT,C.refsLt,C.refsLt1])
def nilD:List D:=[.int .i64 0,.int .i64 0,.str [],.sl []]
def rdC (o:Option (V×Nat)):C:=match o with | some (v,j)=>.tup [.d (.agg v.enc),.d (.int .i64 j),.d (.bool true)] | none=>.tup [.d (.agg [.int .i64 0,.int .i64 0,.str [],.sl []]),.d (.int .i64 0),.d (.bool false)]
theorem ad2:rdC none=.tup [.d (.agg [.int .i64 0,.int .i64 0,.str [],.sl []]),.d (.int .i64 0),.d (.bool false)]:=rfl
theorem ba2 (v:V) (j:Nat):rdC (some (v,j))=.tup [.d (.agg v.enc),.d (.int .i64 j),.d (.bool true)]:=rfl
def rdG (T:List (List UInt8)) (n i:Nat):Prop:=match rdT false T n i with
 | some (v,j)=>Gives Tryz.prog 129 [.sl (U2 T),.int .i64 i] (.tup [.d (.agg v.enc),.d (.int .i64 j),.d (.bool true)])
 | none=>∃k:Int,Gives Tryz.prog 129 [.sl (U2 T),.int .i64 i] (.tup [.d (.agg [.int .i64 0,.int .i64 0,.str [],.sl []]),.d (.int .i64 k),.d (.bool false)])
theorem aF4 {T:List (List UInt8)} {n i:Nat} {v:V} {j:Nat} (h:rdT false T n i=some (v,j)) (g:rdG T n i):Gives Tryz.prog 129 [.sl (U2 T),.int .i64 i] (.tup [.d (.agg v.enc),.d (.int .i64 j),.d (.bool true)]):=by
 unfold rdG at g;rw[h] at g;exact g
theorem ba1 {T:List (List UInt8)} {n i:Nat} (h:rdT false T n i=none) (g:rdG T n i):∃k:Int,Gives Tryz.prog 129 [.sl (U2 T),.int .i64 i] (.tup [.d (.agg [.int .i64 0,.int .i64 0,.str [],.sl []]),.d (.int .i64 k),.d (.bool false)]):=by
 unfold rdG at g;rw[h] at g;exact g
theorem aN2 (T:List (List UInt8)) (hTl:T.length<=20000) (n i:Nat) (hi:T[i]? = some [40]) (hn:2 * (T.length - i)+1<=n+1) (ih:∀m,m<=n->∀i,i<=T.length->2 * (T.length - i)+1<=m->rdG T m i) :
  Gives Tryz.prog 129 [.sl (U2 T),.int .i64 i] (rdC (rdL false T n (i+1) [])):=by
 have hmx:maxLen=9223372036854775807:=rfl;have hil:=(e_.1 hi).1;have n0:¬(T.length:Int)<=(i:Int):=by omega
 have hix:=F7 hi;have hw:IntKind.i64.wrap ((i:Int)+1)=((i+1:Nat):Int):=by simp(disch:=omega) only[l6];omega
 obtain⟨R,hR⟩:∃R,rdL false T n (i+1) []=R:=⟨_,rfl⟩;rw[hR];refine aE_ Tryz.func129 ?_;refine rS_ Tryz.func129 ?_;simp only[go_sem,seval,n0,l8,d9 hix,hw]
 repeat' (first|refine⟨sd,?_⟩<;>try simp only[go_sem,seval,n0,l8,d9 hix,hw]|fail)
 refine AW.adopt 9 4 47 (by decide) rfl ?_;refine AW.lp [0,4] (fun u:Nat×Nat×Nat×List V=>[(1,.d (.int .i64 u.2.1)),(9,.own 1 u.2.2.1)]) (fun _ u=>[.box [.d (.int .i64 0),.d (.int .i64 0),.d (.str []),.nil0],.grow u.2.2.1 4 47 (u.2.2.2.map V.enc)]) (fun u=>u.1<=n/\u.2.1<=T.length/\2 * (T.length - u.2.1)+2<=u.1/\rdL false T u.1 u.2.1 u.2.2.2=R/\u.2.2.2.length<=u.2.1) (fun u=>T.length - u.2.1) (n,i+1,0,[]) ⟨m_ _,by dsimp only;omega,by dsimp only;omega,hR,by simp⟩ A7 ?_;rintro ⟨m,j,q,L⟩ ⟨hm,hj,hf,hi2,hL⟩ hnext;dsimp only at hm hj hf hi2 hL hnext |-;obtain⟨m,rfl⟩:∃m',m=m'+1:=⟨m - 1,by omega⟩;have hwj:IntKind.i64.wrap ((j:Int)+1)=((j+1:Nat):Int):=by simp(disch:=omega) only[l6];omega
 have hmap:∀x:List V,(x.map V.enc).length=x.length:=fun x=>o_ _;cases hTj:T[j]? with
 | none =>
  rw[bD3 hTj] at hi2;have hjl:=A_.1 hTj;have n1:¬(j:Int)<(T.length:Int):=by omega
  have n2:(T.length:Int)<=(j:Int):=by omega
  rw[<-hi2,ad2];refine rS_ Tryz.func129 ?_;simp only[go_sem,seval,n1,n2,l8]
 | some t =>
  have hjl:=(e_.1 hTj).1;have n1:(j:Int)<(T.length:Int):=by omega
  have n2:¬(T.length:Int)<=(j:Int):=by omega
  have hjx:=F7 hTj;by_cases h41:t=[41]
  ·subst h41
   rw[bN1 hTj] at hi2;refine AW.readG 9 1 rfl rfl ?_;have hl:=aC1 L .nil (by omega);rw[V.enc_nil] at hl;rw[<-hi2,ba2];refine rS_ Tryz.func129 ?_;simp only[go_sem,seval,n1,n2,l8,d9 hjx,hwj]
   repeat' (first|refine hl.calls rfl ?_<;>try simp only[go_sem,seval,n1,n2,l8,d9 hjx,hwj]|fail)
  ·by_cases h46:t=[46]
   ·subst h46
    rw[bN2 hTj] at hi2;refine AW.readG 9 1 rfl rfl ?_;have hg:=ih m (by omega) (j+1) (by omega) (by omega);cases hr:rdT false T m (j+1) with
    | none =>
     rw[hr] at hi2;obtain⟨k,hk⟩:=ba1 hr hg;rw[<-hi2,ad2];refine rS_ Tryz.func129 ?_;simp only[go_sem,seval,n1,n2,l8,d9 hjx,hwj]
     repeat' (first|refine hk.calls rfl ?_<;>try simp only[go_sem,seval,n1,n2,l8,d9 hjx,hwj]|fail)
    | some x =>
     obtain⟨v,j2⟩:=x;rw[hr] at hi2;dsimp only at hi2;have hk:=aF4 hr hg;have hb:=(aL2 false T m).1 _ _ _ hr;have hl:=aC1 L v (by omega);have hw2:IntKind.i64.wrap ((j2:Int)+1)=((j2+1:Nat):Int):=by simp(disch:=omega) only[l6];omega
     by_cases hL0:L=[]
     ·rw[if_neg (fun h=>h.1 hL0)] at hi2
      have hl0:(L.length:Int)=0:=by rw[hL0];rfl
      rw[<-hi2,ad2];refine rS_ Tryz.func129 ?_;simp only[go_sem,seval,n1,n2,l8,d9 hjx,hwj]
      repeat' (first|refine hk.calls rfl ?_<;>try simp only[go_sem,seval,n1,n2,l8,d9 hjx,hwj,hl0,hmap]|fail)
     ·have hl0:¬(L.length:Int)=0:=fun h=>hL0 (w_ (by omega))
      cases hT2:T[j2]? with
      | none =>
       rw[if_neg (fun h=>by rw[hT2] at h;cases h.2)] at hi2;have hjl2:=A_.1 hT2;have n3:(T.length:Int)<=(j2:Int):=by omega
       rw[<-hi2,ad2];refine rS_ Tryz.func129 ?_;simp only[go_sem,seval,n1,n2,n3,l8,d9 hjx,hwj]
       repeat' (first|refine hk.calls rfl ?_<;>try simp only[go_sem,seval,n1,n2,n3,l8,d9 hjx,hwj,hl0,hmap]|fail)
      | some t2 =>
       have hjl2:=(e_.1 hT2).1;have n3:¬(T.length:Int)<=(j2:Int):=by omega
       have n4:(j2:Int)<(T.length:Int):=by omega
       have hjx2:=F7 hT2;by_cases h2:t2=[41]
       ·subst h2
        rw[if_pos ⟨hL0,hT2⟩] at hi2;rw[<-hi2,ba2];refine rS_ Tryz.func129 ?_;simp only[go_sem,seval,n1,n2,n3,l8,d9 hjx,hwj,d9 hjx2]
        repeat' (first|((first|refine hk.calls rfl ?_|refine hl.calls rfl ?_|refine⟨sd,?_⟩)<;>(try simp only[go_sem,seval,n1,n2,n3,l8,d9 hjx,hwj,hl0,hmap,d9 hjx2,hw2]))|fail)
        all_goals omega
       ·rw[if_neg (fun h=>by rw[hT2] at h;exact h2 (Option.some.inj h.2))] at hi2
        rw[<-hi2,ad2];refine rS_ Tryz.func129 ?_;simp only[go_sem,seval,n1,n2,n3,l8,d9 hjx,hwj,d9 hjx2]
        repeat' (first|refine hk.calls rfl ?_<;>try simp only[go_sem,seval,n1,n2,n3,l8,d9 hjx,hwj,hl0,hmap,d9 hjx2,hw2,h2]|assumption)
   ·rw[bD4 hTj h41 h46] at hi2
    have hg:=ih m (by omega) j (by omega) (by omega);cases hr:rdT false T m j with
    | none =>
     rw[hr] at hi2;obtain⟨k,hk⟩:=ba1 hr hg;rw[<-hi2,ad2];refine rS_ Tryz.func129 ?_;simp only[go_sem,seval,n1,n2,l8,d9 hjx,h41,h46]
     repeat' (first|refine hk.calls rfl ?_<;>try simp only[go_sem,seval,n1,n2,l8,d9 hjx,h41,h46]|fail)
    | some x =>
     obtain⟨v,j2⟩:=x;rw[hr] at hi2;dsimp only at hi2;have hk:=aF4 hr hg;have hb:=(aL2 false T m).1 _ _ _ hr;refine rS_ Tryz.func129 ?_;simp only[go_sem,seval,n1,n2,l8,d9 hjx,h41,h46]
     repeat' (first|((first|refine hk.calls rfl ?_|refine⟨sd,?_⟩)<;>(try simp only[go_sem,seval,n1,n2,l8,d9 hjx,h41,h46,hmap]))|fail)
     refine hnext (m,j2,q+1,L++[v]) _ ⟨by dsimp only;omega,by dsimp only;omega,by dsimp only;omega,hi2,by simp;omega⟩ (by dsimp only;omega) A7
theorem bi0 (T:List (List UInt8)) (hTl:T.length<=20000) (hTm:∀t,t∈T->t.length<=100000):∀n i,i<=T.length->2 * (T.length - i)+1<=n->rdG T n i:=by
 intro n;induction n using Nat.strongRecOn with
 | ind n ih =>
  intro i hi hf;obtain⟨n,rfl⟩:∃n',n=n'+1:=⟨n - 1,by omega⟩;have hmx:maxLen=9223372036854775807:=rfl;unfold rdG;cases hTi:T[i]? with
  | none =>
   rw[bD1 hTi];have hil:=A_.1 hTi;have n0:(T.length:Int)<=(i:Int):=by omega
   refine⟨0,?_⟩;refine aE_ Tryz.func129 ?_;refine rS_ Tryz.func129 ?_;simp only[go_sem,seval,n0,l8]
  | some t =>
   have hil:=(e_.1 hTi).1;have n0:¬(T.length:Int)<=(i:Int):=by omega
   have hix:=F7 hTi;by_cases h41:t=[41]
   ·rw[br0 hTi (.inl h41)]
    subst h41;refine⟨0,?_⟩;refine aE_ Tryz.func129 ?_;refine rS_ Tryz.func129 ?_;simp only[go_sem,seval,n0,l8,d9 hix];all_goals omega
   ·by_cases h46:t=[46]
    ·rw[br0 hTi (.inr h46)]
     subst h46;refine⟨0,?_⟩;refine aE_ Tryz.func129 ?_;refine rS_ Tryz.func129 ?_;simp only[go_sem,seval,n0,l8,d9 hix];all_goals omega
    ·by_cases h40:t=[40]
     ·subst h40
      rw[bD0 hTi];have h:=aN2 T hTl n i hTi hf (fun m hm i hi hf=>ih m (by omega) i hi hf);cases hR:rdL false T n (i+1) [] with
      | none=>rw[hR] at h;exact⟨0,h⟩
      | some x=>obtain⟨v,j⟩:=x;rw[hR] at h;exact h
     ·rw[bD2 hTi (fun h=>h.elim h41 h46) h40]
      have ha:=bi1 t (by have:=hTm t (f_ hTi);omega);have hw:IntKind.i64.wrap ((i:Int)+1)=((i+1:Nat):Int):=by simp(disch:=omega) only[l6];omega
      cases hat:atom false t with
      | none =>
       rw[hat,Y5] at ha;refine⟨((i+1:Nat):Int),?_⟩;refine aE_ Tryz.func129 ?_;refine rS_ Tryz.func129 ?_;simp only[go_sem,seval,n0,l8,d9 hix,h41,h46,h40,hw]
       repeat' (first|((first|refine ha.calls rfl ?_|refine⟨sd,?_⟩)<;>(try simp only[go_sem,seval,n0,l8,d9 hix,h41,h46,h40,hw]))|fail)
      | some v =>
       rw[hat] at ha;unfold aW5 at ha;dsimp only at ha;dsimp only;refine aE_ Tryz.func129 ?_;refine rS_ Tryz.func129 ?_;simp only[go_sem,seval,n0,l8,d9 hix,h41,h46,h40,hw]
       repeat' (first|((first|refine ha.calls rfl ?_|refine⟨sd,?_⟩)<;>(try simp only[go_sem,seval,n0,l8,d9 hix,h41,h46,h40,hw]))|fail)
theorem aM8:Gives Tryz.prog 128 [] (.d (.sl (U2 ab9))):=by
 refine aE_ Tryz.func128 ?_;refine rS_ Tryz.func128 ?_;simp only[go_sem,seval];all_goals rfl
theorem bh5 (T:List (List UInt8)) (hTl:T.length<=20000) (hTm:∀t,t∈T->t.length<=100000):∀(n i:Nat) (G:Gl) (J:Nat),i<=T.length->rgT T n i=some (G,J)->Gives Tryz.prog 88 [.sl (U2 T),.int .i64 i] (.tup [.d (.agg G.enc),.d (.int .i64 J),.d (.bool true)]):=by
 intro n;induction n using Nat.strongRecOn with
 | ind n ih =>
  intro i G J hi hR;have hmx:maxLen=9223372036854775807:=rfl;obtain⟨n,rfl⟩:∃n',n=n'+1:=by
   cases n with
   | zero=>rw[rgT] at hR;cases hR
   | succ n=>exact⟨n,rfl⟩
  cases hTi:T[i]? with
  | none=>rw[rgT,hTi] at hR;cases hR
  | some t =>
   have hil:=(e_.1 hTi).1;have n0:(i:Int)<(T.length:Int):=by omega
   have hix:=F7 hTi;have hw1:IntKind.i64.wrap ((i:Int)+1)=((i+1:Nat):Int):=by simp(disch:=omega) only[l6];omega
   have e0:U4 0=[116,114,117,101]:=rfl;have e1:U4 1=[102,97,105,108]:=rfl;have d1:¬([102,97,105,108]:List UInt8)=[116,114,117,101]:=by decide
   have d2:¬([40]:List UInt8)=[116,114,117,101]:=by decide
   have d3:¬([40]:List UInt8)=[102,97,105,108]:=by decide
   rcases aZ5 hR hTi with ⟨h0,rfl,rfl⟩ | ⟨h0,h1,rfl,rfl⟩ | ⟨h0,h1,h4,w,hw,hL⟩
   ·rw[e0] at h0
    subst h0;have hE:(Gl.mk 0 [] [] []).enc=[.int .i64 0,.str [],.sl [],.sl []]:=rfl;rw[hE];refine aE_ Tryz.func88 ?_;refine rS_ Tryz.func88 ?_;simp only[go_sem,seval,n0,l8,d9 hix,hw1]
   ·rw[e1] at h1
    subst h1;have hE:(Gl.mk 1 [] [] []).enc=[.int .i64 1,.str [],.sl [],.sl []]:=rfl;rw[hE];refine aE_ Tryz.func88 ?_;refine rS_ Tryz.func88 ?_;simp only[go_sem,seval,n0,l8,d9 hix,hw1,d1]
   ·subst h4
    have hwl:=(e_.1 hw).1;have hwx:=F7 hw;have n2:(i:Int)+1<(T.length:Int):=by omega
    have n3:¬(T.length:Int)<=(i:Int)+1:=by omega
    have hw2:IntKind.i64.wrap ((i:Int)+2)=((i+2:Nat):Int):=by simp(disch:=omega) only[l6];omega
    have hhl:∀x:List (List UInt8),(U2 x).length=x.length:=fun x=>l8 x;have hwi:((i:Int)+1).toNat=i+1:=by omega
    refine aE_ Tryz.func88 ?_;refine rS_ Tryz.func88 ?_;simp only[go_sem,seval,n0,n2,n3,l8,d9 hix,d9 hwx,hw1,d2,d3,hwi]
    repeat' (first|((first|refine(aM8).calls rfl ?_|refine⟨sd,?_⟩)<;>(try simp only[go_sem,seval,n0,n2,n3,l8,d9 hix,d9 hwx,hw1,d2,d3,hwi]))|fail)
    refine AW.rng ab9 [0,1,4,7,63,64] 65 63 (fun s:Int×List UInt8=>[]) (fun _ s=>[.box [.d (.int .i64 0),.d (.str []),.nil0,.nil0],.box [.d (.int .i64 s.1),.d (.str s.2),.nil0,.nil0]]) (fun r s=>hdF w r (ab9.length - r.length) s=hdF w ab9 0 (9,w)) (9,w) rfl (by simp[l8]) (by simp) A7 (fun k x r s hxk hdr hlt hm hinv hnext=>?_) (fun s hinv=>?_)
    ·have hkl:=congrArg List.length hdr
     simp only[t_,a_] at hkl;have hkk:ab9.length - (r.length+1)=k:=by omega
     simp only[hdF,a_,hkk] at hinv;have hk1:ab9.length - r.length=k+1:=by omega
     have hxx:=F7 hxk;by_cases e:x=w
     ·rw[if_pos e] at hinv
      subst e;refine rS_ Tryz.func88 ?_;simp only[go_sem,seval,hlt,l8,d9 hxx,n2,d9 hwx,hw1,hwi]
      repeat' (first|simp(disch:=omega) only[l6]|refine⟨sd,?_⟩<;>try simp only[go_sem,seval,hlt,l8,d9 hxx,n2,d9 hwx,hw1,hwi]|fail)
      all_goals refine hnext ((k:Int),[]) _ (by rw[hk1];exact hinv) A7
     ·rw[if_neg e] at hinv
      refine rS_ Tryz.func88 ?_;simp only[go_sem,seval,hlt,l8,d9 hxx,n2,d9 hwx,hw1,e,hwi]
      repeat' (first|simp(disch:=omega) only[l6]|refine⟨sd,?_⟩<;>try simp only[go_sem,seval,hlt,l8,d9 hxx,n2,d9 hwx,hw1,e,hwi]|fail)
      all_goals refine hnext s _ (by rw[hk1];exact hinv) A7
    ·simp only[hdF] at hinv
     subst hinv;have hge:(aU7 w).kind=(hdF w ab9 0 (9,w)).1/\(aU7 w).name=(hdF w ab9 0 (9,w)).2/\(aU7 w).terms=[]/\(aU7 w).goals=[]:=⟨rfl,rfl,rfl,rfl⟩;generalize hdF w ab9 0 (9,w)=s at hge |-;generalize aU7 w=g0 at hL hge;refine AW.adoptGB 1 2 4 47 (by decide) rfl rfl ?_;refine AW.adoptGB 1 3 4 92 (by decide) rfl rfl ?_;have hw2':IntKind.i64.wrap ((i:Int)+2)=((i+2:Nat):Int):=hw2;refine rS_ Tryz.func88 ?_;simp only[go_sem,seval,hw2];refine AW.lp [0,4,7] (fun u:Nat×Nat×Gl×Nat×Nat=>[(1,.d (.int .i64 (u.2.1:Int)))]) (fun _ u=>[.box [.d (.int .i64 0),.d (.str []),.nil0,.nil0],.box [.d (.int .i64 u.2.2.1.kind),.d (.str u.2.2.1.name),.own 2 u.2.2.2.1,.own 3 u.2.2.2.2],.grow u.2.2.2.1 4 47 (u.2.2.1.terms.map Tm.enc),.grow u.2.2.2.2 4 92 (u.2.2.1.goals.map Gl.enc)]) (fun u=>u.1<=n/\u.2.1<=T.length/\rgL T u.1 u.2.1 u.2.2.1=some (G,J)/\u.2.2.1.terms.length+u.2.2.1.goals.length<=u.2.1) (fun u=>u.1) (n,i+2,g0,0,0) ⟨m_ _,by dsimp only;omega,hL,by dsimp only;rw[hge.2.2.1,hge.2.2.2];simp⟩ (by refine⟨by simp[mkS,hge.1,hge.2.1,hge.2.2.1,hge.2.2.2],by simp[mkS,hge.1,hge.2.1,hge.2.2.1,hge.2.2.2],by simp only[mkS,b_,d_,O.refsLt,C.refsLt,C.refsLt1,l7];first | done | rfl | (simp;done),?_⟩;simp[mkS,Abs.get,C.refsLtT,C.refsLt,C.refsLt1,hge.1,hge.2.1,hge.2.2.1,hge.2.2.2]) ?_;rintro ⟨m,j,g,q1,q2⟩ ⟨hm,hj,hrl,hgl⟩ hnext;dsimp only at hm hj hrl hgl hnext |-;obtain⟨m,rfl⟩:∃m',m=m'+1:=by
      cases m with
      | zero=>rw[rgL] at hrl;cases hrl
      | succ m=>exact⟨m,rfl⟩
     obtain⟨t,hTj,hk⟩:=aZ6 hrl;have hjl:=(e_.1 hTj).1;have hjx:=F7 hTj;have m1:(j:Int)<(T.length:Int):=by omega
     have hwj:IntKind.i64.wrap ((j:Int)+1)=((j+1:Nat):Int):=by simp(disch:=omega) only[l6];omega
     have hnx:=fun m' j' g' a b s'=>hnext (m',j',g',a,b) s';clear hnext;rcases hk with ⟨h41,hk1,rfl,rfl⟩ | ⟨h41,hne,x,k,h1,h2⟩ | ⟨h41,hne,v,k,h1,h2⟩
     ·subst h41
      rw[Gl.enc_eq];refine l9 Tryz.func88 mixed 6 _ _ (by kernel_rfl) ?_;simp only[go_sem,seval,run.eq_1,m1,l8,d9 hjx,hwj,hk1];refine AW.drawA mixed #[true,true,true,true,true,true,true,true,true,true,true,true,true,true,true] [(1,.box [.d (.int .i64 G.kind),.d (.str G.name),.own 2 q1,.own 3 q2])] [] [0,1,2,3,4,5,6,7,8,9,10,11,12,13,14] [] none (by kernel_rfl) trivial (by simp[D8]) ?_;simp only[go_sem,seval,m1,hwj,hk1,l8];refine rS_ Tryz.func88 ?_;simp only[go_sem,seval]
     ·have hr:=ih m (by omega) j x k hj h1
      have hb:=(bJ1 T m).1 _ _ _ h1;have hXe:x.enc=[.int .i64 x.kind,.str x.name,.sl (x.terms.map Tm.enc),.sl (x.goals.map Gl.enc)]:=Gl.enc_eq x;have e1:(g.addG x).kind=g.kind:=rfl;have e2:(g.addG x).name=g.name:=rfl;have e3:(g.addG x).terms=g.terms:=rfl;have e4:(g.addG x).goals=g.goals++[x]:=rfl;unfold Gl.nest at hne;simp only[Bool.or_eq_true,decide_eq_true_eq] at hne;rcases(show g.kind=7\/(¬g.kind=7/\g.kind=8)\/(¬g.kind=7/\¬g.kind=8/\g.kind=10) by omega) with k7 | ⟨k7,k8⟩ | ⟨k7,k8,k10⟩
      ·refine rS_ Tryz.func88 ?_
       simp only[go_sem,seval,m1,l8,d9 hjx,h41,k7]
       repeat' (first|((first|refine hr.calls rfl ?_|refine⟨sd,?_⟩)<;>(try simp only[go_sem,seval,m1,l8,d9 hjx,h41,k7]))|fail)
       all_goals refine hnx m k (g.addG x) q1 (q2+1) _ ⟨by dsimp only;omega,hb.2,h2,by rw[e3,e4,c_];dsimp only[a_,g_];omega⟩ (by dsimp only;omega) (by refine⟨by simp[mkS,e1,e2,e3,e4,hXe,k7],by simp[mkS,e1,e2,e3,e4,hXe,k7],by simp only[mkS,b_,d_,O.refsLt,C.refsLt,C.refsLt1,l7];first | done | rfl | (simp;done),?_⟩;simp[mkS,Abs.get,C.refsLtT,C.refsLt,C.refsLt1,e1,e2,e3,e4,hXe,k7])
      ·refine rS_ Tryz.func88 ?_
       simp only[go_sem,seval,m1,l8,d9 hjx,h41,k7,k8]
       repeat' (first|((first|refine hr.calls rfl ?_|refine⟨sd,?_⟩)<;>(try simp only[go_sem,seval,m1,l8,d9 hjx,h41,k7,k8]))|fail)
       all_goals refine hnx m k (g.addG x) q1 (q2+1) _ ⟨by dsimp only;omega,hb.2,h2,by rw[e3,e4,c_];dsimp only[a_,g_];omega⟩ (by dsimp only;omega) (by refine⟨by simp[mkS,e1,e2,e3,e4,hXe,k8],by simp[mkS,e1,e2,e3,e4,hXe,k8],by simp only[mkS,b_,d_,O.refsLt,C.refsLt,C.refsLt1,l7];first | done | rfl | (simp;done),?_⟩;simp[mkS,Abs.get,C.refsLtT,C.refsLt,C.refsLt1,e1,e2,e3,e4,hXe,k8])
      ·refine rS_ Tryz.func88 ?_
       simp only[go_sem,seval,m1,l8,d9 hjx,h41,k7,k8,k10]
       repeat' (first|((first|refine hr.calls rfl ?_|refine⟨sd,?_⟩)<;>(try simp only[go_sem,seval,m1,l8,d9 hjx,h41,k7,k8,k10]))|fail)
       all_goals refine hnx m k (g.addG x) q1 (q2+1) _ ⟨by dsimp only;omega,hb.2,h2,by rw[e3,e4,c_];dsimp only[a_,g_];omega⟩ (by dsimp only;omega) (by refine⟨by simp[mkS,e1,e2,e3,e4,hXe,k10],by simp[mkS,e1,e2,e3,e4,hXe,k10],by simp only[mkS,b_,d_,O.refsLt,C.refsLt,C.refsLt1,l7];first | done | rfl | (simp;done),?_⟩;simp[mkS,Abs.get,C.refsLtT,C.refsLt,C.refsLt1,e1,e2,e3,e4,hXe,k10])
     ·have hg:=bi0 T hTl hTm (2 * (T.length - j)+1) j hj (m_ _)
      have hr:=aF4 h1 hg;have hb:=(aL2 false T _).1 _ _ _ h1;have hXe:v.enc=[.int .i64 v.kind,.int .i64 v.int,.str v.name,.sl (v.kids.map V.enc)]:=V.enc_eq v;have hVe:v.tm.enc=v.enc:=rfl;have e1:(g.addT v.tm).kind=g.kind:=rfl;have e2:(g.addT v.tm).name=g.name:=rfl;have e3:(g.addT v.tm).terms=g.terms++[v.tm]:=rfl;have e4:(g.addT v.tm).goals=g.goals:=rfl;unfold Gl.nest at hne;simp only[Bool.or_eq_false_iff,decide_eq_false_iff_not] at hne;obtain⟨⟨k7,k8⟩,k10⟩:=hne;refine rS_ Tryz.func88 ?_;simp only[go_sem,seval,m1,l8,d9 hjx,h41,k7,k8,k10]
      repeat' (first|((first|refine hr.calls rfl ?_|refine⟨sd,?_⟩)<;>(try simp only[go_sem,seval,m1,l8,d9 hjx,h41,k7,k8,k10]))|fail)
      all_goals refine hnx m k (g.addT v.tm) (q1+1) q2 _ ⟨by dsimp only;omega,hb.2.1,h2,by rw[e3,e4,c_];dsimp only[a_,g_];omega⟩ (by dsimp only;omega) (by refine⟨by simp[mkS,e1,e2,e3,e4,hXe,hVe],by simp[mkS,e1,e2,e3,e4,hXe,hVe],by simp only[mkS,b_,d_,O.refsLt,C.refsLt,C.refsLt1,l7];first | done | rfl | (simp;done),?_⟩;simp[mkS,Abs.get,C.refsLtT,C.refsLt,C.refsLt1,e1,e2,e3,e4,hXe,hVe])
set_option maxHeartbeats 8000000
theorem Q5 (k:Nat) (hk:k<=20000):Gives Tryz.prog 87 [.int .i64 (k:Int)] (.d (.str (dec (k:Int)))):=U8 _ (by omega) (by omega)
theorem aw8 {x:List UInt8}:∀(l:List (List UInt8)) (k:Nat),(∀i y,i<k->l[i]? = some y->y≠x)->l[k]? = some x->l.findIdx (fun y=>y == x)=k
 | [],k,_,h=>by simp at h
 | y :: r,0,_,h=>by
  simp at h;subst h;simp[K_]
 | y :: r,k+1,hn,h=>by
  have h0:=hn 0 y (by omega) rfl;have ih:=aw8 r k (fun i z hi hz=>hn (i+1) z (by omega) (by simpa using hz)) (by simpa using h);rw[K_];have:(y == x)=false:=by simpa using h0
  rw[this];simp[ih]
theorem aw9 {x:List UInt8}:∀(l:List (List UInt8)),(∀(i:Nat) y,l[i]? = some y->y≠x)->l.findIdx (fun y=>y == x)=l.length
 | [],_=>rfl
 | y :: r,hn=>by
  have h0:=hn 0 y rfl;have ih:=aw9 r (fun i z hz=>hn (i+1) z (by simpa using hz));rw[K_];have:(y == x)=false:=by simpa using h0
  rw[this];simp[ih]
theorem aM7 (T:List (List UInt8)) (hTl:T.length<=20000) (hTm:∀t,t∈T->t≠[]/\t.length<=100000) (R:List (List UInt8)) (c:Nat) (hR:nbT T [] []=some (R,c)):Gives Tryz.prog 86 [.sl (U2 T)] (.tup [.d (.sl (U2 R)),.d (.int .i64 c),.d (.bool true)]):=by
 have hmx:maxLen=9223372036854775807:=rfl;refine aE_ Tryz.func86 ?_;refine rS_ Tryz.func86 ?_;simp only[go_sem,seval,l8];refine AW.adopt 5 1 9 (by decide) rfl ?_;refine AW.adopt 6 1 9 (by decide) rfl ?_;refine AW.rng T [14,15] 16 14 (fun u:List (List UInt8)×List (List UInt8)×Nat×Nat=>[(5,.own 0 u.2.2.1),(6,.own 1 u.2.2.2)]) (fun _ u=>[.grow u.2.2.1 1 9 (U2 u.1),.grow u.2.2.2 1 9 (U2 u.2.1)]) (fun r u=>nbT r u.1 u.2.1=some (R,c)/\u.1.length+r.length<=T.length/\u.2.1.length+r.length<=T.length) ([],[],0,0) rfl (by simp[l8]) ⟨hR,by simp,by simp⟩ (by refine⟨by simp[mkS,U2],by simp[mkS,U2],by simp only[mkS,b_,d_,O.refsLt,C.refsLt,C.refsLt1,l7];first | done | rfl | (simp;done),?_⟩;simp[mkS,Abs.get,C.refsLtT,C.refsLt,C.refsLt1]) (fun i x r u hxi hdr hlt hm hinv hnext=>?_) (fun u hinv=>?_)
 ·obtain⟨ns,out,q1,q2⟩:=u
  obtain⟨i1,i2,i3⟩:=hinv;dsimp only[a_] at i1 i2 i3 hnext |-;have hnx:=fun a b q q' s'=>hnext (a,b,q,q') s';clear hnext;have hxm:=hTm x (f_ hxi);have hxx:=F7 hxi;obtain⟨b,rs,hxc⟩:∃b rs,x=b :: rs:=by
   cases x with
   | nil=>exact absurd rfl hxm.1
   | cons b rs=>exact⟨b,rs,rfl⟩
  have g1:(0:Int)<(x.length:Int):=by rw[hxc,a_];omega
  have g3:x.drop 1=x.tail:=by rw[hxc];rfl
  have g4:(((x[0]?).getD 0).toNat:Int)=b.toNat:=by rw[hxc];rfl
  have g5:(1:Int)<=(x.length:Int):=by omega
  have hhd:x.head? = some b:=by rw[hxc];rfl
  have htl:x.tail.length<=100000:=by have:=hxm.2;rw[List.length_tail];omega
  simp only[nbT] at i1;by_cases h63:b=63
  ·have g2:(((x[0]?).getD 0).toNat:Int)=63:=by rw[g4,h63];rfl
   rw[if_neg (by rw[hhd,h63];simp)] at i1;by_cases hnb:nbB x.tail=true
   ·rw[if_pos hnb] at i1
    have hn:=ac8 x.tail (by omega);have hp:=V4 x.tail (by omega);have hdone:∀(k:Nat),k<=ns.length->k=ns.findIdx (fun y=>y == x)->Gives Tryz.prog 87 [.int .i64 (k:Int)] (.d (.str (dec (k:Int)))):=fun k hk _=>Q5 k (by omega);have hpv:∃(nv:Int) (ok:Bool),Gives Tryz.prog 126 [.str x.tail] (.tup [.d (.int .i64 nv),.d (.bool ok)])/\(ok && (decide (0<=nv) && decide (nv<=100000)))=inR (V6 x.tail):=by
     cases hpi:V6 x.tail with
     | none=>exact⟨0,false,by rw[J2 hpi] at hp;exact hp,rfl⟩
     | some n=>exact⟨n,true,by rw[aj4 hpi] at hp;exact hp,by simp[inR]⟩
    obtain⟨nv,ok,hpg,hpe⟩:=hpv;have hin:=F8 nv 0 100000;unfold nbB at hnb;rw[<-hpe] at hnb;clear hp hpe;generalize (decide (0<=nv) && decide (nv<=100000))=inb at hin hnb;obtain⟨K,hK⟩:∃K,ns.findIdx (fun y=>y == x)=K:=⟨_,rfl⟩;rw[hK] at i1;cases hN:D7 x.tail with
    | true =>
     rw[hN] at hn;refine rS_ Tryz.func86 ?_;simp only[go_sem,seval,hlt,l8,d9 hxx,g1,g2,g3,g5]
     repeat' (first|((first|refine hpg.calls rfl ?_|refine hn.calls rfl ?_)<;>(try simp only[go_sem,seval,hlt,l8,d9 hxx,g1,g2,g3,g5]))|fail)
     refine AW.lp [5,6,8,14,15,16] (fun k:Nat=>[(11,.d (.int .i64 (k:Int)))]) (fun H _=>H) (fun k=>k<=ns.length/\∀i y,i<k->ns[i]? = some y->y≠x) (fun k=>ns.length - k) 0 ⟨q_ _,fun i y hi=>by omega⟩ A7 ?_;rintro k ⟨hk1,hk2⟩ hnk;by_cases hkl:k<ns.length
     ·obtain⟨y,hy⟩:∃y,ns[k]? = some y:=⟨_,h_ hkl⟩
      have hyx:=F7 hy;have m1:(k:Int)<(ns.length:Int):=by omega
      by_cases hxy:y=x
      ·subst hxy
       have hKk:K=k:=by rw[<-hK];exact aw8 ns k hk2 hy
       have hmem:y∈ns:=f_ hy;rw[if_pos hmem,hKk] at i1;have m2:¬(k:Int)=(ns.length:Int):=by omega
       have hf:=Q5 k (by omega);have hdl:=P8 (n:=(k:Int)) (by omega) (by omega);refine rS_ Tryz.func86 ?_;simp only[go_sem,seval,m1,m2,l8,d9 hyx]
       repeat' (first|simp(disch:=omega) only[l6]|((first|refine hf.calls rfl ?_|refine⟨sd,?_⟩)<;>(try simp only[go_sem,seval,m1,m2,l8,d9 hyx]))|fail)
       all_goals refine hnx ns (out++[63 :: dec (k:Nat)]) q1 (q2+1) _ ⟨i1,by dsimp only;omega,by dsimp only;rw[c_];dsimp only[a_,g_];omega⟩ (by refine⟨by simp[mkS,p8,y7],by simp[mkS,p8,y7],by simp only[mkS,b_,d_,O.refsLt,C.refsLt,C.refsLt1,l7];first | done | rfl | (simp;done),?_⟩;simp[mkS,Abs.get,C.refsLtT,C.refsLt,C.refsLt1])
      ·have wk:IntKind.i64.wrap ((k:Int)+1)=((k+1:Nat):Int):=by simp(disch:=omega) only[l6];omega
       refine rS_ Tryz.func86 ?_;simp only[go_sem,seval,m1,l8,d9 hyx,hxy,wk];all_goals refine hnk (k+1) _ ⟨hkl,fun i z hi hz=>?_⟩ (by omega) A7
       rcases k_.1 hi with h' | rfl
       ·exact hk2 i z h' hz
       ·rw[hy] at hz;cases hz;exact hxy
     ·obtain rfl:k=ns.length:=by omega
      have hKk:K=ns.length:=by rw[<-hK];exact aw9 ns (fun i z hz=>hk2 i z (e_.1 hz).1 hz)
      have hmem:¬x∈ns:=fun h=>by
       obtain⟨i,hi⟩:=List.getElem?_of_mem h;exact hk2 i x (e_.1 hi).1 hi rfl
      rw[if_neg hmem,hKk] at i1;have m1:¬(ns.length:Int)<(ns.length:Int):=by omega
      have hf:=Q5 ns.length (by omega);have hdl:=P8 (n:=(ns.length:Int)) (by omega) (by omega);refine rS_ Tryz.func86 ?_;simp only[go_sem,seval,m1,l8]
      repeat' (first|simp(disch:=omega) only[l6]|((first|refine hf.calls rfl ?_|refine⟨sd,?_⟩)<;>(try simp only[go_sem,seval,m1,l8]))|fail)
      all_goals refine hnx (ns++[x]) (out++[63 :: dec (ns.length:Nat)]) (q1+1) (q2+1) _ ⟨i1,by dsimp only;rw[c_];dsimp only[a_,g_];omega,by dsimp only;rw[c_];dsimp only[a_,g_];omega⟩ (by refine⟨by simp[mkS,p8,y7],by simp[mkS,p8,y7],by simp only[mkS,b_,d_,O.refsLt,C.refsLt,C.refsLt1,l7];first | done | rfl | (simp;done),?_⟩;simp[mkS,Abs.get,C.refsLtT,C.refsLt,C.refsLt1])
    | false =>
     rw[hN] at hn hnb;simp only[N_,i_] at hnb;obtain⟨rfl,rfl⟩:=hnb;refine rS_ Tryz.func86 ?_;simp only[go_sem,seval,hlt,l8,d9 hxx,g1,g2,g3,g5]
     repeat' (first|((first|refine hpg.calls rfl ?_|refine hn.calls rfl ?_|refine hin.calls rfl ?_)<;>(try simp only[go_sem,seval,hlt,l8,d9 hxx,g1,g2,g3,g5]))|fail)
     refine AW.lp [5,6,8,14,15,16] (fun k:Nat=>[(11,.d (.int .i64 (k:Int)))]) (fun H _=>H) (fun k=>k<=ns.length/\∀i y,i<k->ns[i]? = some y->y≠x) (fun k=>ns.length - k) 0 ⟨q_ _,fun i y hi=>by omega⟩ A7 ?_;rintro k ⟨hk1,hk2⟩ hnk;by_cases hkl:k<ns.length
     ·obtain⟨y,hy⟩:∃y,ns[k]? = some y:=⟨_,h_ hkl⟩
      have hyx:=F7 hy;have m1:(k:Int)<(ns.length:Int):=by omega
      by_cases hxy:y=x
      ·subst hxy
       have hKk:K=k:=by rw[<-hK];exact aw8 ns k hk2 hy
       have hmem:y∈ns:=f_ hy;rw[if_pos hmem,hKk] at i1;have m2:¬(k:Int)=(ns.length:Int):=by omega
       have hf:=Q5 k (by omega);have hdl:=P8 (n:=(k:Int)) (by omega) (by omega);refine rS_ Tryz.func86 ?_;simp only[go_sem,seval,m1,m2,l8,d9 hyx]
       repeat' (first|simp(disch:=omega) only[l6]|((first|refine hf.calls rfl ?_|refine⟨sd,?_⟩)<;>(try simp only[go_sem,seval,m1,m2,l8,d9 hyx]))|fail)
       all_goals refine hnx ns (out++[63 :: dec (k:Nat)]) q1 (q2+1) _ ⟨i1,by dsimp only;omega,by dsimp only;rw[c_];dsimp only[a_,g_];omega⟩ (by refine⟨by simp[mkS,p8,y7],by simp[mkS,p8,y7],by simp only[mkS,b_,d_,O.refsLt,C.refsLt,C.refsLt1,l7];first | done | rfl | (simp;done),?_⟩;simp[mkS,Abs.get,C.refsLtT,C.refsLt,C.refsLt1])
      ·have wk:IntKind.i64.wrap ((k:Int)+1)=((k+1:Nat):Int):=by simp(disch:=omega) only[l6];omega
       refine rS_ Tryz.func86 ?_;simp only[go_sem,seval,m1,l8,d9 hyx,hxy,wk];all_goals refine hnk (k+1) _ ⟨hkl,fun i z hi hz=>?_⟩ (by omega) A7
       rcases k_.1 hi with h' | rfl
       ·exact hk2 i z h' hz
       ·rw[hy] at hz;cases hz;exact hxy
     ·obtain rfl:k=ns.length:=by omega
      have hKk:K=ns.length:=by rw[<-hK];exact aw9 ns (fun i z hz=>hk2 i z (e_.1 hz).1 hz)
      have hmem:¬x∈ns:=fun h=>by
       obtain⟨i,hi⟩:=List.getElem?_of_mem h;exact hk2 i x (e_.1 hi).1 hi rfl
      rw[if_neg hmem,hKk] at i1;have m1:¬(ns.length:Int)<(ns.length:Int):=by omega
      have hf:=Q5 ns.length (by omega);have hdl:=P8 (n:=(ns.length:Int)) (by omega) (by omega);refine rS_ Tryz.func86 ?_;simp only[go_sem,seval,m1,l8]
      repeat' (first|simp(disch:=omega) only[l6]|((first|refine hf.calls rfl ?_|refine⟨sd,?_⟩)<;>(try simp only[go_sem,seval,m1,l8]))|fail)
      all_goals refine hnx (ns++[x]) (out++[63 :: dec (ns.length:Nat)]) (q1+1) (q2+1) _ ⟨i1,by dsimp only;rw[c_];dsimp only[a_,g_];omega,by dsimp only;rw[c_];dsimp only[a_,g_];omega⟩ (by refine⟨by simp[mkS,p8,y7],by simp[mkS,p8,y7],by simp only[mkS,b_,d_,O.refsLt,C.refsLt,C.refsLt1,l7];first | done | rfl | (simp;done),?_⟩;simp[mkS,Abs.get,C.refsLtT,C.refsLt,C.refsLt1])
   ·rw[if_neg hnb] at i1;cases i1
  ·have g2:¬(((x[0]?).getD 0).toNat:Int)=63:=by
    rw[g4];exact fun h=>h63 ((ap7 (n:=63) (by omega)).2 h)
   have g6:((((x[0]?).getD 0).toNat:Int) != 63)=true:=by simp[g2]
   rw[if_pos (by rw[hhd];intro h;exact h63 (Option.some.inj h))] at i1;refine rS_ Tryz.func86 ?_;simp only[go_sem,seval,hlt,l8,d9 hxx,g1,g6]
   repeat' (first|simp(disch:=omega) only[l6]|refine⟨sd,?_⟩<;>try simp only[go_sem,seval,hlt,l8,d9 hxx,g1,g6]|fail)
   all_goals refine hnx ns (out++[x]) q1 (q2+1) _ ⟨i1,by dsimp only;omega,by dsimp only;rw[c_];dsimp only[a_,g_];omega⟩ (by refine⟨by simp[mkS,p8,y7],by simp[mkS,p8,y7],by simp only[mkS,b_,d_,O.refsLt,C.refsLt,C.refsLt1,l7];first | done | rfl | (simp;done),?_⟩;simp[mkS,Abs.get,C.refsLtT,C.refsLt,C.refsLt1])
 ·obtain⟨ns,out,q1,q2⟩:=u
  obtain⟨i1,i2,i3⟩:=hinv;dsimp only at i1 i2 i3 |-;simp only[nbT] at i1;cases i1;refine rS_ Tryz.func86 ?_;simp only[go_sem,seval,l8]
end Go.Proofs.YtehgpkadkdekmaaGreatDoor
namespace Go.Abs
theorem aT2:∀(r ns out R:List (List UInt8)) (c:Nat),nbT r ns out=some (R,c)->ns.length+r.length<=20000->(∀t,t∈r->t.length<=100000)->(∀t,t∈out->t.length<=100000)->R.length=out.length+r.length/\c<=ns.length+r.length/\∀t,t∈R->t.length<=100000
 | [],ns,out,R,c,h,_,_,ho=>by
  simp only[nbT] at h;cases h;exact⟨by simp,by simp,ho⟩
 | t :: r,ns,out,R,c,h,hl,hr,ho=>by
  simp only[a_] at hl;simp only[nbT] at h;have hr':∀t,t∈r->t.length<=100000:=fun x hx=>hr x (by simp[hx]);split at h
  ·obtain⟨i1,i2,i3⟩:=aT2 r ns (out++[t]) R c h (by omega) hr' (fun x hx=>by
    rcases l_.1 hx with hx | hx
    ·exact ho x hx
    ·simp at hx;subst hx;exact hr x (by simp))
   simp only[c_,a_,g_] at i1 |-;exact⟨by omega,by omega,i3⟩
  ·split at h
   ·have hfi:ns.findIdx (fun x=>x == t)<=ns.length:=List.findIdx_le_length
    have hdl:=P8 (n:=(ns.findIdx (fun x=>x == t):Nat)) (by omega) (by omega);have hns:(if t∈ns then ns else ns++[t]).length<=ns.length+1:=by split<;>simp
    obtain⟨i1,i2,i3⟩:=aT2 r _ _ R c h (by omega) hr' (fun x hx=>by
     rcases l_.1 hx with hx | hx
     ·exact ho x hx
     ·simp at hx;subst hx;simp;omega)
    simp only[c_,a_,g_] at i1 |-;exact⟨by omega,by omega,i3⟩
   ·cases h
theorem bJ3 (T:List (List UInt8)):∀(n a b:Nat),a<=b->b<a+bN5 T n a->T[4+b]? = some (63 :: dec (b:Nat))
 | 0,a,b,h1,h2=>by simp only[bN5] at h2;omega
 | n+1,a,b,h1,h2=>by
  simp only[bN5] at h2;split at h2
  ·rename_i h
   by_cases e:b=a
   ·subst e;exact h
   ·exact bJ3 T n (a+1) b (by omega) (by omega)
  ·omega
theorem bR2 {all:List (List UInt8)} {r:Rl} (h:dfT all=some r):∃T c a g j,nbT all [] []=some (T,c)/\6<=T.length/\T[1]? = some [100,101,102,105,110,101]/\T[2]? = some [40]/\(∀b,b<a->T[4+b]? = some (63 :: dec (b:Nat)))/\T[4+a]? = some [41]/\rgT T (2 * T.length+1) (5+a)=some (g,j)/\j+1=T.length/\r=⟨T.getD 3 [],(a:Int),(c:Int) - (a:Int),g⟩:=by
 unfold dfT at h;cases hn:nbT all [] [] with
 | none=>rw[hn] at h;cases h
 | some x =>
  obtain⟨T,c⟩:=x;rw[hn] at h;dsimp only at h;by_cases h6:T.length<6
  ·rw[if_pos h6] at h;cases h
  ·rw[if_neg h6] at h
   by_cases h12:T[1]? = some [100,101,102,105,110,101]/\T[2]? = some [40]
   ·rw[if_pos h12] at h
    by_cases h4:T[4+bN5 T T.length 0]? = some [41]
    ·rw[if_pos h4] at h
     cases hg:rgT T (2 * T.length+1) (5+bN5 T T.length 0) with
     | none=>rw[hg] at h;cases h
     | some y =>
      obtain⟨g,j⟩:=y;rw[hg] at h;dsimp only at h;by_cases hj:j+1=T.length
      ·rw[if_pos hj] at h
       cases h;exact⟨T,c,_,g,j,rfl,by omega,h12.1,h12.2,fun b hb=>bJ3 T T.length 0 b (q_ _) (by omega),h4,hg,hj,rfl⟩
      ·rw[if_neg hj] at h;cases h
    ·rw[if_neg h4] at h;cases h
   ·rw[if_neg h12] at h;cases h
end Go.Abs
namespace Go.Proofs.YtehgpkadkdekmaaGreatDoor
open Go.Abs
set_option maxRecDepth 100000
set_option maxHeartbeats 8000000
set_option linter.unusedSimpArgs false
set_option linter.unusedVariables false
theorem ab3 (all:List (List UInt8)) (r:Rl) (hl:all.length<=20000) (hm:∀t,t∈all->t≠[]/\t.length<=100000) (h:dfT all=some r):Gives Tryz.prog 46 [.sl (U2 all)] (.tup [.d (.agg r.enc),.d (.bool true)]):=by
 have hmx:maxLen=9223372036854775807:=rfl;obtain⟨T,c,a,g,j,h1,h6,hT1,hT2,hprm,hT4,hrg,hj,rfl⟩:=bR2 h;have hnum:=aM7 all hl hm T c h1;obtain⟨k1,k2,k3⟩:=aT2 all [] [] T c h1 (by simpa using hl) (fun t ht=>(hm t ht).2) (fun t ht=>by cases ht);simp only[g_,Nat.zero_add] at k1 k2;have hal:=(e_.1 hT4).1;have hrd:=bh5 T (by omega) k3 _ (5+a) g j (by omega) hrg;obtain⟨nm,hT3⟩:∃nm,T[3]? = some nm:=⟨_,h_ (by omega)⟩;have hnm:T.getD 3 []=nm:=by rw[x_,hT3];rfl
 rw[hnm];have x1:=F7 hT1;have x2:=F7 hT2;have x3:=F7 hT3;have x4:=F7 hT4;have n6:¬(T.length:Int)<6:=by omega
 have n1:(1:Int)<(T.length:Int):=by omega
 have n2:(2:Int)<(T.length:Int):=by omega
 have n3:(3:Int)<(T.length:Int):=by omega
 have hRe:(Rl.mk nm (a:Int) ((c:Int) - (a:Int)) g).enc=[.str nm,.int .i64 (a:Int),.int .i64 ((c:Int) - (a:Int)),.int .i64 g.kind,.str g.name,.sl (g.terms.map Tm.enc),.sl (g.goals.map Gl.enc)]:=Rl.enc_eq _;rw[hRe];refine aE_ Tryz.func46 ?_;refine rS_ Tryz.func46 ?_;simp only[go_sem,seval,l8,n6,n1,n2,n3,d9 x1,d9 x2,d9 x3]
 repeat' (first|refine hnum.calls rfl ?_<;>try simp only[go_sem,seval,l8,n6,n1,n2,n3,d9 x1,d9 x2,d9 x3]|fail)
 refine AW.lp [2,4,5,7] (fun b:Nat=>[(8,.d (.int .i64 ((4+b:Nat):Int)))]) (fun _ b=>[.box [.d (.str []),.d (.int .i64 0),.d (.int .i64 0),.d (.int .i64 0),.d (.str []),.nil0,.nil0],.box [.d (.str nm),.d (.int .i64 (b:Int)),.d (.int .i64 0),.d (.int .i64 0),.d (.str []),.nil0,.nil0]]) (fun b=>b<=a) (fun b=>a - b) 0 (q_ _) A7 ?_;intro b hb hnext;have hf:=Q5 b (by omega);have hdl:=P8 (n:=(b:Int)) (by omega) (by omega);have m1:((4+b:Nat):Int)<(T.length:Int):=by omega
 have m1':(4:Int)+(b:Int)<(T.length:Int):=by omega
 have m2:¬(T.length:Int)<=(4:Int)+(b:Int):=by omega
 have hti:((4:Int)+(b:Int)).toNat=4+b:=by omega
 have w8:IntKind.i64.wrap ((4:Int)+(b:Int)+1)=(4:Int)+((b:Int)+1):=by rw[l6 (by omega) (by omega)];omega
 have w1:IntKind.i64.wrap ((b:Int)+1)=(b:Int)+1:=by simp(disch:=omega) only[l6]
 by_cases hba:b<a
 ·have hat:=F7 (hprm b hba)
  refine rS_ Tryz.func46 ?_;simp only[go_sem,seval,m1,m1',m2,hti,l8,d9 hat,w8,w1]
  repeat' (first|((first|refine hf.callQ rfl ?_|refine⟨sd,?_⟩)<;>(try simp only[go_sem,seval,m1,m1',m2,hti,l8,d9 hat,w8,w1]))|fail)
  all_goals refine hnext (b+1) _ hba (by omega) A7
 ·obtain rfl:b=a:=by omega
  have hne:¬([41]:List UInt8)=63 :: dec (b:Int):=by intro h;injection h with h1 h2;exact absurd h1 (by decide)
  have hrd':Gives Tryz.prog 88 [.sl (U2 T),.int .i64 ((4:Int)+((b:Int)+1))] (.tup [.d (.agg g.enc),.d (.int .i64 j),.d (.bool true)]):=by
   rw[show (4:Int)+((b:Int)+1)=((5+b:Nat):Int) by omega];exact hrd
  have wc:IntKind.i64.wrap ((c:Int) - (b:Int))=(c:Int) - (b:Int):=by simp(disch:=omega) only[l6]
  have wt:IntKind.i64.wrap ((T.length:Int) - 1)=(j:Int):=by rw[l6 (by omega) (by omega)];omega
  have hge:=Gl.enc_eq g;refine rS_ Tryz.func46 ?_;simp only[go_sem,seval,m1,m1',m2,hti,l8,d9 x4,w8,w1,hne,wc,wt,hge]
  repeat' (first|((first|refine hf.callQ rfl ?_|refine hrd'.calls rfl ?_|refine⟨sd,?_⟩)<;>(try simp only[go_sem,seval,m1,m1',m2,hti,l8,d9 x4,w8,w1,hne,wc,wt,hge]))|fail)
set_option maxHeartbeats 4000000
theorem am1 (a b:List V):Gives Tryz.prog 115 [.sl (a.map V.enc),.sl (b.map V.enc)] (.d (.int .i64 (V.cmpL a b))):=by
 refine aE_ Tryz.func115 ?_;refine rS_ Tryz.func115 ?_;simp only[go_sem,seval];refine AW.len 0 rfl (fun hl=>?_);simp only[maxLen,o_] at hl;refine AW.lp [0,1] (fun i:Nat=>[(5,.d (.int .i64 i))]) (fun H _=>H) (fun i=>i<=a.length/\i<=b.length/\V.cmpL (a.drop i) (b.drop i)=V.cmpL a b/\G5 ((a.drop i).length:Int) ((b.drop i).length:Int)=G5 (a.length:Int) (b.length:Int)) (fun i=>a.length - i) 0 ⟨by omega,by omega,rfl,rfl⟩ I7 ?_;rintro i ⟨hi,hj,hinv,hord⟩ hnext;by_cases h:i<a.length/\i<b.length
 ·obtain⟨h1,h2⟩:=h
  have e1:a.drop i=a[i] :: a.drop (i+1):=n_ h1;have e2:b.drop i=b[i] :: b.drop (i+1):=n_ h2;have g1:a[i]? = some a[i]:=h_ h1;have g2:b[i]? = some b[i]:=h_ h2;generalize a[i]=x at e1 g1;generalize b[i]=y at e2 g2;rw[e1,e2,V.cmpL_cons] at hinv;have h1':(i:Int)<a.length:=by omega
  have h2':(i:Int)<b.length:=by omega
  refine rS_ Tryz.func115 ?_;simp only[go_sem,seval,h1',h2',d9 g1,d9 g2]
  repeat' (first|refine E8 ?_ ?_<;>intro hq<;>try simp only[go_sem,seval,h1',h2',d9 g1,d9 g2,hq]|simp(disch:=omega) only[l6]|refine hnext (i+1) _ ⟨by omega,by omega,by simp_all,?_⟩ (by omega) I7|refine(K9 _ _ _ (m_ _)).callQ rfl ?_<;>try simp only[go_sem,seval,h1',h2',d9 g1,d9 g2]|fail)
  all_goals clear hnext
  ·simp_all
  ·rw[<-hord];simp only[t_,G5];split<;>split<;>omega
 ·have hz:V.cmpL (a.drop i) (b.drop i)=G5 (a.length:Int) (b.length:Int):=by
   rw[<-hord];by_cases h1:i<a.length
   ·have:b.drop i=[]:=r_ (by omega)
    rw[this,V.cmpL_nil_right];rfl
   ·have:a.drop i=[]:=r_ (by omega)
    rw[this,V.cmpL_nil_left];rfl
  rw[hz] at hinv;clear hnext;refine rS_ Tryz.func115 ?_;simp only[go_sem,seval]
  repeat' (first|((first | refine E8 ?_ ?_<;>intro hq | (refine A8 (fun x hx=>have hq:=hx;?_)))<;>(try simp only[go_sem,seval,hq]))|simp(disch:=omega) only[l6]|((first|refine(K9 _ _ _ (m_ _)).callQ rfl ?_|refine(ao1 _ _).calls rfl ?_|refine⟨sd,?_⟩)<;>(try simp only[go_sem,seval]))|fail)
  all_goals try clear ih
  all_goals try clear hnext
  all_goals first
   | simp_all;done
   | simp_all;omega
   | simp_all;split<;>simp_all<;>omega
   | exfalso;omega
   | assumption
theorem aN5 (a b:List V):Gives Tryz.prog 161 [.sl (a.map V.enc),.sl (b.map V.enc)] (.d (.int .i64 (V.cmpL a b))):=by
 refine aE_ Tryz.func161 ?_;refine rS_ Tryz.func161 ?_;simp only[go_sem,seval];refine AW.len 0 rfl (fun hl=>?_);simp only[maxLen,o_] at hl;refine AW.lp [0,1] (fun i:Nat=>[(5,.d (.int .i64 i))]) (fun H _=>H) (fun i=>i<=a.length/\i<=b.length/\V.cmpL (a.drop i) (b.drop i)=V.cmpL a b/\G5 ((a.drop i).length:Int) ((b.drop i).length:Int)=G5 (a.length:Int) (b.length:Int)) (fun i=>a.length - i) 0 ⟨by omega,by omega,rfl,rfl⟩ I7 ?_;rintro i ⟨hi,hj,hinv,hord⟩ hnext;by_cases h:i<a.length/\i<b.length
 ·obtain⟨h1,h2⟩:=h
  have e1:a.drop i=a[i] :: a.drop (i+1):=n_ h1;have e2:b.drop i=b[i] :: b.drop (i+1):=n_ h2;have g1:a[i]? = some a[i]:=h_ h1;have g2:b[i]? = some b[i]:=h_ h2;generalize a[i]=x at e1 g1;generalize b[i]=y at e2 g2;rw[e1,e2,V.cmpL_cons] at hinv;have h1':(i:Int)<a.length:=by omega
  have h2':(i:Int)<b.length:=by omega
  refine rS_ Tryz.func161 ?_;simp only[go_sem,seval,h1',h2',d9 g1,d9 g2]
  repeat' (first|refine E8 ?_ ?_<;>intro hq<;>try simp only[go_sem,seval,h1',h2',d9 g1,d9 g2,hq]|simp(disch:=omega) only[l6]|refine hnext (i+1) _ ⟨by omega,by omega,by simp_all,?_⟩ (by omega) I7|refine(Y1 _ _ _ (m_ _)).callQ rfl ?_<;>try simp only[go_sem,seval,h1',h2',d9 g1,d9 g2]|fail)
  all_goals clear hnext
  ·simp_all
  ·rw[<-hord];simp only[t_,G5];split<;>split<;>omega
 ·have hz:V.cmpL (a.drop i) (b.drop i)=G5 (a.length:Int) (b.length:Int):=by
   rw[<-hord];by_cases h1:i<a.length
   ·have:b.drop i=[]:=r_ (by omega)
    rw[this,V.cmpL_nil_right];rfl
   ·have:a.drop i=[]:=r_ (by omega)
    rw[this,V.cmpL_nil_left];rfl
  rw[hz] at hinv;clear hnext;generalize V.cmpL a b=N at hinv |-;unfold G5 at hinv;refine rS_ Tryz.func161 ?_;simp only[go_sem,seval]
  repeat' (first|((first | refine E8 ?_ ?_<;>intro hq | (refine A8 (fun x hx=>have hq:=hx;?_)))<;>(try simp only[go_sem,seval,hq]))|simp(disch:=omega) only[l6]|((first|refine(Y1 _ _ _ (m_ _)).callQ rfl ?_|refine(ad6 _).calls rfl ?_|refine⟨sd,?_⟩)<;>(try simp only[go_sem,seval]))|fail)
  all_goals try clear ih
  all_goals try clear hnext
  all_goals first
   | simp_all;done
   | simp_all;omega
   | simp_all;split<;>simp_all<;>omega
   | exfalso;omega
   | assumption
theorem aj5 (r q:List UInt8) (a b:List V):Gives Tryz.prog 71 [.agg (Fc.enc ⟨r,a.map V.tm⟩),.agg (Fc.enc ⟨q,b.map V.tm⟩)] (.d (.int .i64 (K5 r a q b))):=by
 have hc:K5 r a q b=if r≠q then (if Op.bytesLess r q then -1 else 1) else V.cmpL a b:=rfl
 generalize K5 r a q b=N at hc |-;refine aE_ Tryz.func71 ?_;refine rS_ Tryz.func71 ?_;simp only[go_sem,seval];try simp only[go_sem,seval,D5]
 repeat' (first|refine E8 ?_ ?_<;>intro hq<;>try simp only[go_sem,seval,D5,hq]|refine(am1 _ _).calls rfl ?_<;>try simp only[go_sem,seval,D5]|fail)
 all_goals try clear ih
 all_goals try clear hnext
 all_goals first
  | simp_all;done
  | simp_all;omega
  | simp_all;split<;>simp_all<;>omega
  | exfalso;omega
  | assumption
theorem bt8 (r q:List UInt8) (a b:List V):Gives Tryz.prog 124 [.agg (Fc.enc ⟨r,a.map V.tm⟩),.agg (Fc.enc ⟨q,b.map V.tm⟩)] (.d (.int .i64 (K5 r a q b))):=by
 have hc:K5 r a q b=if r≠q then (if Op.bytesLess r q then -1 else 1) else V.cmpL a b:=rfl
 generalize K5 r a q b=N at hc |-;refine aE_ Tryz.func124 ?_;refine rS_ Tryz.func124 ?_;simp only[go_sem,seval];try simp only[go_sem,seval,D5]
 repeat' (first|refine E8 ?_ ?_<;>intro hq<;>try simp only[go_sem,seval,D5,hq]|((first|refine(ad6 _).calls rfl ?_|refine(aN5 _ _).calls rfl ?_)<;>(try simp only[go_sem,seval,D5]))|fail)
 all_goals try clear ih
 all_goals try clear hnext
 all_goals first
  | simp_all;done
  | simp_all;omega
  | simp_all;split<;>simp_all<;>omega
  | exfalso;omega
  | assumption
set_option maxHeartbeats 8000000
theorem aa1 (s:List UInt8) (hm:s.length<=9000000):Gives Tryz.prog 65 [.str s] (.d (.bool (J6 s))):=by
 have hr:J6 s=(!reserved.contains s && D7 s):=rfl;simp only[reserved] at hr;generalize J6 s=N at hr |-;refine aE_ Tryz.func65 ?_;refine rS_ Tryz.func65 ?_;simp only[go_sem,seval]
 repeat' (first|refine E8 ?_ ?_<;>intro hq<;>try simp only[go_sem,seval,hq]|refine(aC5 _ sd).calls rfl ?_<;>try simp only[go_sem,seval]|fail)
 all_goals (simp_all;done)
theorem Y9 (s:List UInt8) (hm:s.length<=9000000):Gives Tryz.prog 90 [.str s] (.d (.bool (J6 s))):=by
 have hr:J6 s=(!reserved.contains s && D7 s):=rfl;simp only[reserved] at hr;generalize J6 s=N at hr |-;refine aE_ Tryz.func90 ?_;refine rS_ Tryz.func90 ?_;simp only[go_sem,seval]
 repeat' (first|refine E8 ?_ ?_<;>intro hq<;>try simp only[go_sem,seval,hq]|simp(disch:=omega) only[l6]|((first|refine AW.loop ?_<;>(refine rS_ Tryz.func90 ?_)|refine AW.round ?_<;>(refine rS_ Tryz.func90 ?_)|refine(ac8 _ sd).calls rfl ?_)<;>(try simp only[go_sem,seval]))|fail)
 all_goals first
  | simp_all;done
  | simp_all;intro _;refine⟨?_,?_,?_,?_,?_,?_,?_,?_,?_⟩<;>(intro h;subst h;contradiction)
theorem av3:∀(t:Gl) (most:Int),wtL t.enc<=9000000->-10000000<=most->most<=10000000->Gives Tryz.prog 133 [.agg t.enc,.int .i64 most] (.d (.int .i64 (t.countF most))):=by
 intro t;induction t using Gl.ind' with
 | h t ih =>
  intro most hw h0 h1;have hc:=Gl.cnt_le_wt t;have he:=Gl.countF_eq t most;rw[Gl.cnt_eq] at hc;generalize t.countF most=N at he |-;refine aE_ Tryz.func133 ?_;refine rS_ Tryz.func133 ?_;simp only[go_sem,seval];refine AW.rng t.goals [1,9,10] 11 9 (fun n:Int=>[(5,.d (.int .i64 n))]) (fun H _=>H) (fun r n=>1<=n/\n+Gl.cnts r<=1+Gl.cnts t.goals/\Gl.countL r most n=N) 1 rfl (by simp) ⟨by omega,by omega,he.symm⟩ I7 (fun i x r acc hxi hdr hlt hm hinv hnext=>?_) (fun acc hinv=>?_)
  ·have hx:=f_ hxi
   have ihx:=ih x hx;have hwx:=Gl.wt_goals hx;have hcs:=Gl.count_spec x (most - acc);obtain⟨v1,v2,v3⟩:=hinv;simp only[Gl.countL,Gl.cnts] at v2 v3;refine rS_ Tryz.func133 ?_;simp only[go_sem,seval,hlt,d9 hxi]
   repeat' (first|refine E8 ?_ ?_<;>intro hq<;>try simp only[go_sem,seval,hq]|simp(disch:=omega) only[l6]|refine hnext (acc+x.countF (most - acc)) _ ⟨by omega,by omega,?_⟩ I7|refine(ihx _ (by omega) (by omega) (by omega)).calls rfl ?_<;>try simp only[go_sem,seval]|fail)
   all_goals clear hnext ihx ih
   ·rw[if_pos (by omega)] at v3;rw[v3]
   ·rw[if_neg (by omega)] at v3;exact v3
  ·obtain⟨v1,v2,v3⟩:=hinv
   simp only[Gl.countL] at v3;refine rS_ Tryz.func133 ?_;simp only[go_sem,seval];simp_all
theorem ao9:∀(t:Gl) (room:Int),wtL t.enc<=9000000->-10000000<=room->room<=10000000->Gives Tryz.prog 66 [.agg t.enc,.int .i64 room] (.d (.int .i64 (t.nodes room))):=by
 intro t;induction t using Gl.ind' with
 | h t ih =>
  intro room hw h0 h1;have hn:=Gl.wt_name t;have ht:∀x,x∈t.terms->wtL x.enc<=9000000:=fun x hx=>by have:=Gl.wt_terms hx;omega
  have nl:=Gl.nodes_lt (g:=t) (room:=room);have bd:=Gl.nodes_bad (g:=t) (room:=room);have lf:=Gl.nodes_leaf (g:=t) (room:=room);have kd:=Gl.nodes_kids (g:=t) (room:=room);rw[Gl.shape_eq] at bd lf;by_cases hr:room<1
  ·rw[nl hr]
   refine aE_ Tryz.func66 ?_;refine rS_ Tryz.func66 ?_;simp only[go_sem,seval]
   repeat' (first|((first | refine E8 ?_ ?_<;>intro hq | (refine A8 (fun x hx=>have hq:=hx;?_)))<;>(try simp only[go_sem,seval,hq]))|((first|refine(R9 _ sd).calls rfl ?_|refine(aa1 _ sd).calls rfl ?_|refine⟨sd,?_⟩)<;>(try simp only[go_sem,seval]))|fail)
   all_goals try clear ih
   all_goals try clear hnext
   all_goals first
    | simp_all;done
    | simp_all;omega
    | simp_all;split<;>simp_all<;>omega
    | exfalso;omega
    | assumption
  by_cases hto:t.terms.all M7=true
  ·rw[hto] at bd lf kd
   simp only[J_,forall_const] at bd lf kd;generalize t.nodes room=N at nl bd lf kd |-
   have hform:t.form=(if t.kind=9 then J6 t.name && decide ((t.goals.length:Int)=0) && decide ((t.terms.length:Int)<=4)
    else if 0<=t.kind/\t.kind<=6 then decide (t.name=[]) && decide ((t.goals.length:Int)=0) && decide ((t.terms.length:Int)=x8 t.kind) && (if t.kind=6 then ak7 t.terms else true)
    else if t.kind=7\/t.kind=8 then decide (t.name=[]) && decide ((t.terms.length:Int)=0) && decide ((t.goals.length:Int)<=8)
    else if t.kind=10 then decide (t.name=[]) && decide ((t.terms.length:Int)=0) && decide ((t.goals.length:Int)=1) && ac3 t.goals
    else false):=rfl
   refine aE_ Tryz.func66 ?_;refine rS_ Tryz.func66 ?_;simp only[go_sem,seval]
   repeat' (first|((first | refine E8 ?_ ?_<;>intro hq | (refine A8 (fun x hx=>have hq:=hx;?_)))<;>(try simp only[go_sem,seval,hto,hq]))|((first|refine(R9 _ sd).calls rfl ?_|refine(aa1 _ sd).calls rfl ?_|refine⟨sd,?_⟩)<;>(try simp only[go_sem,seval,hto]))|fail)
   all_goals try (exfalso;omega)
   all_goals try (clear ih;simp_all[x8,K4,I5];done)
   all_goals try (rw[bd (by clear bd lf kd nl ih;rw[E_];left;rw[hform];clear hform;first | simp[*];done | simp[*];intros;omega)];done)
   all_goals
    have hf:t.form=true:=by clear ih;simp_all[x8,K4,I5];try omega
    have hk:=kd hf (by omega);refine AW.rng t.goals [1,124,125] 126 124 (fun n:Int=>[(6,.d (.int .i64 n))]) (fun H _=>H) (fun r n=>1<=n/\n<=room/\Gl.nodeL r room n=N) 1 rfl (by simp) ⟨by omega,by omega,hk.symm⟩ I7 (fun i x r acc hxi hdr hlt hm hinv hnext=>?_) (fun acc hinv=>?_)
    ·have hx:=f_ hxi
     have ihx:=ih x hx;have hwx:=Gl.wt_goals hx;have hng:=Gl.nodes_ge (g:=x) (room:=room - acc);obtain⟨v1,v2,v3⟩:=hinv;simp only[Gl.nodeL] at v3;refine rS_ Tryz.func66 ?_;simp only[go_sem,seval,hlt,d9 hxi]
     repeat' (first|refine E8 ?_ ?_<;>intro hq<;>try simp only[go_sem,seval,hq]|simp(disch:=omega) only[l6]|refine hnext (acc+x.nodes (room - acc)) _ ⟨by omega,by omega,?_⟩ I7|refine(ihx _ (by omega) (by omega) (by omega)).calls rfl ?_<;>try simp only[go_sem,seval]|fail)
     all_goals clear hnext ihx ih
     ·rw[if_pos (by omega)] at v3;rw[v3]
     ·rw[if_neg (by omega)] at v3;exact v3
    ·obtain⟨v1,v2,v3⟩:=hinv
     simp only[Gl.nodeL] at v3;refine rS_ Tryz.func66 ?_;simp only[go_sem,seval];simp_all
  ·have hN:t.nodes room=-1:=bd (by simp[hto])
   rw[hN];simp only[C_] at hto;refine aE_ Tryz.func66 ?_;refine rS_ Tryz.func66 ?_;simp only[go_sem,seval]
   repeat' (first|refine E8 ?_ ?_<;>intro hq<;>try simp only[go_sem,seval,hto,hq]|refine(R9 _ sd).calls rfl ?_<;>try simp only[go_sem,seval,hto]|fail)
   all_goals try clear ih
   all_goals try clear hnext
   all_goals first
    | simp_all;done
    | simp_all;omega
    | simp_all;split<;>simp_all<;>omega
    | exfalso;omega
    | assumption
theorem bj0 (t:Gl) (hw:wtL t.enc<=9000000):Gives Tryz.prog 108 [.agg t.enc] (.d (.bool (ak5 t))):=by
 refine aE_ Tryz.func108 ?_;refine rS_ Tryz.func108 ?_;simp only[go_sem,seval]
 repeat' (first|refine(ao9 _ _ sd sd sd).calls rfl ?_<;>try simp only[go_sem,seval]|fail)
 all_goals (rw[Gl.nodes_ok])
theorem aT8:∀(t:Gl),wtL t.enc<=9000000->Gives Tryz.prog 165 [.agg t.enc] (.d (.bool t.shape)):=by
 intro t;induction t using Gl.ind' with
 | h t ih =>
  intro hw;have hn:=Gl.wt_name t;have ht:∀x,x∈t.terms->wtL x.enc<=9000000:=fun x hx=>by have:=Gl.wt_terms hx;omega
  have hs:=Gl.shape_eq t;have har:=an3 t.kind;have har2:=bl9 t.kind;have har6:=bz0 t.kind;generalize t.shape=N at hs |-
  have hform:t.form=(if t.kind=9 then J6 t.name && decide ((t.goals.length:Int)=0) && decide ((t.terms.length:Int)<=4)
    else if 0<=t.kind/\t.kind<=6 then decide (t.name=[]) && decide ((t.goals.length:Int)=0) && decide ((t.terms.length:Int)=x8 t.kind) && (if t.kind=6 then ak7 t.terms else true)
    else if t.kind=7\/t.kind=8 then decide (t.name=[]) && decide ((t.terms.length:Int)=0) && decide ((t.goals.length:Int)<=8)
    else if t.kind=10 then decide (t.name=[]) && decide ((t.terms.length:Int)=0) && decide ((t.goals.length:Int)=1) && ac3 t.goals
    else false):=rfl
  by_cases hk9:t.kind=9
  ·refine aE_ Tryz.func165 ?_
   refine rS_ Tryz.func165 ?_;simp only[go_sem,seval]
   repeat' (first|refine E8 ?_ ?_<;>intro hq<;>try simp only[go_sem,seval,hk9,hq]|((first|refine(F8 _ _ _).calls rfl ?_|refine(av5 _ sd).calls rfl ?_)<;>(try simp only[go_sem,seval,hk9]))|fail)
   all_goals try (exfalso;omega)
   all_goals try (clear ih;simp_all[x8,K4,I5];done)
   all_goals try (rw[hs,hform];clear hs hform ih;first | simp[*,x8];done | simp[*,x8];omega | simp[*,x8];intros;omega)
   all_goals try (cases N<;>first | rfl | (exfalso;simp only[eq_comm (a:=true),i_] at hs;have hfi:=Gl.form_inv hs.1.1;clear hs hform;omega) | (exfalso;simp only[eq_comm (a:=true),i_] at hs;have hfi:=Gl.form_inv hs.1;clear hs hform;omega))
   all_goals
    refine AW.rng t.goals [1,61,62] 63 61 (fun _:Unit=>[]) (fun H _=>H) (fun r _=>r.all Gl.shape=t.goals.all Gl.shape) () rfl (by simp) rfl I7 (fun i x r acc hxi hdr hlt hm hinv hnext=>?_) (fun acc hinv=>?_)
    ·have hx:=f_ hxi
     have ihx:=ih x hx;have hwx:=Gl.wt_goals hx;rw[b_] at hinv;refine rS_ Tryz.func165 ?_;simp only[go_sem,seval,hlt,d9 hxi]
     repeat' (first|refine E8 ?_ ?_<;>intro hq<;>try simp only[go_sem,seval,hq]|simp(disch:=omega) only[l6]|refine hnext () _ ?_ I7|refine(ihx (by omega)).calls rfl ?_<;>try simp only[go_sem,seval]|fail)
     all_goals clear hnext ihx ih
     all_goals first | rw[hs,<-hinv];clear hs;simp[*];done | rw[<-hinv];clear hs;simp[*];done
    ·rw[d_] at hinv
     rw[<-hinv] at hs;clear hinv;refine rS_ Tryz.func165 ?_;simp only[go_sem,seval]
     repeat' (first|((first | refine E8 ?_ ?_<;>intro hq | (refine A8 (fun x hx=>have hq:=hx;?_)))<;>(try simp only[go_sem,seval,hq]))|((first|refine(Y9 _ sd).calls rfl ?_|refine⟨sd,?_⟩)<;>(try simp only[go_sem,seval]))|fail)
     all_goals try (exfalso;omega)
     all_goals try (clear ih;simp_all[x8,K4,I5];done)
     all_goals try (rw[hs,hform];clear hs hform ih;first | simp[*,x8];done | simp[*,x8];omega | simp[*,x8];intros;omega)
     all_goals try (cases N<;>first | rfl | (exfalso;simp only[eq_comm (a:=true),i_] at hs;have hfi:=Gl.form_inv hs.1.1;clear hs hform;omega) | (exfalso;simp only[eq_comm (a:=true),i_] at hs;have hfi:=Gl.form_inv hs.1;clear hs hform;omega))
     all_goals try (rw[hs,Gl.form_simple (by omega) (by omega) (by assumption) (by omega) (by omega)];clear hs hform;simp[*];done)
     all_goals try (rw[hs,Gl.form_and (by omega) (by assumption) (by omega) (by omega)];clear hs hform;simp[*];done)
     all_goals try (rw[hs,Gl.form_6 (by omega) (by assumption) (by omega) (by omega) (by assumption)];clear hs hform;simp[*];done)
     all_goals try (rw[hs,Gl.form_10 (by omega) (by assumption) (by omega) (by omega) (by assumption)];clear hs hform;simp[*];done)
  ·refine aE_ Tryz.func165 ?_
   refine rS_ Tryz.func165 ?_;simp only[go_sem,seval]
   repeat' (first|refine bP8 (by omega) (by omega) ?_<;>(try simp only[go_sem,seval,hk9])|refine E8 ?_ ?_<;>intro hq<;>try simp only[go_sem,seval,hk9,hq]|simp(disch:=omega) only[l6]|((first|refine(F8 _ _ _).calls rfl ?_|refine(av5 _ sd).calls rfl ?_|refine⟨sd,?_⟩)<;>(try simp only[go_sem,seval,hk9]))|fail)
   all_goals try (exfalso;omega)
   all_goals try (clear ih;simp_all[x8,K4,I5];done)
   all_goals try (rw[hs,hform];clear hs hform ih;first | simp[*,x8];done | simp[*,x8];omega | simp[*,x8];intros;omega)
   all_goals try (cases N<;>first | rfl | (exfalso;simp only[eq_comm (a:=true),i_] at hs;have hfi:=Gl.form_inv hs.1.1;clear hs hform;omega) | (exfalso;simp only[eq_comm (a:=true),i_] at hs;have hfi:=Gl.form_inv hs.1;clear hs hform;omega))
   all_goals
    refine AW.rng t.goals [1,61,62] 63 61 (fun _:Unit=>[]) (fun H _=>H) (fun r _=>r.all Gl.shape=t.goals.all Gl.shape) () rfl (by simp) rfl I7 (fun i x r acc hxi hdr hlt hm hinv hnext=>?_) (fun acc hinv=>?_)
    ·have hx:=f_ hxi
     have ihx:=ih x hx;have hwx:=Gl.wt_goals hx;rw[b_] at hinv;refine rS_ Tryz.func165 ?_;simp only[go_sem,seval,hlt,d9 hxi]
     repeat' (first|refine E8 ?_ ?_<;>intro hq<;>try simp only[go_sem,seval,hq]|simp(disch:=omega) only[l6]|refine hnext () _ ?_ I7|refine(ihx (by omega)).calls rfl ?_<;>try simp only[go_sem,seval]|fail)
     all_goals clear hnext ihx ih
     all_goals first | rw[hs,<-hinv];clear hs;simp[*];done | rw[<-hinv];clear hs;simp[*];done
    ·rw[d_] at hinv
     rw[<-hinv] at hs;clear hinv;refine rS_ Tryz.func165 ?_;simp only[go_sem,seval]
     repeat' (first|((first | refine E8 ?_ ?_<;>intro hq | (refine A8 (fun x hx=>have hq:=hx;?_)))<;>(try simp only[go_sem,seval,hq]))|((first|refine(Y9 _ sd).calls rfl ?_|refine⟨sd,?_⟩)<;>(try simp only[go_sem,seval]))|fail)
     all_goals try (exfalso;omega)
     all_goals try (clear ih;simp_all[x8,K4,I5];done)
     all_goals try (rw[hs,hform];clear hs hform ih;first | simp[*,x8];done | simp[*,x8];omega | simp[*,x8];intros;omega)
     all_goals try (cases N<;>first | rfl | (exfalso;simp only[eq_comm (a:=true),i_] at hs;have hfi:=Gl.form_inv hs.1.1;clear hs hform;omega) | (exfalso;simp only[eq_comm (a:=true),i_] at hs;have hfi:=Gl.form_inv hs.1;clear hs hform;omega))
     all_goals try (rw[hs,Gl.form_simple (by omega) (by omega) (by assumption) (by omega) (by omega)];clear hs hform;simp[*];done)
     all_goals try (rw[hs,Gl.form_and (by omega) (by assumption) (by omega) (by omega)];clear hs hform;simp[*];done)
     all_goals try (rw[hs,Gl.form_6 (by omega) (by assumption) (by omega) (by omega) (by assumption)];clear hs hform;simp[*];done)
     all_goals try (rw[hs,Gl.form_10 (by omega) (by assumption) (by omega) (by omega) (by assumption)];clear hs hform;simp[*];done)
theorem al9 (t:Gl) (hw:wtL t.enc<=9000000):Gives Tryz.prog 130 [.agg t.enc] (.d (.bool (ak5 t))):=by
 have hc:=Gl.count_ok t;generalize ak5 t=N at hc |-;refine aE_ Tryz.func130 ?_;refine rS_ Tryz.func130 ?_;simp only[go_sem,seval]
 repeat' (first|refine E8 ?_ ?_<;>intro hq<;>try simp only[go_sem,seval,hq]|((first|refine(av3 _ _ sd sd sd).calls rfl ?_|refine(aT8 _ sd).calls rfl ?_)<;>(try simp only[go_sem,seval]))|fail)
 all_goals first
  | rw[<-hc,decide_eq_false (by omega)];rfl
  | simp_all;done
theorem aK5 (t:Gl) (hw:wtL t.enc<=9000000):Gives Tryz.prog 92 [.agg t.enc] (.d (.int .i64 (if ak5 t then t.countF 80 else 0))):=by
 refine aE_ Tryz.func92 ?_;refine rS_ Tryz.func92 ?_;simp only[go_sem,seval]
 repeat' (first|refine E8 ?_ ?_<;>intro hq<;>try simp only[go_sem,seval,hq]|((first|refine(al9 _ sd).calls rfl ?_|refine(av3 _ _ sd sd sd).calls rfl ?_)<;>(try simp only[go_sem,seval]))|fail)
 all_goals try clear ih
 all_goals try clear hnext
 all_goals first
  | simp_all;done
  | simp_all;omega
  | simp_all;split<;>simp_all<;>omega
  | exfalso;omega
  | assumption
end Go.Proofs.YtehgpkadkdekmaaGreatDoor
namespace Go.Proofs
open Go.Shelf
def Tryz.laysM171_ren:Go.Shelf.Ren:=⟨fun | 171=>185 | 243=>198 | 246=>205 | 283=>207 | 284=>208 | 285=>209 | 286=>210 | 129=>196 | 317=>211 | 318=>212 | 319=>213 | 320=>214 | 337=>215 | 338=>216 | n=>n,fun | 3=>3 | 9=>9 | 2=>2 | 4=>4 | 171=>237 | 0=>0 | 53=>226 | 37=>22 | 5=>5 | 173=>239 | 212=>242 | 51=>224 | 20=>20 | 213=>243 | 46=>135 | 232=>244 | 233=>245 | n=>n,fun | 17=>0 | 18=>1 | 19=>2 | n=>n⟩
theorem Tryz.laysM171:Go.Proofs.LaysM.n171 Tryz.prog Tryz.laysM171_ren:={
  mixed:=by kernel_rfl
  f129:=Tryz.func196.trans (congrArg some (by kernel_rfl))
  f171:=Tryz.func185.trans (congrArg some (by kernel_rfl))
  f243:=Tryz.func198.trans (congrArg some (by kernel_rfl))
  f246:=Tryz.func205.trans (congrArg some (by kernel_rfl))
  f283:=Tryz.func207.trans (congrArg some (by kernel_rfl))
  f284:=Tryz.func208.trans (congrArg some (by kernel_rfl))
  f285:=Tryz.func209.trans (congrArg some (by kernel_rfl))
  f286:=Tryz.func210.trans (congrArg some (by kernel_rfl))
  f317:=Tryz.func211.trans (congrArg some (by kernel_rfl))
  f318:=Tryz.func212.trans (congrArg some (by kernel_rfl))
  f319:=Tryz.func213.trans (congrArg some (by kernel_rfl))
  f320:=Tryz.func214.trans (congrArg some (by kernel_rfl))
  f337:=Tryz.func215.trans (congrArg some (by kernel_rfl))
  f338:=Tryz.func216.trans (congrArg some (by kernel_rfl))
  t0:=Tryz.underlying0
  a0:=Tryz.isAgg0
  z0:=Tryz.sizeOf0
  v0:=Tryz.zeroValue0
  t2:=Tryz.underlying2
  a2:=Tryz.isAgg2
  z2:=Tryz.sizeOf2
  v2:=Tryz.zeroValue2
  t3:=Tryz.underlying3
  a3:=Tryz.isAgg3
  z3:=Tryz.sizeOf3
  v3:=Tryz.zeroValue3
  t4:=Tryz.underlying4
  a4:=Tryz.isAgg4
  z4:=Tryz.sizeOf4
  v4:=Tryz.zeroValue4
  t5:=Tryz.underlying5
  a5:=Tryz.isAgg5
  z5:=Tryz.sizeOf5
  v5:=Tryz.zeroValue5
  t9:=Tryz.underlying9
  a9:=Tryz.isAgg9
  z9:=Tryz.sizeOf9
  v9:=Tryz.zeroValue9
  t20:=Tryz.underlying20
  a20:=Tryz.isAgg20
  z20:=Tryz.sizeOf20
  v20:=Tryz.zeroValue20
  t37:=Tryz.underlying22
  a37:=Tryz.isAgg22
  z37:=Tryz.sizeOf22
  v37:=Tryz.zeroValue22
  t46:=Tryz.underlying135
  a46:=Tryz.isAgg135
  z46:=Tryz.sizeOf135
  v46:=Tryz.zeroValue135
  t51:=Tryz.underlying224
  a51:=Tryz.isAgg224
  z51:=Tryz.sizeOf224
  v51:=Tryz.zeroValue224
  t53:=Tryz.underlying226
  a53:=Tryz.isAgg226
  z53:=Tryz.sizeOf226
  v53:=Tryz.zeroValue226
  t171:=Tryz.underlying237
  a171:=Tryz.isAgg237
  z171:=Tryz.sizeOf237
  v171:=Tryz.zeroValue237
  t173:=Tryz.underlying239
  a173:=Tryz.isAgg239
  z173:=Tryz.sizeOf239
  v173:=Tryz.zeroValue239
  t212:=Tryz.underlying242
  a212:=Tryz.isAgg242
  z212:=Tryz.sizeOf242
  v212:=Tryz.zeroValue242
  t213:=Tryz.underlying243
  a213:=Tryz.isAgg243
  z213:=Tryz.sizeOf243
  t232:=Tryz.underlying244
  a232:=Tryz.isAgg244
  z232:=Tryz.sizeOf244
  v232:=Tryz.zeroValue244
  t233:=Tryz.underlying245
  a233:=Tryz.isAgg245
  z233:=Tryz.sizeOf245
  v233:=Tryz.zeroValue245
  g17:=by kernel_rfl
  g18:=by kernel_rfl
  g19:=by kernel_rfl
  i0:=by kernel_rfl
  i2:=by kernel_rfl
  i3:=by kernel_rfl
  i4:=by kernel_rfl
  i5:=by kernel_rfl
  i9:=by kernel_rfl
  i20:=by kernel_rfl
  i37:=by kernel_rfl
  i46:=by kernel_rfl
  i51:=by kernel_rfl
  i53:=by kernel_rfl
  i171:=by kernel_rfl
  i173:=by kernel_rfl
  i212:=by kernel_rfl
  i232:=by kernel_rfl
  i233:=by kernel_rfl
  m17:=by kernel_rfl
  m18:=by kernel_rfl
  m19:=by kernel_rfl }
open Go.RowKit Go.Sort Go.Lib in
/-- strconv.Itoa: "Itoa is equivalent to FormatInt(int64(i), 10).": i's DECIMAL NUMERAL ('Lib.itoa': a '-' where i is negative, then the digits), FOR EVERY int. The world behind the call: the world before it, new blocks behind the heap (the library's 'var a [24]byte'), draws. (LAID: no walk: one application.) -/
theorem Tryz.strconv_Itoa (n:Int) (h0:-9223372036854775808<=n) (h1:n<=9223372036854775807) (w:World) (htab:Lib.TabIs Tryz.prog w "internal/strconv.uint64pow10" .u64 Lib.pow10Tab) :
    Calls Tryz.prog 185 #[.int .i64 n] w fun e w'=>e=.returned (.string ⟨(Lib.itoa n).toArray⟩)/\∃k os,w'=grow (w.drewN k) os:=Any.strconv_Itoa Tryz.laysM171 n h0 h1 w htab
def Tryz.lays191_ren:Go.Shelf.Ren:=⟨fun | 191=>168 | 189=>178 | 125=>183 | 257=>182 | 128=>195 | 129=>196 | 294=>186 | 295=>187 | 296=>188 | 297=>189 | 298=>190 | 299=>191 | 216=>192 | 300=>193 | 301=>194 | 328=>199 | 329=>200 | 330=>201 | 331=>202 | 332=>203 | 215=>204 | 343=>206 | n=>n,fun | 28=>129 | 0=>0 | 3=>3 | 46=>135 | 51=>224 | 53=>226 | 4=>4 | 183=>218 | 182=>217 | 131=>107 | 5=>5 | 9=>9 | 218=>228 | 222=>80 | 228=>234 | 229=>235 | n=>n,fun | n=>n⟩
theorem Tryz.lays191:Go.Proofs.Lays.n191 Tryz.prog Tryz.lays191_ren:={
  mixed:=by kernel_rfl
  f125:=Tryz.func183.trans (congrArg some (by kernel_rfl))
  f128:=Tryz.func195.trans (congrArg some (by kernel_rfl))
  f129:=Tryz.func196.trans (congrArg some (by kernel_rfl))
  f189:=Tryz.func178.trans (congrArg some (by kernel_rfl))
  f191:=Tryz.func168.trans (congrArg some (by kernel_rfl))
  f215:=Tryz.func204.trans (congrArg some (by kernel_rfl))
  f216:=Tryz.func192.trans (congrArg some (by kernel_rfl))
  f257:=Tryz.func182.trans (congrArg some (by kernel_rfl))
  f294:=Tryz.func186.trans (congrArg some (by kernel_rfl))
  f295:=Tryz.func187.trans (congrArg some (by kernel_rfl))
  f296:=Tryz.func188.trans (congrArg some (by kernel_rfl))
  f297:=Tryz.func189.trans (congrArg some (by kernel_rfl))
  f298:=Tryz.func190.trans (congrArg some (by kernel_rfl))
  f299:=Tryz.func191.trans (congrArg some (by kernel_rfl))
  f300:=Tryz.func193.trans (congrArg some (by kernel_rfl))
  f301:=Tryz.func194.trans (congrArg some (by kernel_rfl))
  f328:=Tryz.func199.trans (congrArg some (by kernel_rfl))
  f329:=Tryz.func200.trans (congrArg some (by kernel_rfl))
  f330:=Tryz.func201.trans (congrArg some (by kernel_rfl))
  f331:=Tryz.func202.trans (congrArg some (by kernel_rfl))
  f332:=Tryz.func203.trans (congrArg some (by kernel_rfl))
  f343:=Tryz.func206.trans (congrArg some (by kernel_rfl))
  t0:=Tryz.underlying0
  a0:=Tryz.isAgg0
  z0:=Tryz.sizeOf0
  v0:=Tryz.zeroValue0
  t3:=Tryz.underlying3
  a3:=Tryz.isAgg3
  z3:=Tryz.sizeOf3
  v3:=Tryz.zeroValue3
  t4:=Tryz.underlying4
  a4:=Tryz.isAgg4
  z4:=Tryz.sizeOf4
  v4:=Tryz.zeroValue4
  t5:=Tryz.underlying5
  a5:=Tryz.isAgg5
  z5:=Tryz.sizeOf5
  v5:=Tryz.zeroValue5
  t9:=Tryz.underlying9
  a9:=Tryz.isAgg9
  z9:=Tryz.sizeOf9
  v9:=Tryz.zeroValue9
  t28:=Tryz.underlying129
  a28:=Tryz.isAgg129
  z28:=Tryz.sizeOf129
  v28:=Tryz.zeroValue129
  t46:=Tryz.underlying135
  a46:=Tryz.isAgg135
  z46:=Tryz.sizeOf135
  v46:=Tryz.zeroValue135
  t51:=Tryz.underlying224
  a51:=Tryz.isAgg224
  z51:=Tryz.sizeOf224
  v51:=Tryz.zeroValue224
  t53:=Tryz.underlying226
  a53:=Tryz.isAgg226
  z53:=Tryz.sizeOf226
  v53:=Tryz.zeroValue226
  t131:=Tryz.underlying107
  a131:=Tryz.isAgg107
  z131:=Tryz.sizeOf107
  v131:=Tryz.zeroValue107
  t182:=Tryz.underlying217
  a182:=Tryz.isAgg217
  z182:=Tryz.sizeOf217
  v182:=Tryz.zeroValue217
  t183:=Tryz.underlying218
  a183:=Tryz.isAgg218
  z183:=Tryz.sizeOf218
  v183:=Tryz.zeroValue218
  t218:=Tryz.underlying228
  a218:=Tryz.isAgg228
  z218:=Tryz.sizeOf228
  v218:=Tryz.zeroValue228
  t222:=Tryz.underlying80
  a222:=Tryz.isAgg80
  z222:=Tryz.sizeOf80
  v222:=Tryz.zeroValue80
  t228:=Tryz.underlying234
  a228:=Tryz.isAgg234
  z228:=Tryz.sizeOf234
  v228:=Tryz.zeroValue234
  t229:=Tryz.underlying235
  a229:=Tryz.isAgg235
  z229:=Tryz.sizeOf235
  v229:=Tryz.zeroValue235 }
open Go.Sort Go.RowKit in
theorem Tryz.sort_Ints (blk off cap:Nat) (zs:List Int) (w:World) (hH:Holds (Value.int .i64) w blk off zs.toArray) (hblk:blk<w.heap.size) (hsz:zs.length<4611686018427387904) :
    Calls Tryz.prog 168 #[.slice (some ⟨blk,off,none⟩) zs.length cap] w fun e w' =>
      e=.returned (.tuple #[])/\∃n os,w'=grow (putRow (Value.int .i64) (Sort.ahead w n) blk off (zs.mergeSort fun x y=>decide (x<=y)).toArray) os:=Any.sort_Ints Tryz.lays191 blk off cap zs w hH hblk hsz
def Tryz.laysGt8_ren:Go.Shelf.Ren:=⟨fun | 8=>74 | 13=>118 | 14=>119 | 16=>121 | 15=>120 | 29=>157 | 30=>158 | 42=>172 | 49=>181 | n=>n,fun | 20=>20 | 26=>124 | 36=>167 | 0=>0 | 38=>169 | 42=>173 | 3=>3 | 4=>4 | 47=>135 | 17=>17 | 33=>164 | 34=>165 | 89=>257 | 12=>12 | 56=>224 | 82=>251 | 5=>5 | 83=>252 | 84=>253 | 85=>213 | 86=>254 | 87=>255 | n=>n,fun | n=>n⟩
theorem Tryz.laysGt8:Go.Proofs.LaysGt.n8 Tryz.prog Tryz.laysGt8_ren:={
  mixed:=by kernel_rfl
  f8:=Tryz.func74.trans (congrArg some (by kernel_rfl))
  f13:=Tryz.func118.trans (congrArg some (by kernel_rfl))
  f14:=Tryz.func119.trans (congrArg some (by kernel_rfl))
  f15:=Tryz.func120.trans (congrArg some (by kernel_rfl))
  f16:=Tryz.func121.trans (congrArg some (by kernel_rfl))
  f29:=Tryz.func157.trans (congrArg some (by kernel_rfl))
  f30:=Tryz.func158.trans (congrArg some (by kernel_rfl))
  f42:=Tryz.func172.trans (congrArg some (by kernel_rfl))
  f49:=Tryz.func181.trans (congrArg some (by kernel_rfl))
  t0:=Tryz.underlying0
  a0:=Tryz.isAgg0
  z0:=Tryz.sizeOf0
  v0:=Tryz.zeroValue0
  i0:=by kernel_rfl
  t3:=Tryz.underlying3
  a3:=Tryz.isAgg3
  z3:=Tryz.sizeOf3
  v3:=Tryz.zeroValue3
  i3:=by kernel_rfl
  t4:=Tryz.underlying4
  a4:=Tryz.isAgg4
  z4:=Tryz.sizeOf4
  v4:=Tryz.zeroValue4
  i4:=by kernel_rfl
  t5:=Tryz.underlying5
  a5:=Tryz.isAgg5
  z5:=Tryz.sizeOf5
  v5:=Tryz.zeroValue5
  i5:=by kernel_rfl
  t12:=Tryz.underlying12
  a12:=Tryz.isAgg12
  z12:=Tryz.sizeOf12
  v12:=Tryz.zeroValue12
  i12:=by kernel_rfl
  t17:=Tryz.underlying17
  a17:=Tryz.isAgg17
  z17:=Tryz.sizeOf17
  v17:=Tryz.zeroValue17
  i17:=by kernel_rfl
  t20:=Tryz.underlying20
  a20:=Tryz.isAgg20
  z20:=Tryz.sizeOf20
  v20:=Tryz.zeroValue20
  i20:=by kernel_rfl
  t26:=Tryz.underlying124
  a26:=Tryz.isAgg124
  z26:=Tryz.sizeOf124
  v26:=Tryz.zeroValue124
  i26:=by kernel_rfl
  t33:=Tryz.underlying164
  a33:=Tryz.isAgg164
  z33:=Tryz.sizeOf164
  v33:=Tryz.zeroValue164
  i33:=by kernel_rfl
  t34:=Tryz.underlying165
  a34:=Tryz.isAgg165
  z34:=Tryz.sizeOf165
  v34:=Tryz.zeroValue165
  i34:=by kernel_rfl
  t36:=Tryz.underlying167
  a36:=Tryz.isAgg167
  z36:=Tryz.sizeOf167
  v36:=Tryz.zeroValue167
  i36:=by kernel_rfl
  t38:=Tryz.underlying169
  a38:=Tryz.isAgg169
  z38:=Tryz.sizeOf169
  v38:=Tryz.zeroValue169
  i38:=by kernel_rfl
  t42:=Tryz.underlying173
  a42:=Tryz.isAgg173
  z42:=Tryz.sizeOf173
  v42:=Tryz.zeroValue173
  i42:=by kernel_rfl
  t47:=Tryz.underlying135
  a47:=Tryz.isAgg135
  z47:=Tryz.sizeOf135
  v47:=Tryz.zeroValue135
  i47:=by kernel_rfl
  t56:=Tryz.underlying224
  a56:=Tryz.isAgg224
  z56:=Tryz.sizeOf224
  v56:=Tryz.zeroValue224
  i56:=by kernel_rfl
  t82:=Tryz.underlying251
  a82:=Tryz.isAgg251
  z82:=Tryz.sizeOf251
  v82:=Tryz.zeroValue251
  i82:=by kernel_rfl
  t83:=Tryz.underlying252
  a83:=Tryz.isAgg252
  z83:=Tryz.sizeOf252
  v83:=Tryz.zeroValue252
  i83:=by kernel_rfl
  t84:=Tryz.underlying253
  a84:=Tryz.isAgg253
  z84:=Tryz.sizeOf253
  v84:=Tryz.zeroValue253
  i84:=by kernel_rfl
  t85:=Tryz.underlying213
  a85:=Tryz.isAgg213
  z85:=Tryz.sizeOf213
  v85:=Tryz.zeroValue213
  i85:=by kernel_rfl
  t86:=Tryz.underlying254
  a86:=Tryz.isAgg254
  z86:=Tryz.sizeOf254
  v86:=Tryz.zeroValue254
  i86:=by kernel_rfl
  t87:=Tryz.underlying255
  a87:=Tryz.isAgg255
  z87:=Tryz.sizeOf255
  v87:=Tryz.zeroValue255
  i87:=by kernel_rfl
  t89:=Tryz.underlying257
  a89:=Tryz.isAgg257
  z89:=Tryz.sizeOf257
  v89:=Tryz.zeroValue257
  i89:=by kernel_rfl }
open Go.RowKit Go.Sort in
/-- .. and plain. (LAID: no walk: one application.) -/
theorem Tryz.sort_Ints_none (p:Option Addr) (cap:Nat) (w:World) :
    Calls Tryz.prog 168 #[.slice p 0 cap] w fun e w'=>e=.returned (.tuple #[])/\w'=w:=Any.sort_Ints_none Tryz.lays191 p cap w
end Go.Proofs
namespace Go.Proofs.YtehgpkadkdekmaaGreatDoor
open Go.Abs
set_option maxRecDepth 100000
set_option maxHeartbeats 4000000
set_option linter.unusedSimpArgs false
set_option linter.unusedVariables false
theorem aC8 {Acc:Type} {g:FuncId} {caps:List C} {m:Nat} {Hs:Acc->List O} {step:Acc->Int->Acc} (h:Clo Tryz.prog g caps m (fun n:Int=>D.int .i64 n) Hs (fun _=>True) step) :
  ∀(v:V) (a:Acc),ACalls Tryz.prog 140 [.d (.agg v.enc),.fn g caps] (Hs a) (fun c H'=>c=.tup []/\H'=Hs (v.vars.foldl step a)):=by
 intro v;induction v with
 | pair x y ihx ihy =>
  intro a;refine aE_ Tryz.func140 ?_;refine rS_ Tryz.func140 ?_;simp only[go_sem,seval,h.len,h.go,h.at0,h.atj,h.set0,h.setj,h.tk,h.tk0,h.tkj,h.refs,h.refsj,h.hcaps,h.capsj,j_,V.kind,V.int,V.kids]
  repeat' (first|((first|refine h.sub (ihx _) ?_|refine h.sub (ihy _) ?_)<;>(try simp only[go_sem,seval,h.len,h.go,h.at0,h.atj,h.set0,h.setj,h.tk,h.tk0,h.tkj,h.refs,h.refsj,h.hcaps,h.capsj,j_,V.kind,V.int,V.kids]))|fail)
  simp only[V.vars,p_]
 | _ =>
  intro a;refine aE_ Tryz.func140 ?_;refine rS_ Tryz.func140 ?_;simp only[go_sem,seval,h.len,h.go,h.at0,h.atj,h.set0,h.setj,h.tk,h.tk0,h.tkj,h.refs,h.refsj,h.hcaps,h.capsj,j_,V.kind,V.int,V.kids]
  repeat' (first|refine h.on trivial ?_<;>try simp only[go_sem,seval,h.len,h.go,h.at0,h.atj,h.set0,h.setj,h.tk,h.tk0,h.tkj,h.refs,h.refsj,h.hcaps,h.capsj,j_,V.kind,V.int,V.kids]|fail)
  all_goals rfl
theorem ah1 {Acc:Type} {g:FuncId} {caps:List C} {m:Nat} {Hs:Acc->List O} {Q:Gl->Prop} {step:Acc->Gl->Acc} (h:Clo Tryz.prog g caps m (fun x:Gl=>D.agg x.enc) Hs Q step) :
  ∀(t:Gl) (a:Acc),(∀x,x∈t.subs->Q x)->ACalls Tryz.prog 112 [.d (.agg t.enc),.fn g caps] (Hs a) (fun c H'=>c=.tup []/\H'=Hs (t.subs.foldl step a)):=by
 intro t;induction t using Gl.ind' with
 | h t ih =>
  intro a hq;have hqt:=hq t (by rw[Gl.subs_eq];simp);have hqs:∀x,x∈t.goals->∀y,y∈x.subs->Q y:=fun x hx y hy=>hq y (by rw[Gl.subs_eq,Gl.subss_eq];exact List.mem_cons_of_mem _ (List.mem_flatMap.2 ⟨x,hx,hy⟩));rw[Gl.subs_eq,List.foldl_cons];refine aE_ Tryz.func112 ?_;refine rS_ Tryz.func112 ?_;simp only[go_sem,seval,h.len,h.go,h.at0,h.atj,h.set0,h.setj,h.tk,h.tk0,h.tkj,h.refs,h.refsj,h.hcaps,h.capsj,j_]
  repeat' (first|refine h.on hqt ?_<;>try simp only[go_sem,seval,h.len,h.go,h.at0,h.atj,h.set0,h.setj,h.tk,h.tk0,h.tkj,h.refs,h.refsj,h.hcaps,h.capsj,j_]|fail)
  refine AW.rng t.goals [1,10,11] 12 10 (fun _:Acc=>[]) (fun _ acc=>Hs acc++[.box (t.enc.map .d)]) (fun r acc=>(Gl.subss r).foldl step acc=(Gl.subss t.goals).foldl step (step a t)) (step a t) rfl (by simp) rfl bV2 (fun i x r acc hxi hdr hlt hm hinv hnext=>?_) (fun acc hinv=>?_)
  ·have hx:=f_ hxi
   have ihx:=ih x hx acc (hqs x hx);refine rS_ Tryz.func112 ?_;simp only[go_sem,seval,hlt,d9 hxi,h.len,h.go,h.at0,h.atj,h.set0,h.setj,h.tk,h.tk0,h.tkj,h.refs,h.refsj,h.hcaps,h.capsj,j_]
   repeat' (first|simp(disch:=omega) only[l6]|refine hnext (x.subs.foldl step acc) _ ?_ bV2|refine h.sub ihx ?_<;>try simp only[go_sem,seval,h.len,h.go,h.at0,h.atj,h.set0,h.setj,h.tk,h.tk0,h.tkj,h.refs,h.refsj,h.hcaps,h.capsj,j_]|fail)
   rw[<-hinv];simp only[Gl.subss,p_]
  ·simp only[Gl.subss,y_] at hinv
   subst hinv;refine rS_ Tryz.func112 ?_;simp only[go_sem,seval,h.len,h.go,h.at0,h.atj,h.set0,h.setj,h.tk,h.tk0,h.tkj,h.refs,h.refsj,h.hcaps,h.capsj,j_];all_goals rfl
theorem bF1 (gb:List D):Clo Tryz.prog 141 [.ptr 2 0] 3 (fun n:Int=>D.int .i64 n) (fun ks:List Int=>[.box (gb.map .d),.map false (am6 ks),.box [.map 1]]) (fun _=>True) az3:=by
 refine⟨by kernel_rfl,rfl,fun _=>rfl,fun a=>by simp only[b_,d_,O.refsLt,l7];rfl,fun a x _=>?_⟩;refine aE_ Tryz.func141 ?_;refine rS_ Tryz.func141 ?_;simp only[go_sem,seval];all_goals simp[aM0,O.refsLt,C.refsLt,C.refsLt1,l7,O9]
theorem bQ2 (gb:List D):Clo Tryz.prog 139 [.ptr 2 0] 3 (fun x:Gl=>D.agg x.enc) (fun ks:List Int=>[.box (gb.map .d),.map false (am6 ks),.box [.map 1]]) (fun x=>∀t,t∈x.terms->M7 t=true) (fun ks x=>(Tm.varss x.terms).foldl az3 ks):=by
 have h:=bF1 gb;refine⟨by kernel_rfl,rfl,fun _=>rfl,fun a=>by simp only[b_,d_,O.refsLt,l7];rfl,fun a g hq=>?_⟩;refine aE_ Tryz.func139 ?_;refine rS_ Tryz.func139 ?_;simp only[go_sem,seval];refine AW.rng g.terms [1,6,7] 8 6 (fun _:List Int=>[]) (fun _ ks=>[.box (gb.map .d),.map false (am6 ks),.box [.map 1],.box (g.enc.map .d)]) (fun r acc=>(Tm.varss r).foldl az3 acc=(Tm.varss g.terms).foldl az3 a) a rfl (by simp) rfl A7 (fun i x r acc hxi hdr hlt hm hinv hnext=>?_) (fun acc hinv=>?_)
 ·have hx:=f_ hxi
  obtain⟨v,rfl,hv⟩:=bn9 (hq x hx);refine rS_ Tryz.func139 ?_;simp only[go_sem,seval,hlt,d9 hxi]
  repeat' (first|simp(disch:=omega) only[l6]|refine hnext (v.vars.foldl az3 acc) _ ?_ A7|refine h.sub (X:=[_,_]) (aC8 h v acc) ?_<;>try simp only[go_sem,seval]|fail)
  rw[<-hinv];simp only[Tm.varss,p_,V.vars_tm]
 ·simp only[Tm.varss,y_] at hinv
  subst hinv;refine rS_ Tryz.func139 ?_;simp only[go_sem,seval];all_goals simp[O.refsLt,C.refsLt,C.refsLt1,l7,O9]
theorem aE7 (ks:List Int) (hn:ks.Nodup) (hl:ks.length<=9000000):ACalls Tryz.prog 142 [.map 0] [.map false (am6 ks)] (fun c H'=>c=.d (.sl (A9 (P9 ks)))/\H'=[.map false (am6 ks)]):=by
 refine aE_ Tryz.func142 ?_;refine rS_ Tryz.func142 ?_;simp only[go_sem,seval];refine AW.adoptB 3 1 3 (by decide) rfl ?_;refine AW.lp [7] (fun p:List Nat×List Int=>[(3,.own 2 p.2.length)]) (fun _ p=>[.map false (am6 ks),.iter 0 ks.length ks.length p.1,.buf p.2.length 1 3 (A9 p.2)]) (fun p=>p.1.Nodup/\(∀i,i∈p.1->i<ks.length)/\p.2=p.1.map (fun i=>ks.getD i 0)) (fun p=>ks.length - p.1.length) ([],[]) ⟨by simp,by simp,rfl⟩ (by refine⟨by simp[mkS],by simp[mkS,ab5,A9],by simp[mkS,O.refsLt],?_⟩;simp[mkS,Abs.get,C.refsLtT,C.refsLt,C.refsLt1]) ?_;rintro ⟨seen,out⟩ ⟨h1,h2,h3⟩ hnext;dsimp only at h1 h2 h3 hnext;have hso:out.length=seen.length:=by rw[h3];simp
 have hle:=aF9 ks.length seen h1 h2;have hmx:maxLen=9223372036854775807:=rfl;refine l9 Tryz.func142 mixed 7 _ _ (by kernel_rfl) ?_;simp only[go_sem,seval,run.eq_1];refine aI3 (fun hall=>?_) (fun i p hp hns=>?_)
 ·have hpk:=bg0 hn h1 h2 (fun i hi=>hall i (by rw[ab5];exact hi))
  rw[<-h3] at hpk;refine be6 Tryz.sort_Ints Tryz.sort_Ints_none (r:=2) (by omega) rfl ?_;simp only[go_sem,seval,run.eq_1];refine AW.freezeB 3 2 rfl rfl ?_;refine rS_ Tryz.func142 ?_;simp only[go_sem,seval];rw[bC1 hpk.1,aQ7 hpk.2]
 ·obtain⟨k,hk,rfl⟩:=bE5 hp
  have hik:=(e_.1 hk).1;have hlt:(seen++[i]).length<=ks.length:=aF9 _ _ (by rw[List.nodup_append];exact⟨h1,by simp,fun a ha b hb=>by simp at hb;subst hb;intro e;subst e;exact hns ha⟩) (fun x hx=>by
   rcases l_.1 hx with hx | hx
   ·exact h2 x hx
   ·simp at hx;omega)
  simp only[c_,a_,g_] at hlt;refine rS_ Tryz.func142 ?_;simp only[go_sem,seval,List.getLast?_concat,d9 hp,d9 hk,ab5,Y2];have hnd:(seen++[i]).Nodup:=by rw[List.nodup_append];exact⟨h1,by simp,fun a ha b hb=>by simp at hb;subst hb;intro e;subst e;exact hns ha⟩
  refine⟨⟨by omega,by omega,hnext (seen++[i],out++[k]) _ ⟨hnd,?_,?_⟩ ?_ ?_⟩,hik⟩
  ·intro x hx
   rcases l_.1 hx with hx | hx
   ·exact h2 x hx
   ·simp at hx;omega
  ·simp only[List.map_append,h3,I_,s_]
   congr 2;rw[x_,hk];rfl
  ·simp only[c_,a_,g_];omega
  ·refine⟨by simp[mkS],by simp[mkS,ab5,aN9,bu7],by simp[mkS,O.refsLt],?_⟩;simp[mkS,Abs.get,C.refsLtT,C.refsLt,C.refsLt1]
theorem aw3 (t:Gl) (hs:t.shape=true) (hw:wtL t.enc<=9000000):Gives Tryz.prog 109 [.agg t.enc] (.d (.sl (A9 (P9 t.vars)))):=by
 have h:=bQ2 t.enc;have hterms:∀x,x∈t.subs->∀u,u∈x.terms->M7 u=true:=fun x hx=>Gl.shape_terms (Gl.shape_sub hs x hx);have hf:t.subs.foldl (fun ks x=>(Tm.varss x.terms).foldl az3 ks) []=t.vars.foldl az3 []:=by rw[Gl.vars_subs,ak6]
 have hvw:=Gl.vars_wt t;have hkl:=aO8 (vs:=t.vars) (ks:=[]);simp only[g_] at hkl;have hkn:(t.vars.foldl az3 []).Nodup:=aw4 (by simp);have hka:P9 (t.vars.foldl az3 [])=P9 t.vars:=aQ7 (fun x=>by rw[aO7];simp);have e1:=ah1 h t [] hterms;rw[hf] at e1;refine aE_ Tryz.func109 ?_;refine rS_ Tryz.func109 ?_;simp only[go_sem,seval]
 repeat' (first|((first|refine ACalls.mono e1 ?_<;>(rintro c H' ⟨rfl,rfl⟩)|(refine(aE7 _ hkn (by omega)).at1 rfl 1 rfl rfl ?_<;>(rintro c o' ⟨rfl,ho⟩;cases ho;refine⟨rfl,rfl,?_⟩)))<;>(try simp only[go_sem,seval,C.at1]))|fail)
 all_goals rw[hka]
theorem ao4 (l:List Int) (n:Int) (ha:Asc l) (hl:l.length<=9000000):Gives Tryz.prog 175 [.sl (A9 l),.int .i64 n] (.d (.sl (A9 (ab8 l n)))):=by
 have hat:=fun k=>bP6 (n:=n) (k:=k) ha;have hmx:maxLen=9223372036854775807:=rfl;generalize ab8 l n=N at hat |-;refine aE_ Tryz.func175 ?_;refine rS_ Tryz.func175 ?_;simp only[go_sem,seval];refine AW.lp [0,1] (fun k:Nat=>[(5,.d (.int .i64 k))]) (fun H _=>H) (fun k=>k<=l.length/\∀j x,k<=j->l[j]? = some x->n<=x) (fun k=>k) l.length ⟨m_ _,fun j x hj hx=>by have:=(e_.1 hx).1;omega⟩ (by simp only[Y2];exact by refine⟨by simp[mkS],by simp[mkS],by simp[mkS,O.refsLt,C.refsLt,C.refsLt1],?_⟩;simp[mkS,Abs.get,C.refsLtT,C.refsLt,C.refsLt1]) ?_;rintro k ⟨hk,hge⟩ hnext;have z0:((0:Nat):Int)=0:=rfl;have fin:∀k,k<=l.length->(N=if l[k]? = some n then l else l.take k++([n]++l.drop k))->∀y,l[k]? = some y->(y=n->N=l)/\(y≠n->N=l.take k++([n]++l.drop k)):=fun k _ h y hy=>by
  rw[hy] at h;exact⟨fun e=>by rw[h,e,if_pos rfl],fun e=>by rw[h,if_neg (by simpa using e)]⟩
 have fin0:∀k,(N=if l[k]? = some n then l else l.take k++([n]++l.drop k))->(l.length:Int)<=k->N=l.take k++([n]++l.drop k):=fun k h hk=>by
  rw[h,if_neg (by rw[D_ (by omega)];simp)]
 by_cases h0:k=0
 ·subst h0
  have hN:=hat 0 hge (.inl rfl);have fa:=fin 0 (by omega) hN;have fb:=fin0 0 hN;clear hnext hat fin fin0 hN;refine rS_ Tryz.func175 ?_;simp only[go_sem,seval,z0]
  repeat' (first|((first | refine E8 ?_ ?_<;>intro hq | (refine A8 (fun x hx=>have hq:=hx;?_)))<;>(try simp only[go_sem,seval,z0,hq]))|refine⟨sd,?_⟩<;>try simp only[go_sem,seval,z0]|fail)
  all_goals first
   | rw[(fa _ (by assumption)).1 (by assumption)];done
   | rw[(fa _ (by assumption)).2 (by assumption)];simp[A9];done
   | rw[fb (by omega)];simp[A9];done
 ·obtain⟨k,rfl⟩:∃k',k=k'+1:=⟨k - 1,by omega⟩
  obtain⟨x,hx⟩:∃x,l[k]? = some x:=⟨_,h_ (by omega)⟩;have e1:(k:Int)+((1:Nat):Int) - 1=(k:Int):=by omega
  have e2:((k:Int)+((1:Nat):Int)).toNat=k+1:=by omega
  have e3:(k:Int)+1 - 1=(k:Int):=by omega
  have e4:((k:Int)+1).toNat=k+1:=by omega
  by_cases hxn:n<=x
  ·have hge':∀j y,k<=j->l[j]? = some y->n<=y:=fun j y hj hy=>by
    by_cases e:j=k
    ·subst e;rw[hx] at hy;cases hy;exact hxn
    ·exact hge j y (by omega) hy
   clear hat fin fin0;refine rS_ Tryz.func175 ?_;simp only[go_sem,seval,e1,e2,e3,e4,d9 hx]
   repeat' (first|((first | refine E8 ?_ ?_<;>intro hq | (refine A8 (fun x hx=>have hq:=hx;?_)))<;>(try simp only[go_sem,seval,e1,e2,e3,e4,d9 hx,hq]))|simp(disch:=omega) only[l6]|refine⟨sd,?_⟩<;>try simp only[go_sem,seval,e1,e2,e3,e4,d9 hx]|fail)
   all_goals first
    | exact hnext k _ ⟨by omega,hge'⟩ (by omega) I7
    | exfalso;omega
  ·have hN:=hat (k+1) hge (.inr ⟨x,by simpa using hx,by omega⟩)
   have fa:=fin (k+1) (by omega) hN;have fb:=fin0 (k+1) hN;clear hnext hat fin fin0 hN;refine rS_ Tryz.func175 ?_;simp only[go_sem,seval,e1,e2,e3,e4,d9 hx]
   repeat' (first|((first | refine E8 ?_ ?_<;>intro hq | (refine A8 (fun x hx=>have hq:=hx;?_)))<;>(try simp only[go_sem,seval,e1,e2,e3,e4,d9 hx,hq]))|simp(disch:=omega) only[l6]|refine⟨sd,?_⟩<;>try simp only[go_sem,seval,e1,e2,e3,e4,d9 hx]|fail)
   all_goals first
    | rw[(fa _ (by assumption)).1 (by assumption)];done
    | rw[(fa _ (by assumption)).2 (by assumption)];simp[A9];done
    | rw[fb (by omega)];simp[A9];done
    | exfalso;omega
theorem aB8:∀(t:Tm) (l:List Int),Asc l->l.length+t.vars.length<=9000000->Gives Tryz.prog 160 [.agg t.enc,.sl (A9 l)] (.d (.sl (A9 (t.vars.foldl ab8 l)))):=by
 intro t;induction t using Tm.ind' with
 | h t ih =>
  intro l ha hl;have hv:=Tm.vars_eq t;by_cases hk:t.kind=1
  ·rw[if_pos hk] at hv
   rw[hv] at hl |-;simp only[a_,g_] at hl;refine aE_ Tryz.func160 ?_;refine rS_ Tryz.func160 ?_;simp only[go_sem,seval]
   repeat' (first|refine E8 ?_ ?_<;>intro hq<;>try simp only[go_sem,seval,hk,hq]|refine(ao4 _ _ (by assumption) sd).calls rfl ?_<;>try simp only[go_sem,seval,hk]|fail)
   all_goals try (exact absurd hk (by assumption))
   all_goals rfl
  ·rw[if_neg hk] at hv
   rw[hv] at hl |-;refine aE_ Tryz.func160 ?_;refine rS_ Tryz.func160 ?_;simp only[go_sem,seval]
   repeat' (first|refine E8 ?_ ?_<;>intro hq<;>try simp only[go_sem,seval,hq]|refine(ao4 _ _ (by assumption) sd).calls rfl ?_<;>try simp only[go_sem,seval]|fail)
   all_goals try (exact absurd (by assumption) hk)
   refine AW.rng t.args [15,16] 17 15 (fun acc:List Int=>[(1,.d (.sl (A9 acc)))]) (fun H _=>H) (fun r acc=>Asc acc/\acc.length+(Tm.varss r).length<=9000000/\(Tm.varss r).foldl ab8 acc=(Tm.varss t.args).foldl ab8 l) l rfl (by simp) ⟨ha,hl,rfl⟩ I7 (fun i x r acc hxi hdr hlt hm hinv hnext=>?_) (fun acc hinv=>?_)
   ·have hx:=f_ hxi
    obtain⟨v1,v2,v3⟩:=hinv;simp only[Tm.varss,c_,p_] at v2 v3;have ihx:=ih x hx acc v1 (by omega);have hfl:=ac1 (vs:=x.vars) (l:=acc);refine rS_ Tryz.func160 ?_;simp only[go_sem,seval,hlt,d9 hxi]
    repeat' (first|simp(disch:=omega) only[l6]|refine hnext (x.vars.foldl ab8 acc) _ ⟨ac2 v1,by omega,v3⟩ I7|refine ihx.calls rfl ?_<;>try simp only[go_sem,seval]|fail)
   ·obtain⟨v1,v2,v3⟩:=hinv
    simp only[Tm.varss,y_] at v3;refine rS_ Tryz.func160 ?_;simp only[go_sem,seval];rw[v3]
theorem bh8:∀(t:Gl) (l:List Int),Asc l->l.length+t.vars.length<=9000000->Gives Tryz.prog 132 [.agg t.enc,.sl (A9 l)] (.d (.sl (A9 (t.vars.foldl ab8 l)))):=by
 intro t;induction t using Gl.ind' with
 | h t ih =>
  intro l ha hl;have hv:=Gl.vars_eq t;rw[hv] at hl |-;rw[c_] at hl;rw[p_];refine aE_ Tryz.func132 ?_;refine rS_ Tryz.func132 ?_;simp only[go_sem,seval];refine AW.rng t.terms [2,10,11] 12 10 (fun acc:List Int=>[(1,.d (.sl (A9 acc)))]) (fun H _=>H) (fun r acc=>Asc acc/\acc.length+(Tm.varss r).length+(Gl.varss t.goals).length<=9000000/\(Tm.varss r).foldl ab8 acc=(Tm.varss t.terms).foldl ab8 l) l rfl (by simp) ⟨ha,by omega,rfl⟩ I7 (fun i x r acc hxi hdr hlt hm hinv hnext=>?_) (fun acc hinv=>?_)
  ·obtain⟨v1,v2,v3⟩:=hinv
   simp only[Tm.varss,c_,p_] at v2 v3;have hfl:=ac1 (vs:=x.vars) (l:=acc);refine rS_ Tryz.func132 ?_;simp only[go_sem,seval,hlt,d9 hxi]
   repeat' (first|simp(disch:=omega) only[l6]|refine hnext (x.vars.foldl ab8 acc) _ ⟨ac2 v1,by omega,v3⟩ I7|refine(aB8 _ _ (by assumption) sd).calls rfl ?_<;>try simp only[go_sem,seval]|fail)
  ·obtain⟨v1,v2,v3⟩:=hinv
   simp only[Tm.varss,y_,g_] at v2 v3;subst v3;refine rS_ Tryz.func132 ?_;simp only[go_sem,seval];refine AW.rng t.goals [21,22] 23 21 (fun acc:List Int=>[(1,.d (.sl (A9 acc)))]) (fun H _=>H) (fun r acc'=>Asc acc'/\acc'.length+(Gl.varss r).length<=9000000/\(Gl.varss r).foldl ab8 acc'=(Gl.varss t.goals).foldl ab8 ((Tm.varss t.terms).foldl ab8 l)) _ rfl (by simp) ⟨v1,by omega,rfl⟩ I7 (fun i x r acc hxi hdr hlt hm hinv hnext=>?_) (fun acc hinv=>?_)
   ·have hx:=f_ hxi
    obtain⟨w1,w2,w3⟩:=hinv;simp only[Gl.varss,c_,p_] at w2 w3;have ihx:=ih x hx acc w1 (by omega);have hfl:=ac1 (vs:=x.vars) (l:=acc);refine rS_ Tryz.func132 ?_;simp only[go_sem,seval,hlt,d9 hxi]
    repeat' (first|simp(disch:=omega) only[l6]|refine hnext (x.vars.foldl ab8 acc) _ ⟨ac2 w1,by omega,w3⟩ I7|refine ihx.calls rfl ?_<;>try simp only[go_sem,seval]|fail)
   ·obtain⟨w1,w2,w3⟩:=hinv
    simp only[Gl.varss,y_] at w3;refine rS_ Tryz.func132 ?_;simp only[go_sem,seval];rw[w3]
set_option maxHeartbeats 8000000
theorem Z7 (p:Pg) (s:List UInt8):Gives Tryz.prog 64 [.agg p.enc,.str s] (.d (.int .i64 (p.find s))):=by
 refine aE_ Tryz.func64 ?_;refine rS_ Tryz.func64 ?_;simp only[go_sem,seval];refine AW.rng p.rels [1,8,9] 10 8 (fun _:Unit=>[]) (fun H _=>H) (fun r _=>V9 r s ((p.rels.length - r.length:Nat):Int)=p.find s) () rfl (by simp) (by simp[Pg.find]) I7 (fun i x r acc hxi hdr hlt hm hinv hnext=>?_) (fun acc hinv=>?_)
 ·have hdl:=aq9 hdr
  have hdl2:p.rels.length - r.length=i+1:=by have:=congrArg List.length hdr;simp at this;omega
  simp only[a_,hdl,V9] at hinv;rw[hdl2] at hnext;refine rS_ Tryz.func64 ?_;simp only[go_sem,seval,hlt,d9 hxi]
  repeat' (first|refine E8 ?_ ?_<;>intro hq<;>try simp only[go_sem,seval,hq]|simp(disch:=omega) only[l6]|refine hnext () _ ?_ I7|fail)
  all_goals clear hnext
  ·rw[<-hinv];simp[*]
  ·rw[<-hinv];simp[*]
 ·simp only[V9] at hinv
  refine rS_ Tryz.func64 ?_;simp only[go_sem,seval];rw[hinv]
theorem aB7 (p:Pg) (s:List UInt8):Gives Tryz.prog 89 [.agg p.enc,.str s] (.d (.int .i64 (p.find s))):=by
 refine aE_ Tryz.func89 ?_;refine rS_ Tryz.func89 ?_;simp only[go_sem,seval];refine AW.rng p.rels [1,8,9] 10 8 (fun _:Unit=>[]) (fun H _=>H) (fun r _=>V9 r s ((p.rels.length - r.length:Nat):Int)=p.find s) () rfl (by simp) (by simp[Pg.find]) I7 (fun i x r acc hxi hdr hlt hm hinv hnext=>?_) (fun acc hinv=>?_)
 ·have hdl:=aq9 hdr
  have hdl2:p.rels.length - r.length=i+1:=by have:=congrArg List.length hdr;simp at this;omega
  simp only[a_,hdl,V9] at hinv;rw[hdl2] at hnext;refine rS_ Tryz.func89 ?_;simp only[go_sem,seval,hlt,d9 hxi]
  repeat' (first|refine E8 ?_ ?_<;>intro hq<;>try simp only[go_sem,seval,hq]|simp(disch:=omega) only[l6]|refine hnext () _ ?_ I7|fail)
  all_goals clear hnext
  ·rw[<-hinv];simp[*]
  ·rw[<-hinv];simp[*]
 ·simp only[V9] at hinv
  refine rS_ Tryz.func89 ?_;simp only[go_sem,seval];rw[hinv]
theorem aJ6 (t:Gl) (n:Int) (hs:t.shape=true) (hw:wtL t.enc<=9000000):Gives Tryz.prog 67 [.agg t.enc,.int .i64 n] (.d (.bool (t.varsLt n))):=by
 have hb:t.varsLt n=_:=(aQ5 t.vars n).symm;generalize t.varsLt n=N at hb |-;refine aE_ Tryz.func67 ?_;refine rS_ Tryz.func67 ?_;simp only[go_sem,seval]
 repeat' (first|refine(aw3 _ (by assumption) sd).calls rfl ?_<;>try simp only[go_sem,seval]|fail)
 refine AW.rng (P9 t.vars) [1,8,9] 10 8 (fun _:Unit=>[]) (fun H _=>H) (fun r _=>(r.all fun v=>decide (v<n))=N) () rfl (by simp[A9]) hb.symm I7 (fun i x r acc hxi hdr hlt hm hinv hnext=>?_) (fun acc hinv=>?_)
 ·rw[b_] at hinv
  refine rS_ Tryz.func67 ?_;simp only[go_sem,seval,hlt,d9 hxi]
  repeat' (first|refine E8 ?_ ?_<;>intro hq<;>try simp only[go_sem,seval,hq]|simp(disch:=omega) only[l6]|refine hnext () _ ?_ I7|fail)
  all_goals clear hnext
  all_goals first | rw[<-hinv,decide_eq_false (by omega)];rfl | rw[<-hinv,decide_eq_true (by omega)];rfl
 ·rw[d_] at hinv
  refine rS_ Tryz.func67 ?_;simp only[go_sem,seval];rw[hinv]
theorem bR6 (p:Pg) (gb:List D):Clo Tryz.prog 113 [.ptr 0 0,.ptr 2 0] 3 (fun x:Gl=>D.agg x.enc) (fun b:Bool=>[.box (p.enc.map .d),.box (gb.map .d),.box [.d (.bool b)]]) (fun _=>True) (fun b x=>b && p.fitC x):=by
 refine⟨by kernel_rfl,rfl,fun _=>rfl,fun a=>by simp only[b_,d_,O.refsLt,l7,C.refsLt,C.refsLt1];rfl,fun a x _=>?_⟩;have h1:=fun h=>Pg.fitC_other (p:=p) (x:=x) h;have h2:=fun h hf=>Pg.fitC_neg (p:=p) (x:=x) h hf;have h3:=fun h hf r hr=>Pg.fitC_at (p:=p) (x:=x) h hf (r:=r) hr;have hr:=Pg.find_range p x.name;generalize p.fitC x=N at h1 h2 h3 |-;refine aE_ Tryz.func113 ?_;refine rS_ Tryz.func113 ?_;simp only[go_sem,seval]
 repeat' (first|((first | refine E8 ?_ ?_<;>intro hq | (refine A8 (fun x hx=>have hq:=hx;?_)))<;>(try simp only[go_sem,seval,hq]))|((first|refine(Z7 _ _).calls rfl ?_|refine⟨sd,?_⟩)<;>(try simp only[go_sem,seval]))|fail)
 all_goals (refine⟨by simp only[l7,Bool.and_self],?_⟩;congr 6)
 ·rw[h3 (by assumption) (by assumption) _ hx,decide_eq_false (by assumption),L_]
 ·rw[h3 (by assumption) (by assumption) _ hx,decide_eq_true (by assumption),J_]
 ·rw[h2 (by assumption) (by assumption),L_]
 ·rw[h1 (by assumption),J_]
theorem aW2 (p:Pg) (g:Gl):Gives Tryz.prog 68 [.agg p.enc,.agg g.enc] (.d (.bool (p.callsFit g))):=by
 have e1:=ah1 (bR6 p g.enc) g true (fun _ _=>trivial);rw[aO6,v_] at e1;have hc:p.callsFit g=g.subs.all p.fitC:=rfl;rw[hc];generalize g.subs.all p.fitC=N at e1 |-;refine aE_ Tryz.func68 ?_;refine rS_ Tryz.func68 ?_;simp only[go_sem,seval]
 repeat' (first|refine ACalls.mono e1 ?_<;>(rintro c H' ⟨rfl,rfl⟩)<;>try simp only[go_sem,seval]|fail)
theorem aT6 (p:Pg):∀(t:Gl),t.shape=true->Gives Tryz.prog 131 [.agg p.enc,.agg t.enc] (.d (.bool (p.callsFit t))):=by
 intro t;induction t using Gl.ind' with
 | h t ih =>
  intro hs;have h0:=Pg.callsFit_eq p t;have h1:=fun h=>Pg.fitC_other (p:=p) (x:=t) h;have h2:=fun h hf=>Pg.fitC_neg (p:=p) (x:=t) h hf;have h3:=fun h hf r hr=>Pg.fitC_at (p:=p) (x:=t) h hf (r:=r) hr;have hr:=Pg.find_range p t.name;have hg:∀x,x∈t.goals->x.shape=true:=fun x hx=>by
   rw[Gl.shape_eq] at hs;simp only[i_,u_] at hs;exact hs.2 x hx
  have h9:t.kind=9->t.goals=[]:=fun h=>by
   rw[Gl.shape_eq] at hs;simp only[i_] at hs;have:=Gl.form_inv hs.1.1;exact w_ (by omega)
  generalize p.callsFit t=N at h0 |-;generalize p.fitC t=M at h0 h1 h2 h3;refine aE_ Tryz.func131 ?_;refine rS_ Tryz.func131 ?_;simp only[go_sem,seval]
  repeat' (first|((first | refine E8 ?_ ?_<;>intro hq | (refine A8 (fun x hx=>have hq:=hx;?_)))<;>(try simp only[go_sem,seval,hq]))|((first|refine(aB7 _ _).calls rfl ?_|refine⟨sd,?_⟩)<;>(try simp only[go_sem,seval]))|fail)
  all_goals try (rw[h9 (by assumption),d_,J_] at h0;subst h0)
  ·rw[h3 (by assumption) (by assumption) _ hx]
  ·rw[h2 (by assumption) (by assumption)]
  rw[h1 (by assumption),v_] at h0;refine AW.rng t.goals [2,30,31] 32 30 (fun _:Unit=>[]) (fun H _=>H) (fun r _=>r.all p.callsFit=N) () rfl (by simp) h0.symm I7 (fun i x r acc hxi hdr hlt hm hinv hnext=>?_) (fun acc hinv=>?_)
  ·have hx:=f_ hxi
   have ihx:=ih x hx (hg x hx);rw[b_] at hinv;refine rS_ Tryz.func131 ?_;simp only[go_sem,seval,hlt,d9 hxi]
   repeat' (first|refine E8 ?_ ?_<;>intro hq<;>try simp only[go_sem,seval,hq]|simp(disch:=omega) only[l6]|refine hnext () _ ?_ I7|refine ihx.calls rfl ?_<;>try simp only[go_sem,seval]|fail)
   all_goals clear hnext ihx ih
   all_goals (rw[<-hinv];simp[*];done)
  ·rw[d_] at hinv
   refine rS_ Tryz.func131 ?_;simp only[go_sem,seval];rw[hinv]
theorem bh7 (p:Pg) (g:Gl) (n:Int) (hw:wtL g.enc<=9000000):Gives Tryz.prog 91 [.agg p.enc,.agg g.enc,.int .i64 n] (.d (.bool (p.fits g n))):=by
 have hvw:=Gl.vars_wt g;have hasc:Asc []:=by simp[Asc]
 have hnil:(g.vars.foldl ab8 [])=P9 g.vars:=rfl;have hN:p.fits g n=(ak5 g && (P9 g.vars).all (fun v=>decide (v<n)) && p.callsFit g):=by rw[aQ5];rfl
 have hlast:=fun {m x}=>bl7 (ak9 g.vars) n (m:=m) (x:=x);have hal:(P9 g.vars).length<=0+g.vars.length:=ac1;have hempty:(P9 g.vars).length=0->(P9 g.vars).all (fun v=>decide (v<n))=true:=fun h=>by rw[w_ h];rfl
 generalize p.fits g n=N at hN |-;by_cases hok:ak5 g=true
 ·have hs:=am9 hok
  generalize hb:p.callsFit g=b at hN;refine aE_ Tryz.func91 ?_;refine rS_ Tryz.func91 ?_;simp only[go_sem,seval,hok,hb]
  repeat' (first|((first | refine E8 ?_ ?_<;>intro hq | (refine A8 (fun x hx=>have hq:=hx;?_)))<;>(try simp only[go_sem,seval,hnil,hok,hb,hq]))|simp(disch:=omega) only[l6]|((first|refine(bh8 g [] hasc (by simp;omega)).calls rfl ?_|refine(al9 _ sd).calls rfl ?_|refine(aT6 _ _ (by assumption)).calls rfl ?_|refine⟨sd,?_⟩)<;>(try simp only[go_sem,seval,hnil,hok,hb]))|fail)
  all_goals rw[hN]
  ·rw[hq,L_]
  ·rw[hlast (m:=((P9 g.vars).length - 1:Int).toNat) (by omega) hx,hok];simp[*]
  ·rw[hempty (by omega),hok];simp[*]
 ·simp only[C_] at hok
  rw[hN,hok];refine aE_ Tryz.func91 ?_;refine rS_ Tryz.func91 ?_;simp only[go_sem,seval,hok]
  repeat' (first|refine(al9 _ sd).calls rfl ?_<;>try simp only[go_sem,seval,hok]|fail)
theorem aa0 (p:Pg) (hw:wtL p.enc<=9000000):Gives Tryz.prog 36 [.agg p.enc] (.d (.bool (M9 p))):=by
 have hP:M9 p=(decide (p.rels.length<=8) && p.okL p.rels):=rfl;have hwr:∀r,r∈p.rels->wtL r.body.enc<=9000000/\r.name.length<=9000000:=fun r hr=>by
  have:=Pg.wt_rels hr;have:=Rl.wt_body r;omega
 generalize M9 p=N at hP |-;refine aE_ Tryz.func36 ?_;refine rS_ Tryz.func36 ?_;simp only[go_sem,seval]
 repeat' (first|refine E8 ?_ ?_<;>intro hq<;>try simp only[go_sem,seval,hq]|fail)
 ·rw[hP,decide_eq_false (by omega)];rfl
 rw[decide_eq_true (by omega),v_] at hP;refine AW.rng p.rels [1,10,11] 12 10 (fun _:Unit=>[]) (fun H _=>H) (fun r _=>p.okL r=N) () rfl (by simp) hP.symm I7 (fun i x r acc hxi hdr hlt hm hinv hnext=>?_) (fun acc hinv=>?_)
 ·have hdl:=aq9 hdr
  obtain⟨w1,w2⟩:=hwr x (f_ hxi);simp only[Pg.okL,hdl] at hinv;have hM:p.relOk i x=true↔p.find x.name=i/\J6 x.name=true/\(0<=x.arity/\x.arity<=4)/\(0<=x.locals/\x.locals<=8)/\x.body.cnt<=60/\x.body.shape=true/\x.body.varsLt (x.arity+x.locals)=true/\p.callsFit x.body=true:=by
   unfold Pg.relOk;simp only[i_,decide_eq_true_eq,and_assoc]
  have hgo:ak5 x.body=true↔x.body.cnt<=80/\x.body.shape=true:=by unfold ak5;simp
  have hcs:=Gl.count_spec x.body 80;have hcp:=Gl.cnt_pos x.body;have hsh:0<=x.body.nodes 60↔x.body.shape=true/\x.body.cnt<=60:=by
   unfold Gl.nodes;by_cases h:x.body.shape=true/\(x.body.cnt:Int)<=60
   ·rw[if_pos h];exact⟨fun _=>⟨h.1,by omega⟩,fun _=>by omega⟩
   ·rw[if_neg h];exact⟨fun h'=>by omega,fun h'=>absurd ⟨h'.1,by omega⟩ h⟩
  obtain⟨z,hz,hz1⟩:∃z:Int,(if ak5 x.body=true then x.body.countF 80 else 0)=z/\(ak5 x.body=true->z=x.body.cnt):=⟨_,rfl,fun h=>by rw[if_pos h];have:=(hgo.1 h).1;omega⟩;have hfi:p.fits x.body (x.arity+x.locals)=true↔ak5 x.body=true/\x.body.varsLt (x.arity+x.locals)=true/\p.callsFit x.body=true:=by unfold Pg.fits;simp only[i_,and_assoc]
  generalize p.relOk i x=M at hM hinv;generalize hb1:p.callsFit x.body=b1 at hM hfi;generalize hb3:p.fits x.body (x.arity+x.locals)=b3 at hfi;have hfl:¬M=true->N=false:=fun h=>by rw[<-hinv,Bool.eq_false_iff.2 h];rfl
  have htr:M=true->p.okL r=N:=fun h=>by rw[<-hinv,h];rfl
  clear hinv;refine rS_ Tryz.func36 ?_;simp only[go_sem,seval,hlt,d9 hxi]
  repeat' (first|refine E8 ?_ ?_<;>intro hq<;>try simp only[go_sem,seval,hb1,hb3,hz,hq]|simp(disch:=omega) only[l6]|refine hnext () _ ?_ I7|((first|refine(aJ6 _ _ (hsh.1 (by omega)).1 (by omega)).calls rfl ?_|refine(Z7 _ _).calls rfl ?_|refine(aa1 _ sd).calls rfl ?_|refine(ao9 _ _ sd sd sd).calls rfl ?_|refine(aW2 _ _).calls rfl ?_)<;>(try simp only[go_sem,seval,hb1,hb3,hz]))|fail)
  all_goals clear hnext hz
  all_goals first
   | (rw[hfl (fun h=>by obtain⟨m1,m2,m3,m4,m5,m6,m7,m8⟩:=hM.1 h;have hg:=hgo.2 ⟨by omega,m6⟩;have hs2:=hsh.2 ⟨m6,m5⟩;have hf2:=hfi.2 ⟨hg,m7,m8⟩;have hz2:=hz1 hg;clear hcs hgo hsh hfi hM hfl htr hz1;first | omega | simp_all)];done)
   | (refine htr (hM.2 ?_);have hs1:=hsh.1 (by omega);exact⟨by assumption,by assumption,by omega,by omega,hs1.2,hs1.1,by assumption,by assumption⟩)
   | (refine htr (hM.2 ?_);obtain⟨f1,f2,f3⟩:=hfi.1 (by assumption);obtain⟨g1,g2⟩:=hgo.1 f1;have hz2:=hz1 f1;exact⟨by assumption,by assumption,by omega,by omega,by omega,g2,f2,f3⟩)
   | skip
 ·simp only[Pg.okL] at hinv
  refine rS_ Tryz.func36 ?_;simp only[go_sem,seval];rw[hinv]
theorem Q3 (p:Pg) (hw:wtL p.enc<=9000000):Gives Tryz.prog 47 [.agg p.enc] (.d (.bool (M9 p))):=by
 have hP:M9 p=(decide (p.rels.length<=8) && p.okL p.rels):=rfl;have hwr:∀r,r∈p.rels->wtL r.body.enc<=9000000/\r.name.length<=9000000:=fun r hr=>by
  have:=Pg.wt_rels hr;have:=Rl.wt_body r;omega
 generalize M9 p=N at hP |-;refine aE_ Tryz.func47 ?_;refine rS_ Tryz.func47 ?_;simp only[go_sem,seval]
 repeat' (first|refine E8 ?_ ?_<;>intro hq<;>try simp only[go_sem,seval,hq]|fail)
 ·rw[hP,decide_eq_false (by omega)];rfl
 rw[decide_eq_true (by omega),v_] at hP;refine AW.rng p.rels [1,10,11] 12 10 (fun _:Unit=>[]) (fun H _=>H) (fun r _=>p.okL r=N) () rfl (by simp) hP.symm I7 (fun i x r acc hxi hdr hlt hm hinv hnext=>?_) (fun acc hinv=>?_)
 ·have hdl:=aq9 hdr
  obtain⟨w1,w2⟩:=hwr x (f_ hxi);simp only[Pg.okL,hdl] at hinv;have hM:p.relOk i x=true↔p.find x.name=i/\J6 x.name=true/\(0<=x.arity/\x.arity<=4)/\(0<=x.locals/\x.locals<=8)/\x.body.cnt<=60/\x.body.shape=true/\x.body.varsLt (x.arity+x.locals)=true/\p.callsFit x.body=true:=by
   unfold Pg.relOk;simp only[i_,decide_eq_true_eq,and_assoc]
  have hgo:ak5 x.body=true↔x.body.cnt<=80/\x.body.shape=true:=by unfold ak5;simp
  have hcs:=Gl.count_spec x.body 80;have hcp:=Gl.cnt_pos x.body;have hsh:0<=x.body.nodes 60↔x.body.shape=true/\x.body.cnt<=60:=by
   unfold Gl.nodes;by_cases h:x.body.shape=true/\(x.body.cnt:Int)<=60
   ·rw[if_pos h];exact⟨fun _=>⟨h.1,by omega⟩,fun _=>by omega⟩
   ·rw[if_neg h];exact⟨fun h'=>by omega,fun h'=>absurd ⟨h'.1,by omega⟩ h⟩
  obtain⟨z,hz,hz1⟩:∃z:Int,(if ak5 x.body=true then x.body.countF 80 else 0)=z/\(ak5 x.body=true->z=x.body.cnt):=⟨_,rfl,fun h=>by rw[if_pos h];have:=(hgo.1 h).1;omega⟩;have hfi:p.fits x.body (x.arity+x.locals)=true↔ak5 x.body=true/\x.body.varsLt (x.arity+x.locals)=true/\p.callsFit x.body=true:=by unfold Pg.fits;simp only[i_,and_assoc]
  generalize p.relOk i x=M at hM hinv;generalize hb1:p.callsFit x.body=b1 at hM hfi;generalize hb3:p.fits x.body (x.arity+x.locals)=b3 at hfi;have hfl:¬M=true->N=false:=fun h=>by rw[<-hinv,Bool.eq_false_iff.2 h];rfl
  have htr:M=true->p.okL r=N:=fun h=>by rw[<-hinv,h];rfl
  clear hinv;refine rS_ Tryz.func47 ?_;simp only[go_sem,seval,hlt,d9 hxi]
  repeat' (first|refine E8 ?_ ?_<;>intro hq<;>try simp only[go_sem,seval,hb1,hb3,hz,hq]|simp(disch:=omega) only[l6]|refine hnext () _ ?_ I7|((first|refine(F8 _ _ _).calls rfl ?_|refine(aB7 _ _).calls rfl ?_|refine(Y9 _ sd).calls rfl ?_|refine(bh7 _ _ _ sd).calls rfl ?_|refine(aK5 _ sd).calls rfl ?_)<;>(try simp only[go_sem,seval,hb1,hb3,hz]))|fail)
  all_goals clear hnext hz
  all_goals first
   | (rw[hfl (fun h=>by obtain⟨m1,m2,m3,m4,m5,m6,m7,m8⟩:=hM.1 h;have hg:=hgo.2 ⟨by omega,m6⟩;have hs2:=hsh.2 ⟨m6,m5⟩;have hf2:=hfi.2 ⟨hg,m7,m8⟩;have hz2:=hz1 hg;clear hcs hgo hsh hfi hM hfl htr hz1;first | omega | simp_all)];done)
   | (refine htr (hM.2 ?_);have hs1:=hsh.1 (by omega);exact⟨by assumption,by assumption,by omega,by omega,hs1.2,hs1.1,by assumption,by assumption⟩)
   | (refine htr (hM.2 ?_);obtain⟨f1,f2,f3⟩:=hfi.1 (by assumption);obtain⟨g1,g2⟩:=hgo.1 f1;have hz2:=hz1 f1;exact⟨by assumption,by assumption,by omega,by omega,by omega,g2,f2,f3⟩)
   | skip
 ·simp only[Pg.okL] at hinv
  refine rS_ Tryz.func47 ?_;simp only[go_sem,seval];rw[hinv]
theorem K3 {T:List (List UInt8)} {i fr:Nat} {x:List UInt8} (hx:T[i]? = some x) (hf:fr<=i):(T.take (i+1)).drop fr=(T.take i).drop fr++[x]:=by
 have hil:=(e_.1 hx).1;rw[List.take_add_one,hx,Option.toList_some,List.drop_append_of_le_length (by rw[List.length_take];omega)]
theorem as7 (T:List (List UInt8)):∀x,x∈U2 T->x.length=1:=fun x hx=>by
 unfold U2 at hx;obtain⟨t,_,rfl⟩:=O_.1 hx;rfl
theorem W9 (T:List (List UInt8)) (k:Nat):(T.take k).drop k=[]:=r_ (by rw[List.length_take];omega)
theorem aE4 (T:List (List UInt8)) (a b:Nat):((U2 T).take b).drop a=U2 ((T.take b).drop a):=by
 unfold U2;rw[List.map_drop,List.map_take]
theorem ap8 (s:List UInt8) (hs:s.length<=1048576) (T:List (List UInt8)) (rels:List Rl) (hT:aA3 s=some T) (hl:T.length<=20000) (hm:∀t,t∈T->t≠[]/\t.length<=100000) (hp:ppT T [] 0 []=some (rels,0)) (hok:M9 ⟨rels⟩=true) (hw:wtL (Pg.mk rels).enc<=9000000):Gives Tryz.prog 19 [.str s] (.tup [.d (.agg (Pg.mk rels).enc),.d (.bool true)]):=by
 have hmx:maxLen=9223372036854775807:=rfl;have htk:=bf1 s hs;rw[hT] at htk;unfold tkC at htk;dsimp only at htk;have hPe:(Pg.mk rels).enc=[.sl (rels.map Rl.enc)]:=Pg.enc_eq _;have hpo:=Q3 ⟨rels⟩ hw;rw[hok,hPe] at hpo;rw[hPe];refine aE_ Tryz.func19 ?_;refine rS_ Tryz.func19 ?_;simp only[go_sem,seval,l8]
 repeat' (first|refine htk.calls rfl ?_<;>try simp only[go_sem,seval,l8]|fail)
 refine AW.adoptGB 1 0 7 94 (by decide) rfl rfl ?_;refine AW.rng T [2,4,6,22,23] 24 22 (fun u:Nat×Int×Nat×List Rl=>[(7,.d (.int .i64 (u.1:Int))),(8,.d (.int .i64 u.2.1))]) (fun _ u=>[.box [.nil0],.box [.own 2 u.2.2.1],.grow u.2.2.1 7 94 (u.2.2.2.map Rl.enc)]) (fun r u=>u.1<=T.length - r.length/\(r.length:Int)<=u.2.1+T.length/\u.2.1+r.length<=T.length/\ppT r ((T.take (T.length - r.length)).drop u.1) u.2.1 u.2.2.2=some (rels,0)/\u.2.2.2.length<=T.length - r.length) (0,0,0,[]) rfl (by simp[l8]) ⟨by simp,by dsimp only;omega,by dsimp only;omega,by simpa using hp,by simp⟩ A7 (fun i x r u hxi hdr hlt hmm hinv hnext=>?_) (fun u hinv=>?_)
 ·obtain⟨fr,d,q,L⟩:=u
  obtain⟨i2,i3,i4,i1,i5⟩:=hinv;dsimp only[a_] at i1 i2 i3 i4 i5 hnext |-;have hnx:=fun a b c e s'=>hnext (a,b,c,e) s';clear hnext;have hil:=(e_.1 hxi).1;have hrl:=congrArg List.length hdr;simp only[t_,a_] at hrl;have hi:T.length - (r.length+1)=i:=by omega
  have hj:T.length - r.length=i+1:=by omega
  rw[hi] at i1 i2;have hfi:fr<=i:=i2;have hxx:=F7 hxi;have wi:IntKind.i64.wrap ((i:Int)+1)=(i:Int)+1:=by simp(disch:=omega) only[l6]
  have hfr:(fr:Int)<=(i:Int)+1:=by omega
  have hil1:(i:Int)+1<=(T.length:Int):=by omega
  have hin:((i:Int)+1).toNat=i+1:=by omega
  simp only[ppT] at i1;by_cases h40:x=[40]
  ·rw[if_pos h40] at i1
   have wd:IntKind.i64.wrap (d+1)=d+1:=by simp(disch:=omega) only[l6]
   have e1:¬([40]:List UInt8)=[41]:=by decide
   have hnx':=hnx;by_cases hd:0<d+1
   ·rw[if_pos hd] at i1
    refine rS_ Tryz.func19 ?_;simp only[go_sem,seval,hlt,l8,d9 hxx,wi,hd,h40,wd,e1];all_goals refine hnx fr (d+1) q L _ ⟨by dsimp only;omega,by dsimp only;omega,by dsimp only;omega,by dsimp only;rw[hj];rw[<-K3 hxi hfi] at i1;exact i1,by dsimp only;omega⟩ A7
   ·rw[if_neg hd] at i1
    cases hdf:dfT ((T.take i).drop fr++[x]) with
    | none=>rw[hdf] at i1;cases i1
    | some y =>
     rw[hdf] at i1;dsimp only at i1;have hdef:=ab3 ((T.take i).drop fr++[x]) y (by rw[<-K3 hxi hfi];simp;omega) (fun t ht=>hm t (by rw[<-K3 hxi hfi] at ht;exact F_ (G_ ht))) hdf;rw[<-K3 hxi hfi,<-aE4] at hdef;have hye:=Rl.enc_eq y;refine rS_ Tryz.func19 ?_;simp only[go_sem,seval,hlt,l8,d9 hxx,wi,hd,hfr,hil1,hin,h40,wd,e1]
     repeat' (first|refine⟨as7 T,?_⟩<;>(try simp only[go_sem,seval,hlt,l8,d9 hxx,wi,hd,hfr,hil1,hin,h40,wd,e1])|((first|refine hdef.calls rfl ?_|refine⟨sd,?_⟩)<;>(try simp only[go_sem,seval,hlt,l8,d9 hxx,wi,hd,hfr,hil1,hin,h40,wd,e1]))|fail)
     all_goals refine hnx (i+1) (d+1) (q+1) (L++[y]) _ ⟨by dsimp only;omega,by dsimp only;omega,by dsimp only;omega,by dsimp only;rw[hj,W9];exact i1,by dsimp only;rw[c_];dsimp only[a_,g_];omega⟩ (by refine⟨by simp[mkS,hye],by simp[mkS,hye],by simp only[mkS,b_,d_,O.refsLt,C.refsLt,C.refsLt1,l7];first | done | rfl | (simp;done),?_⟩;simp[mkS,Abs.get,C.refsLtT,C.refsLt,C.refsLt1])
  ·rw[if_neg h40] at i1
   by_cases h41:x=[41]
   ·rw[if_pos h41] at i1
    have wd:IntKind.i64.wrap (d - 1)=d - 1:=by simp(disch:=omega) only[l6]
    have e1:¬([41]:List UInt8)=[40]:=by decide
    have hnx':=hnx;by_cases hd:0<d - 1
    ·rw[if_pos hd] at i1
     refine rS_ Tryz.func19 ?_;simp only[go_sem,seval,hlt,l8,d9 hxx,wi,hd,h41,wd,e1];all_goals refine hnx fr (d - 1) q L _ ⟨by dsimp only;omega,by dsimp only;omega,by dsimp only;omega,by dsimp only;rw[hj];rw[<-K3 hxi hfi] at i1;exact i1,by dsimp only;omega⟩ A7
    ·rw[if_neg hd] at i1
     cases hdf:dfT ((T.take i).drop fr++[x]) with
     | none=>rw[hdf] at i1;cases i1
     | some y =>
      rw[hdf] at i1;dsimp only at i1;have hdef:=ab3 ((T.take i).drop fr++[x]) y (by rw[<-K3 hxi hfi];simp;omega) (fun t ht=>hm t (by rw[<-K3 hxi hfi] at ht;exact F_ (G_ ht))) hdf;rw[<-K3 hxi hfi,<-aE4] at hdef;have hye:=Rl.enc_eq y;refine rS_ Tryz.func19 ?_;simp only[go_sem,seval,hlt,l8,d9 hxx,wi,hd,hfr,hil1,hin,h41,wd,e1]
      repeat' (first|refine⟨as7 T,?_⟩<;>(try simp only[go_sem,seval,hlt,l8,d9 hxx,wi,hd,hfr,hil1,hin,h41,wd,e1])|((first|refine hdef.calls rfl ?_|refine⟨sd,?_⟩)<;>(try simp only[go_sem,seval,hlt,l8,d9 hxx,wi,hd,hfr,hil1,hin,h41,wd,e1]))|fail)
      all_goals refine hnx (i+1) (d - 1) (q+1) (L++[y]) _ ⟨by dsimp only;omega,by dsimp only;omega,by dsimp only;omega,by dsimp only;rw[hj,W9];exact i1,by dsimp only;rw[c_];dsimp only[a_,g_];omega⟩ (by refine⟨by simp[mkS,hye],by simp[mkS,hye],by simp only[mkS,b_,d_,O.refsLt,C.refsLt,C.refsLt1,l7];first | done | rfl | (simp;done),?_⟩;simp[mkS,Abs.get,C.refsLtT,C.refsLt,C.refsLt1])
   ·rw[if_neg h41] at i1
    have hnx':=hnx;by_cases hd:0<d
    ·rw[if_pos hd] at i1
     refine rS_ Tryz.func19 ?_;simp only[go_sem,seval,hlt,l8,d9 hxx,wi,hd,h40,h41];all_goals refine hnx fr (d) q L _ ⟨by dsimp only;omega,by dsimp only;omega,by dsimp only;omega,by dsimp only;rw[hj];rw[<-K3 hxi hfi] at i1;exact i1,by dsimp only;omega⟩ A7
    ·rw[if_neg hd] at i1
     cases hdf:dfT ((T.take i).drop fr++[x]) with
     | none=>rw[hdf] at i1;cases i1
     | some y =>
      rw[hdf] at i1;dsimp only at i1;have hdef:=ab3 ((T.take i).drop fr++[x]) y (by rw[<-K3 hxi hfi];simp;omega) (fun t ht=>hm t (by rw[<-K3 hxi hfi] at ht;exact F_ (G_ ht))) hdf;rw[<-K3 hxi hfi,<-aE4] at hdef;have hye:=Rl.enc_eq y;refine rS_ Tryz.func19 ?_;simp only[go_sem,seval,hlt,l8,d9 hxx,wi,hd,hfr,hil1,hin,h40,h41]
      repeat' (first|refine⟨as7 T,?_⟩<;>(try simp only[go_sem,seval,hlt,l8,d9 hxx,wi,hd,hfr,hil1,hin,h40,h41])|((first|refine hdef.calls rfl ?_|refine⟨sd,?_⟩)<;>(try simp only[go_sem,seval,hlt,l8,d9 hxx,wi,hd,hfr,hil1,hin,h40,h41]))|fail)
      all_goals refine hnx (i+1) (d) (q+1) (L++[y]) _ ⟨by dsimp only;omega,by dsimp only;omega,by dsimp only;omega,by dsimp only;rw[hj,W9];exact i1,by dsimp only;rw[c_];dsimp only[a_,g_];omega⟩ (by refine⟨by simp[mkS,hye],by simp[mkS,hye],by simp only[mkS,b_,d_,O.refsLt,C.refsLt,C.refsLt1,l7];first | done | rfl | (simp;done),?_⟩;simp[mkS,Abs.get,C.refsLtT,C.refsLt,C.refsLt1])
 ·obtain⟨fr,d,q,L⟩:=u
  obtain⟨i2,i3,i4,i1,i5⟩:=hinv;dsimp only at i1 |-;simp only[ppT] at i1;cases i1;refine rS_ Tryz.func19 ?_;simp only[go_sem,seval,l8]
  repeat' (first|refine hpo.calls rfl ?_<;>try simp only[go_sem,seval,l8]|fail)
set_option maxHeartbeats 4000000
def cuD (B:List UInt8) (i h:Int):List D:=[.sl (bytesD B),.int .i64 i,.int .i64 h]
def cuO (B:List UInt8) (i h:Int):O:=.box [.d (.sl (bytesD B)),.d (.int .i64 i),.d (.int .i64 h)]
theorem r9 (B:List UInt8) (i h:Int):cuO B i h=.box [.d (.sl (bytesD B)),.d (.int .i64 i),.d (.int .i64 h)]:=rfl
@[go_sem ↓ 10000] theorem cf9 (B:List UInt8) (i h:Int) (m:Nat):(cuO B i h).refsLt m=true:=rfl
theorem aQ2 (B:List UInt8) (i:Nat):(bytesD B)[i]? = (B[i]?).map fun b=>[.int .u8 (b.toNat:Int)]:=by simp[bytesD]
def cuR (B:List UInt8) (Q:Int->Prop) (c:C) (H:List O):Prop:=∃x i' h',c=.d (.int .i64 x)/\H=[cuO B i' h']/\Q x/\0<=i'/\i'<=B.length
theorem aN7 (B:List UInt8) (i h:Int) (hB:B.length<=1048576) (h0:0<=i) (h1:i<=B.length):ACalls Tryz.prog 44 [.ptr 0 0] [cuO B i h] (cuR B fun x=>0<=x/\x<=255):=by
 rw[r9];by_cases hi:i<B.length
 ·obtain⟨b,hb⟩:∃b,B[i.toNat]? = some b:=⟨_,h_ (by omega)⟩
  have hbd:(bytesD B)[i.toNat]? = some [.int .u8 (b.toNat:Int)]:=by rw[aQ2,hb];rfl
  have hb2:b.toNat<256:=b.toNat_lt;have hbw:IntKind.i64.wrap (b.toNat:Int)=(b.toNat:Int):=l6 (by omega) (by omega);refine aE_ Tryz.func44 ?_;refine rS_ Tryz.func44 ?_;simp only[go_sem,seval,hi,y5,d9 hbd,hbw]
  repeat' (first|exact⟨_,_,_,rfl,rfl,bK7 _,by omega,by omega⟩|simp(disch:=omega) only[l6]|refine⟨sd,?_⟩<;>try simp only[go_sem,seval,hi,y5,d9 hbd,hbw]|fail)
 ·refine aE_ Tryz.func44 ?_
  refine rS_ Tryz.func44 ?_;simp only[go_sem,seval,hi,y5]
  repeat' (first|exact⟨_,_,_,rfl,rfl,bK7 _,by omega,by omega⟩|fail)
theorem y9 (B:List UInt8) (i h:Int) (hB:B.length<=1048576) (h0:0<=i) (h1:i<=B.length) (n:Int):ACalls Tryz.prog 49 [.ptr 0 0,.d (.int .i64 n)] [cuO B i h] (cuR B fun x=>0<=x/\(x<n\/x=0)):=by
 have hb:=aN7 B i h hB h0 h1;by_cases hn:n<=0
 ·refine aE_ Tryz.func49 ?_
  refine rS_ Tryz.func49 ?_;simp only[go_sem,seval,hn]
  repeat' (first|exact⟨_,_,_,rfl,rfl,⟨by omega,by omega⟩,h0,h1⟩|fail)
 ·have hn0:n≠0:=by omega
  refine aE_ Tryz.func49 ?_;refine rS_ Tryz.func49 ?_;simp only[go_sem,seval,hn,hn0]
  repeat' (first|exact⟨_,_,_,rfl,rfl,⟨(aQ4 b1 (by omega)).1,.inl (aQ4 b1 (by omega)).2⟩,b3,b4⟩|refine(ACalls.emb hb [0] rfl rfl rfl (by decide) rfl ?_)<;>(rintro c H' ⟨x,i2,h2,rfl,rfl,⟨b1,b2⟩,b3,b4⟩ _;refine⟨rfl,rfl,?_⟩)<;>try simp only[go_sem,seval,hn,hn0]|fail)
theorem bE4 (B:List UInt8) (hB:B.length<=1048576):ACalls Tryz.prog 43 [.d (.sl (bytesD B))] [.hole] (fun c H'=>c=.own 0 1/\∃h,H'=[.pb (cuD B 0 h)]):=by
 refine aE_ Tryz.func43 ?_;refine rS_ Tryz.func43 ?_;simp only[go_sem,seval,y5]
 repeat' (first|simp(disch:=omega) only[l6]|fail)
 refine AW.lp [0] (fun p:Nat×Int=>[(4,.d (.int .i64 (p.1:Int))),(3,.d (.int .i64 p.2))]) (fun H _=>H) (fun p=>p.1<=B.length) (fun p=>B.length - p.1) (0,90411+(B.length:Int)) (q_ _) I7 ?_;rintro ⟨j,h⟩ hj hnext;dsimp only at hj hnext |-;by_cases hc:j<B.length/\j<4000
 ·obtain⟨b,hb⟩:∃b,B[j]? = some b:=⟨_,h_ hc.1⟩
  have hbd:(bytesD B)[j]? = some [.int .u8 (b.toNat:Int)]:=by rw[aQ2,hb];rfl
  have hb2:b.toNat<256:=b.toNat_lt;have hbw:IntKind.i64.wrap (b.toNat:Int)=(b.toNat:Int):=l6 (by omega) (by omega);have n1:(j:Int)<(B.length:Int):=by omega
  have n2:(j:Int)<4000:=by omega
  refine rS_ Tryz.func43 ?_;simp only[go_sem,seval,y5,n1,n2,d9 hbd,hbw]
  repeat' (first|simp(disch:=omega) only[l6]|fail)
  refine hnext (j+1,andI .i64 (IntKind.i64.wrap (IntKind.i64.wrap (IntKind.i64.wrap (h * 131)+(b.toNat:Int))+7)) 1073741823) _ (by dsimp only;omega) (by dsimp only;omega) I7
 ·have n3:¬((j:Int)<(B.length:Int))\/((j:Int)<(B.length:Int)/\¬(j:Int)<4000):=by omega
  rcases n3 with n3 | ⟨n3,n4⟩
  ·refine l9 Tryz.func43 mixed 7 _ _ (by kernel_rfl) ?_
   simp only[go_sem,seval,run.eq_1,y5,n3];refine AW.placeBox 2 1 0 (cs:=cuD B 0 h) rfl rfl rfl (by decide) ?_;refine rS_ Tryz.func43 ?_;simp only[go_sem,seval];exact⟨_,rfl⟩
  ·refine l9 Tryz.func43 mixed 7 _ _ (by kernel_rfl) ?_
   simp only[go_sem,seval,run.eq_1,y5,n3,n4];refine AW.placeBox 2 1 0 (cs:=cuD B 0 h) rfl rfl rfl (by decide) ?_;refine rS_ Tryz.func43 ?_;simp only[go_sem,seval];exact⟨_,rfl⟩
theorem aG2 (B:List UInt8) (hB:B.length<=1048576) (n:Nat) (hn:n<=100000):ACalls Tryz.prog 18 [.d (.sl (bytesD B)),.d (.int .i64 n)] [.hole] (fun c H'=>c=.own 0 1/\∃i h,H'=[.pb (cuD B i h)]/\0<=i/\i<=B.length):=by
 have hw:=bE4 B hB;refine aE_ Tryz.func18 ?_;refine AW.hole ?_;refine l9 Tryz.func18 mixed 4 _ _ (by kernel_rfl) ?_;simp only[go_sem,seval,run.eq_1]
 repeat' (first|refine(ACalls.emb hw [1] rfl rfl rfl (by decide) rfl ?_)<;>(rintro c H' ⟨rfl,h,rfl⟩ _;refine⟨rfl,rfl,?_⟩)<;>try simp only[go_sem,seval,run.eq_1]|fail)
 refine AW.unbox 5 1 (cs:=cuD B 0 h) rfl rfl ?_;refine rS_ Tryz.func18 ?_;simp only[go_sem,seval];refine AW.lp [1,5] (fun p:Nat×Int×Int=>[(6,.d (.int .i64 (p.1:Int)))]) (fun _ p=>[.hole,.dead,cuO B p.2.1 p.2.2]) (fun p=>p.1<=n/\0<=p.2.1/\p.2.1<=B.length) (fun p=>n - p.1) (0,0,h) ⟨q_ _,by simp,by simp⟩ (by refine⟨by simp[mkS,r9,cuD],by simp[mkS,r9,cuD],by simp only[mkS,b_,d_,O.refsLt,C.refsLt,C.refsLt1,l7];first | done | rfl | (simp;done),?_⟩;simp[mkS,Abs.get,C.refsLtT,C.refsLt,C.refsLt1]) ?_;rintro ⟨j,i,h⟩ ⟨hj,hi0,hi1⟩ hnext;dsimp only at hj hi0 hi1 hnext |-;by_cases hc:j<n
 ·have n1:(j:Int)<(n:Int):=by omega
  have hb:=aN7 B i h hB hi0 hi1;refine rS_ Tryz.func18 ?_;simp only[go_sem,seval,n1]
  repeat' (first|simp(disch:=omega) only[l6]|refine(ACalls.emb hb [2] rfl rfl rfl (by decide) rfl ?_)<;>(rintro c H' ⟨x,i2,h2,rfl,rfl,⟨b1,b2⟩,b3,b4⟩ _;refine⟨rfl,rfl,?_⟩)<;>try simp only[go_sem,seval,n1]|fail)
  refine hnext (j+1,i2,h2) _ ⟨by dsimp only;omega,b3,b4⟩ (by dsimp only;omega) (by refine⟨by simp[mkS,r9],by simp[mkS,r9],by simp only[mkS,b_,d_,O.refsLt,C.refsLt,C.refsLt1,l7];first | done | rfl | (simp;done),?_⟩;simp[mkS,Abs.get,C.refsLtT,C.refsLt,C.refsLt1])
 ·have n1:¬(j:Int)<(n:Int):=by omega
  refine l9 Tryz.func18 mixed 7 _ _ (by kernel_rfl) ?_;simp only[go_sem,seval,run.eq_1,n1];refine AW.placeBox 4 2 0 (cs:=cuD B i h) rfl rfl rfl (by decide) ?_;refine rS_ Tryz.func18 ?_;simp only[go_sem,seval];exact⟨_,_,rfl,hi0,hi1⟩
def cuV (B:List UInt8) (Q:V->Prop) (c:C) (H:List O):Prop:=∃v i' h',c=.d (.agg (V.enc v))/\H=[cuO B i' h']/\Q v/\0<=i'/\i'<=B.length
theorem bi3 (n:Int):Gives Tryz.prog 136 [.int .i64 n] (.d (.agg (V.num n).enc)):=by
 rw[V.enc_num];refine aE_ Tryz.func136 ?_;refine rS_ Tryz.func136 ?_;simp only[go_sem,seval]
theorem aB9 (n:Int):Gives Tryz.prog 99 [.int .i64 n] (.d (.agg (V.var n).enc)):=by
 rw[V.enc_var];refine aE_ Tryz.func99 ?_;refine rS_ Tryz.func99 ?_;simp only[go_sem,seval]
theorem aC0 (s:List UInt8):Gives Tryz.prog 134 [.str s] (.d (.agg (V.sym s).enc)):=by
 rw[V.enc_sym];refine aE_ Tryz.func134 ?_;refine rS_ Tryz.func134 ?_;simp only[go_sem,seval]
theorem aT9 (a b:V):Gives Tryz.prog 98 [.agg a.enc,.agg b.enc] (.d (.agg (V.pair a b).enc)):=by
 rw[V.enc_pair];refine aE_ Tryz.func98 ?_;refine rS_ Tryz.func98 ?_;simp only[go_sem,seval]
theorem aN6 (B:List UInt8) (i h:Int) (hB:B.length<=1048576) (h0:0<=i) (h1:i<=B.length) (vs:Int):ACalls Tryz.prog 100 [.ptr 0 0] [cuO B i h] (cuV B (drawn 1 vs)):=by
 have hb:=y9 B i h hB h0 h1 7;refine aE_ Tryz.func100 ?_;refine rS_ Tryz.func100 ?_;simp only[go_sem,seval]
 repeat' (first|simp(disch:=omega) only[l6]|((first|(refine(ACalls.emb hb [0] rfl rfl rfl (by decide) rfl ?_)<;>(rintro c H' ⟨x,i2,h2,rfl,rfl,⟨b1,b2⟩,b3,b4⟩ _;rcases(show x=0\/x=1\/x=2\/x=3\/x=4\/x=5\/x=6 by omega) with rfl | rfl | rfl | rfl | rfl | rfl | rfl<;>refine⟨rfl,rfl,?_⟩))|refine(aC0 _).calls rfl ?_|refine(bi3 _).calls rfl ?_|refine⟨sd,?_⟩)<;>(try simp only[go_sem,seval]))|fail)
 all_goals first
  | exact⟨.num 0,_,_,rfl,rfl,aP6 (by decide) (by decide) (by decide),b3,b4⟩
  | exact⟨.num 1,_,_,rfl,rfl,aP6 (by decide) (by decide) (by decide),b3,b4⟩
  | exact⟨.sym [97],_,_,rfl,rfl,⟨by decide,by decide,rfl⟩,b3,b4⟩
  | exact⟨.sym [98],_,_,rfl,rfl,⟨by decide,by decide,rfl⟩,b3,b4⟩
  | exact⟨.sym [99],_,_,rfl,rfl,⟨by decide,by decide,rfl⟩,b3,b4⟩
  | exact⟨.nil,_,_,rfl,rfl,bx4 (by decide),b3,b4⟩
theorem ab4 (B:List UInt8) (hB:B.length<=1048576) (vs:Int) (hvs:vs<=100):∀(s:Nat) (i h:Int),s<=1000->0<=i->i<=B.length->ACalls Tryz.prog 53 [.ptr 0 0,.d (.int .i64 s),.d (.int .i64 vs)] [cuO B i h] (cuV B (drawn (az2 s) vs)):=by
 intro s;induction s using Nat.strongRecOn with
 | ind s ih =>
  intro i h hs h0 h1;have hb:=y9 B i h hB h0 h1 8;have hat:=fun i h a b=>aN6 B i h hB a b vs;have hbv:=fun i h a b=>y9 B i h hB a b vs;have hqs:IntKind.i64.wrap ((s:Int).tdiv 2)=((s / 2:Nat):Int):=by rw[z_ (by omega),l6 (by omega) (by omega)];omega
  refine aE_ Tryz.func53 ?_;refine l9 Tryz.func53 mixed 4 _ _ (by kernel_rfl) ?_;simp only[go_sem,seval,run.eq_1]
  repeat' (first|refine(ACalls.emb hb [0] rfl rfl rfl (by decide) rfl ?_)<;>(rintro c H' ⟨x,i2,h2,rfl,rfl,⟨b1,b2⟩,b3,b4⟩ _;refine⟨rfl,rfl,?_⟩)<;>try simp only[go_sem,seval,run.eq_1]|fail)
  by_cases g:2<s/\3<=x
  ·obtain⟨g1,g2⟩:=g
   have n1:(2:Int)<(s:Int):=by omega
   have hr:=fun i h a b=>ih (s / 2) (by omega) i h (by omega) a b;refine l9 Tryz.func53 mixed 7 _ _ (by kernel_rfl) ?_;simp only[go_sem,seval,run.eq_1,n1,g2,hqs]
   repeat' (first|refine(ACalls.emb (hr i2 h2 b3 b4) [0] rfl rfl rfl (by decide) rfl ?_)<;>(rintro c H' ⟨v,i3,h3,rfl,rfl,k1,k2,k3⟩ _;refine⟨rfl,rfl,?_⟩)<;>try simp only[go_sem,seval,n1,g2,hqs,run.eq_1]|fail)
   refine AW.drawA mixed #[true,true,true,true,true,true,true,false] [(2,.box (v.enc.map .d))] [] [0,1,2,3,4,5,6] [7] none (by kernel_rfl) trivial (by simp[D8]) ?_;simp only[go_sem,seval,hqs]
   repeat' (first|((first|refine(ACalls.emb (hr i3 h3 k2 k3) [0] rfl rfl rfl (by decide) rfl ?_)<;>(rintro c H' ⟨u,i4,h4,rfl,rfl,m1,m2,m3⟩ _;refine⟨rfl,rfl,?_⟩)|refine(aT9 _ _).calls rfl ?_)<;>(try simp only[go_sem,seval,hqs]))|fail)
   refine rS_ Tryz.func53 ?_;simp only[go_sem,seval]
   repeat' (first|exact⟨_,_,_,rfl,rfl,bk8 k1 m1 (bk9 g1),m2,m3⟩|fail)
  ·have hbv:=y9 B i2 h2 hB b3 b4 vs
   have hat:=aN6 B i2 h2 hB b3 b4 vs;have hdp:=bx5 s;rcases(show ¬(2:Int)<(s:Int)\/((2:Int)<(s:Int)/\¬3<=x) by omega) with n1 | ⟨n1,n2⟩
   ·refine rS_ Tryz.func53 ?_
    simp only[go_sem,seval,n1]
    repeat' (first|exact⟨_,_,_,rfl,rfl,ae2 k1 hdp,k2,k3⟩|exact⟨_,_,_,rfl,rfl,aP5 c1 (by omega) hvs hdp,c3,c4⟩|refine E8 ?_ ?_<;>intro hq<;>try simp only[go_sem,seval,hq]|((first|refine(ACalls.emb hbv [0] rfl rfl rfl (by decide) rfl ?_)<;>(rintro c H' ⟨y,i3,h3,rfl,rfl,⟨c1,c2⟩,c3,c4⟩ _;refine⟨rfl,rfl,?_⟩)|refine(ACalls.emb hat [0] rfl rfl rfl (by decide) rfl ?_)<;>(rintro c H' ⟨v,i3,h3,rfl,rfl,k1,k2,k3⟩ _;refine⟨rfl,rfl,?_⟩)|refine(aB9 _).calls rfl ?_)<;>(try simp only[go_sem,seval]))|fail)
   ·refine rS_ Tryz.func53 ?_
    simp only[go_sem,seval,n1,n2]
    repeat' (first|exact⟨_,_,_,rfl,rfl,ae2 k1 hdp,k2,k3⟩|exact⟨_,_,_,rfl,rfl,aP5 c1 (by omega) hvs hdp,c3,c4⟩|refine E8 ?_ ?_<;>intro hq<;>try simp only[go_sem,seval,hq]|((first|refine(ACalls.emb hbv [0] rfl rfl rfl (by decide) rfl ?_)<;>(rintro c H' ⟨y,i3,h3,rfl,rfl,⟨c1,c2⟩,c3,c4⟩ _;refine⟨rfl,rfl,?_⟩)|refine(ACalls.emb hat [0] rfl rfl rfl (by decide) rfl ?_)<;>(rintro c H' ⟨v,i3,h3,rfl,rfl,k1,k2,k3⟩ _;refine⟨rfl,rfl,?_⟩)|refine(aB9 _).calls rfl ?_)<;>(try simp only[go_sem,seval]))|fail)
end Go.Proofs.YtehgpkadkdekmaaGreatDoor
namespace Go.Abs
def bt2:Nat->List UInt8
 | 0=>[108,105,115,116,115]
 | 1=>[103,114,97,112,104]
 | 2=>[115,101,116,115]
 | _=>[103,97,109,101,115]
end Go.Abs
namespace Go.Proofs.YtehgpkadkdekmaaGreatDoor
open Go.Abs
set_option maxRecDepth 100000
set_option maxHeartbeats 8000000
set_option linter.unusedSimpArgs false
set_option linter.unusedVariables false
theorem ay2:Gives Tryz.prog 20 [.str [108,105,115,116,115]] (.d (.str bg9)):=by
 have hmx:maxLen=9223372036854775807:=rfl;refine aE_ Tryz.func20 ?_;refine rS_ Tryz.func20 ?_;simp only[go_sem,seval]
 repeat' (first|simp(disch:=omega) only[l6]|((first|refine AW.loop ?_<;>(refine rS_ Tryz.func20 ?_)|refine AW.round ?_<;>(refine rS_ Tryz.func20 ?_)|refine⟨sd,?_⟩)<;>(try simp only[go_sem,seval,hmx]))|fail)
 all_goals kernel_rfl
theorem ay1:Gives Tryz.prog 20 [.str [103,114,97,112,104]] (.d (.str bg8)):=by
 have hmx:maxLen=9223372036854775807:=rfl;have d0:¬([103,114,97,112,104]:List UInt8)=[108,105,115,116,115]:=by decide
 refine aE_ Tryz.func20 ?_;refine rS_ Tryz.func20 ?_;simp only[go_sem,seval,d0]
 repeat' (first|simp(disch:=omega) only[l6]|((first|refine AW.loop ?_<;>(refine rS_ Tryz.func20 ?_)|refine AW.round ?_<;>(refine rS_ Tryz.func20 ?_)|refine⟨sd,?_⟩)<;>(try simp only[go_sem,seval,d0]))|fail)
 all_goals kernel_rfl
theorem ay0:Gives Tryz.prog 20 [.str [115,101,116,115]] (.d (.str bg7)):=by
 have hmx:maxLen=9223372036854775807:=rfl;have d0:¬([115,101,116,115]:List UInt8)=[108,105,115,116,115]:=by decide
 have d1:¬([115,101,116,115]:List UInt8)=[103,114,97,112,104]:=by decide
 refine aE_ Tryz.func20 ?_;refine rS_ Tryz.func20 ?_;simp only[go_sem,seval,d0,d1]
 repeat' (first|simp(disch:=omega) only[l6]|((first|refine AW.loop ?_<;>(refine rS_ Tryz.func20 ?_)|refine AW.round ?_<;>(refine rS_ Tryz.func20 ?_)|refine⟨sd,?_⟩)<;>(try simp only[go_sem,seval,d0,d1]))|fail)
 all_goals kernel_rfl
theorem ax9:Gives Tryz.prog 20 [.str [103,97,109,101,115]] (.d (.str bg6)):=by
 have hmx:maxLen=9223372036854775807:=rfl;have d0:¬([103,97,109,101,115]:List UInt8)=[108,105,115,116,115]:=by decide
 have d1:¬([103,97,109,101,115]:List UInt8)=[103,114,97,112,104]:=by decide
 have d2:¬([103,97,109,101,115]:List UInt8)=[115,101,116,115]:=by decide
 refine aE_ Tryz.func20 ?_;refine rS_ Tryz.func20 ?_;simp only[go_sem,seval,d0,d1,d2]
 repeat' (first|simp(disch:=omega) only[l6]|((first|refine AW.loop ?_<;>(refine rS_ Tryz.func20 ?_)|refine AW.round ?_<;>(refine rS_ Tryz.func20 ?_)|refine⟨sd,?_⟩)<;>(try simp only[go_sem,seval,d0,d1,d2]))|fail)
 all_goals kernel_rfl
theorem az5 (k:Nat):Gives Tryz.prog 20 [.str (bt2 k)] (.d (.str (bz9 k))):=match k with
 | 0=>ay2
 | 1=>ay1
 | 2=>ay0
 | _+3=>ax9
theorem ad5 (k:Int) (ts:List Tm) (gs:List Gl):Gives Tryz.prog 95 [.int .i64 k,.sl (ts.map Tm.enc),.sl (gs.map Gl.enc)] (.d (.agg (Gl.mk k [] ts gs).enc)):=by
 rw[Gl.enc_eq];refine aE_ Tryz.func95 ?_;refine rS_ Tryz.func95 ?_;simp only[go_sem,seval];all_goals rfl
def cuG (B:List UInt8) (Q:Gl->Prop) (c:C) (H:List O):Prop:=∃g i' h',c=.d (.agg (Gl.enc g))/\H=[cuO B i' h']/\Q g/\0<=i'/\i'<=B.length
theorem ag5 (k:Int) (u v:V):Gives Tryz.prog 95 [.int .i64 k,.sl [u.enc,v.enc],.sl []] (.d (.agg (Gl.mk k [] ([u,v].map V.tm) []).enc)):=by
 have h:=ad5 k ([u,v].map V.tm) [];rw[D5] at h;exact h
theorem av1 (k:Int) (u:V):Gives Tryz.prog 95 [.int .i64 k,.sl [u.enc],.sl []] (.d (.agg (Gl.mk k [] ([u].map V.tm) []).enc)):=by
 have h:=ad5 k ([u].map V.tm) [];rw[D5] at h;exact h
theorem av2 (k:Int):Gives Tryz.prog 95 [.int .i64 k,.sl [],.sl []] (.d (.agg (Gl.mk k [] [] []).enc)):=ad5 k [] []
def bW7 (n:Int) (g:Gl):Prop:=∀(S:List (List UInt8×Int)) (mode:Int),g.drA S n mode
theorem cw4 {n k:Int} {u v:V} (hu:drawn 7 n u) (hv:drawn 7 n v) (hk:k=2\/k=3):bW7 n ⟨k,[],[u,v].map V.tm,[]⟩:=fun S mode=>by
 refine Gl.drA_of ?_ (fun x hx=>?_) (by simp) (by simp) (by omega) (by omega) (by omega) (fun h=>by omega)
 ·rcases hk with rfl | rfl<;>rfl
 ·simp at hx;rcases hx with rfl | rfl<;>assumption
theorem cz4 {n k:Int} {u:V} (hu:drawn 7 n u) (hk:k=4\/k=5):bW7 n ⟨k,[],[u].map V.tm,[]⟩:=fun S mode=>by
 refine Gl.drA_of ?_ (fun x hx=>?_) (by simp) (by simp) (by omega) (by omega) (by omega) (fun h=>by omega)
 ·rcases hk with rfl | rfl<;>rfl
 ·simp at hx;subst hx;exact hu
theorem cz3 {n:Int} {v:V} (hv:drawn 7 n v):bW7 n ⟨6,[],[V.sym [97],v].map V.tm,[]⟩:=fun S mode=>by
 refine Gl.drA_of ?_ (fun x hx=>?_) (by simp) (by simp) (by omega) (by omega) (by omega) (fun h=>by omega)
 ·rfl
 ·simp at hx;rcases hx with rfl | rfl
  ·exact⟨by decide,by decide,rfl⟩
  ·exact hv
theorem cz5 {n k:Int} (hk:k=0\/k=1):bW7 n ⟨k,[],[],[]⟩:=fun S mode=>by
 refine Gl.drA_of (vs:=[]) ?_ (fun x hx=>by cases hx) (by simp) (by simp) (by omega) (by omega) (by omega) (fun h=>by omega);rcases hk with rfl | rfl<;>rfl
theorem aT7 (B:List UInt8) (hB:B.length<=1048576) (n:Int) (hn:n<=100) (pure:Bool) (i h:Int) (h0:0<=i) (h1:i<=B.length):ACalls Tryz.prog 94 [.ptr 0 0,.d (.int .i64 n),.d (.bool pure)] [cuO B i h] (cuG B (bW7 n)):=by
 have hda:=ab4 B hB n hn 1 i h (by omega) h0 h1;refine aE_ Tryz.func94 ?_;refine l9 Tryz.func94 mixed 4 _ _ (by kernel_rfl) ?_;simp only[go_sem,seval,run.eq_1]
 repeat' (first|refine(ACalls.emb hda [0] rfl rfl rfl (by decide) rfl ?_)<;>(rintro c H' ⟨u,i2,h2,rfl,rfl,du,b3,b4⟩ _;refine⟨rfl,rfl,?_⟩)<;>try simp only[go_sem,seval,run.eq_1]|fail)
 have hdb:=ab4 B hB n hn 4 i2 h2 (by omega) b3 b4;refine l9 Tryz.func94 mixed 2 _ _ (by kernel_rfl) ?_;simp only[go_sem,seval,run.eq_1]
 repeat' (first|refine(ACalls.emb hdb [0] rfl rfl rfl (by decide) rfl ?_)<;>(rintro c H' ⟨v,i3,h3,rfl,rfl,dv,c3,c4⟩ _;refine⟨rfl,rfl,?_⟩)<;>try simp only[go_sem,seval,run.eq_1]|fail)
 have hbl:=y9 B i3 h3 hB c3 c4 16;refine l9 Tryz.func94 mixed 2 _ _ (by kernel_rfl) ?_;simp only[go_sem,seval,run.eq_1]
 repeat' (first|refine(ACalls.emb hbl [0] rfl rfl rfl (by decide) rfl ?_)<;>(rintro c H' ⟨x,i4,h4,rfl,rfl,⟨x0,x1⟩,d3,d4⟩ _;refine⟨rfl,rfl,?_⟩)<;>try simp only[go_sem,seval,run.eq_1]|fail)
 have du7:=ae2 du (show az2 1<=7 by decide);have dv7:=ae2 dv (show az2 4<=7 by decide);clear du dv;have hb8:=y9 B i4 h4 hB d3 d4 8;have hue:=V.enc_eq u;have hve:=V.enc_eq v;have k2:=ag5 2 u v;have k3:=ag5 3 u v;have k4:=av1 4 u;have k5:=av1 5 u;have k6:=ag5 6 (V.sym [97]) v;have hsy:=aC0 [97];cases pure with
 | true =>
  refine rS_ Tryz.func94 ?_;simp only[go_sem,seval]
  repeat' (first|exact⟨_,_,_,rfl,rfl,cw4 du7 dv7 (by simp),d3,d4⟩|refine k2.calls rfl ?_<;>try simp only[go_sem,seval,hue]|fail)
  all_goals first | exfalso;omega | skip
 | false =>
  by_cases h11:x=11
  ·subst h11
   refine l9 Tryz.func94 mixed 19 _ _ (by kernel_rfl) ?_;simp only[go_sem,seval,run.eq_1];refine AW.drawA mixed #[true,true,true,true,true] [(3,.box (v.enc.map .d))] [] [1,0,2,3,4] [] none (by kernel_rfl) trivial (by simp[D8]) ?_;simp only[go_sem,seval]
   repeat' (first|((first|refine hsy.calls rfl ?_|refine ACalls.nilArg (pre:=[_,_]) (post:=[]) (k6.calls rfl ?_))<;>(try simp only[go_sem,seval]))|fail)
   refine rS_ Tryz.func94 ?_;simp only[go_sem,seval]
   repeat' (first|exact⟨_,_,_,rfl,rfl,cz3 dv7,d3,d4⟩|fail)
  ·refine rS_ Tryz.func94 ?_
   simp only[go_sem,seval,h11]
   repeat' (first|exact⟨_,_,_,rfl,rfl,cw4 du7 dv7 (by simp),d3,d4⟩|exact⟨_,_,_,rfl,rfl,cz4 du7 (by simp),d3,d4⟩|exact⟨_,_,_,rfl,rfl,cz5 (by simp),e3,e4⟩|refine E8 ?_ ?_<;>intro hq<;>try simp only[go_sem,seval,h11,hq]|simp(disch:=omega) only[l6]|((first|refine k2.calls rfl ?_|refine k3.calls rfl ?_|refine k4.calls rfl ?_|refine k5.calls rfl ?_|(refine(ACalls.emb hb8 [0] rfl rfl rfl (by decide) rfl ?_)<;>(rintro c H' ⟨y,i5,h5,rfl,rfl,⟨y0,y1⟩,e3,e4⟩ _;rcases(show y=0\/y=1\/y=2\/y=3\/y=4\/y=5\/y=6\/y=7 by omega) with rfl | rfl | rfl | rfl | rfl | rfl | rfl | rfl<;>refine⟨rfl,rfl,?_⟩))|refine(av2 0).calls rfl ?_|refine(av2 1).calls rfl ?_)<;>(try simp only[go_sem,seval,h11]))|fail)
   all_goals first | exfalso;omega | skip
theorem aj9 (B:List UInt8) (hB:B.length<=1048576) (n:Int) (i h:Int) (h0:0<=i) (h1:i<=B.length):ACalls Tryz.prog 22 [.ptr 0 0,.d (.int .i64 n)] [cuO B i h] (fun c H'=>∃b i' h',c=.d (.bool b)/\H'=[cuO B i' h']/\0<=i'/\i'<=B.length):=by
 have hb:=y9 B i h hB h0 h1 n;refine aE_ Tryz.func22 ?_;refine rS_ Tryz.func22 ?_;simp only[go_sem,seval]
 repeat' (first|exact⟨_,_,_,rfl,rfl,b3,b4⟩|refine(ACalls.emb hb [0] rfl rfl rfl (by decide) rfl ?_)<;>(rintro c H' ⟨x,i2,h2,rfl,rfl,⟨b1,b2⟩,b3,b4⟩ _;refine⟨rfl,rfl,?_⟩)<;>try simp only[go_sem,seval]|fail)
def sgL (rels:List Rl):List (List UInt8×Int):=rels.map fun r=>(r.name,r.arity)
theorem av0 (B:List UInt8) (hB:B.length<=1048576) (rels:List Rl) (hr1:1<=rels.length) (hr3:rels.length<=3) (har:∀r,r∈rels->J6 r.name=true/\0<=r.arity/\r.arity<=4) (n:Int) (hn:n<=100) (calls:Nat) (hc:calls<=2) (mode:Int) (i h:Int) (h0:0<=i) (h1:i<=B.length) (q e:Nat) :
  ACalls Tryz.prog 51 [.ptr 0 0,.own 1 q,.d (.int .i64 n),.d (.int .i64 (calls:Int)),.d (.int .i64 mode)] [cuO B i h,.buf q 7 e (rels.map Rl.enc)] (fun c H'=>∃g i' h',c=.d (.agg (Gl.enc g))/\H'=[cuO B i' h',.buf q 7 e (rels.map Rl.enc)]/\g.drC (sgL rels) n mode/\0<=i'/\i'<=B.length):=by
 have hmx:maxLen=9223372036854775807:=rfl;have hbl:=y9 B i h hB h0 h1 2;refine aE_ Tryz.func51 ?_;refine l9 Tryz.func51 mixed 4 _ _ (by kernel_rfl) ?_;simp only[go_sem,seval,run.eq_1];refine AW.adoptGB 3 3 4 92 (by decide) rfl rfl ?_;refine l9 Tryz.func51 mixed 3 _ _ (by kernel_rfl) ?_;simp only[go_sem,seval,run.eq_1]
 repeat' (first|simp(disch:=omega) only[l6]|refine(ACalls.emb hbl [0] rfl rfl rfl (by decide) rfl ?_)<;>(rintro c H' ⟨x,i2,h2,rfl,rfl,⟨x0,x1⟩,b3,b4⟩ _;refine⟨rfl,rfl,?_⟩)<;>try simp only[go_sem,seval,run.eq_1]|fail)
 obtain⟨k0,hk0,hk2⟩:∃k0:Nat,(1:Int)+x=(k0:Int)/\k0<=2:=⟨(1+x).toNat,by omega,by omega⟩;have wk:IntKind.i64.wrap (1+x)=(k0:Int):=by rw[l6 (by omega) (by omega)];exact hk0
 try rw[wk]
 try rw[hk0]
 refine rS_ Tryz.func51 ?_;simp only[go_sem,seval];refine AW.lp [0,1,2,3,4,10,11] (fun u:Nat×Nat×List Gl×Int×Int=>[(12,.d (.int .i64 (u.1:Int)))]) (fun _ u=>[cuO B u.2.2.2.1 u.2.2.2.2,.buf q 7 e (rels.map Rl.enc),.box [.d (.int .i64 0),.d (.str []),.nil0,.nil0],.box [.d (.int .i64 7),.d (.str []),.nil0,.own 4 u.2.1],.grow u.2.1 4 92 (u.2.2.1.map Gl.enc)]) (fun u=>u.1+u.2.2.1.length<=2/\(∀g,g∈u.2.2.1->g.drA (sgL rels) n mode)/\0<=u.2.2.2.1/\u.2.2.2.1<=B.length/\Gl.nc9 u.2.2.1=0) (fun u=>u.1) (k0,0,[],i2,h2) ⟨by simpa using hk2,(fun g hg=>by cases hg),b3,b4,rfl⟩ (by refine⟨by simp[mkS,r9],by simp[mkS,r9],by simp only[mkS,b_,d_,O.refsLt,C.refsLt,C.refsLt1,l7];first | done | rfl | (simp;done),?_⟩;simp[mkS,Abs.get,C.refsLtT,C.refsLt,C.refsLt1]) ?_;rintro ⟨k,q1,gs,i3,h3⟩ ⟨j1,j2,j3,j4,j5⟩ hnext;dsimp only at j1 j2 j3 j4 j5 hnext |-;have hnx:=fun a b c d e s'=>hnext (a,b,c,d,e) s';clear hnext;by_cases hk:k=0
 ·subst hk
  clear hnx;refine rS_ Tryz.func51 ?_;simp only[go_sem,seval];refine AW.lp [0,1,2,4,10,11] (fun u:Nat×Nat×List Gl×Int×Int=>[(3,.d (.int .i64 (u.1:Int)))]) (fun _ u=>[cuO B u.2.2.2.1 u.2.2.2.2,.buf q 7 e (rels.map Rl.enc),.box [.d (.int .i64 0),.d (.str []),.nil0,.nil0],.box [.d (.int .i64 7),.d (.str []),.nil0,.own 4 u.2.1],.grow u.2.1 4 92 (u.2.2.1.map Gl.enc)]) (fun u=>u.1+u.2.2.1.length<=4/\(∀g,g∈u.2.2.1->g.drA (sgL rels) n mode)/\0<=u.2.2.2.1/\u.2.2.2.1<=B.length/\u.1+Gl.nc9 u.2.2.1<=2) (fun u=>u.1) (calls,q1,gs,i3,h3) ⟨by dsimp only;omega,j2,j3,j4,by dsimp only;omega⟩ (by refine⟨by simp[mkS,r9],by simp[mkS,r9],by simp only[mkS,b_,d_,O.refsLt,C.refsLt,C.refsLt1,l7];first | done | rfl | (simp;done),?_⟩;simp[mkS,Abs.get,C.refsLtT,C.refsLt,C.refsLt1]) ?_;clear j1 j2 j3 j4 j5;rintro ⟨k,q1,gs,i4,h4⟩ ⟨j1,j2,j3,j4,j5⟩ hnext;dsimp only at j1 j2 j3 j4 j5 hnext |-;have hnx:=fun a b c d e s'=>hnext (a,b,c,d,e) s';clear hnext;by_cases hk:k=0
  ·subst hk
   refine rS_ Tryz.func51 ?_;simp only[go_sem,seval]
   repeat' (first|exact⟨⟨7,[],[],gs⟩,_,_,by rw[Gl.enc_eq];rfl,rfl,⟨rfl,rfl,rfl,by simpa[Gl.goals] using j1,j2,by show Gl.nc9 gs<=2;omega⟩,j3,j4⟩|fail)
  ·obtain⟨k,rfl⟩:∃k',k=k'+1:=⟨k - 1,by omega⟩
   have m1:(0:Int)<((k+1:Nat):Int):=by omega
   have m1':(0:Int)<(k:Int)+1:=by omega
   have wk1:IntKind.i64.wrap ((k:Int)+1 - 1)=(k:Int):=by rw[l6 (by omega) (by omega)];omega
   have hbl:=y9 B i4 h4 hB j3 j4 (rels.length:Int);have hml:∀l:List Rl,(l.map Rl.enc).length=l.length:=fun l=>o_ _;refine l9 Tryz.func51 mixed 8 _ _ (by kernel_rfl) ?_;simp only[go_sem,seval,run.eq_1,m1,m1',hml];refine AW.regA ?_;simp only[go_sem,seval,hml]
   repeat' (first|((refine A8 (fun x hx=>have hq:=hx;?_))<;>(try simp only[go_sem,seval,hml,hq]))|((first|refine(ACalls.emb hbl [0] rfl rfl rfl (by decide) rfl ?_)<;>(rintro c H' ⟨y,i5,h5,rfl,rfl,⟨y0,y1⟩,c3,c4⟩ _;refine⟨rfl,rfl,?_⟩)|refine⟨sd,?_⟩)<;>(try simp only[go_sem,seval,hml]))|fail)
   have hxm:=f_ hx;obtain⟨n1,n2,n3⟩:=har x hxm;refine l9 Tryz.func51 mixed 3 _ _ (by kernel_rfl) ?_;simp only[go_sem,seval,run.eq_1];refine AW.adoptGB 6 2 4 47 (by decide) rfl rfl ?_;refine rS_ Tryz.func51 ?_;simp only[go_sem,seval];refine AW.lp [0,1,2,3,4,10,11,13,14] (fun u:Nat×Nat×List V×Int×Int=>[(15,.d (.int .i64 (u.1:Int)))]) (fun _ u=>[cuO B u.2.2.2.1 u.2.2.2.2,.buf q 7 e (rels.map Rl.enc),.box [.d (.int .i64 0),.d (.str []),.nil0,.nil0],.box [.d (.int .i64 7),.d (.str []),.nil0,.own 4 q1],.grow q1 4 92 (gs.map Gl.enc),.box (x.enc.map .d),.box [.d (.int .i64 9),.d (.str x.name),.own 7 u.2.1,.nil0],.grow u.2.1 4 47 (u.2.2.1.map V.enc)]) (fun u=>u.1=u.2.2.1.length/\(u.1:Int)<=x.arity/\(∀v,v∈u.2.2.1->drawn 7 n v)/\0<=u.2.2.2.1/\u.2.2.2.1<=B.length) (fun u=>x.arity.toNat - u.1) (0,0,[],i5,h5) ⟨rfl,n2,(fun v hv=>by cases hv),c3,c4⟩ (by refine⟨by simp[mkS,r9],by simp[mkS,r9],by simp only[mkS,b_,d_,O.refsLt,C.refsLt,C.refsLt1,l7];first | done | rfl | (simp;done),?_⟩;simp[mkS,Abs.get,C.refsLtT,C.refsLt,C.refsLt1]) ?_;rintro ⟨j,q2,ts,i6,h6⟩ ⟨p1,p2,p3,p4,p5⟩ hnext;dsimp only at p1 p2 p3 p4 p5 hnext |-;have hny:=fun a b c d e s'=>hnext (a,b,c,d,e) s';clear hnext;have hj6:(j:Int)<6:=by omega
   by_cases hja:(j:Int)<x.arity
   ·have hb4:=y9 B i6 h6 hB p4 p5 4
    refine l9 Tryz.func51 mixed 7 _ _ (by kernel_rfl) ?_;simp only[go_sem,seval,run.eq_1,hja,hj6];refine AW.drawA mixed #[true,true,true,true,true,true,true,true,true,true,true,true,true,false] [(6,.box [.d (.int .i64 9),.d (.str x.name),.own 7 q2,.nil0])] [] [0,1,2,3,8,4,5,6,7,9,10,11,12] [13] none (by kernel_rfl) trivial (by simp[D8]) ?_;simp only[go_sem,seval]
    repeat' (first|refine(ACalls.emb hb4 [0] rfl rfl rfl (by decide) rfl ?_)<;>(rintro c H' ⟨z,i7,h7,rfl,rfl,⟨z0,z1⟩,d3,d4⟩ _;refine⟨rfl,rfl,?_⟩)<;>try simp only[go_sem,seval]|fail)
    obtain⟨s,hs1,hs2⟩:∃s:Nat,IntKind.i64.wrap (1+IntKind.i64.wrap (IntKind.i64.wrap (Int.tdiv z 3) * 2))=(s:Int)/\(s=1\/s=3):=by
     rcases(show z=0\/z=1\/z=2\/z=3 by omega) with rfl | rfl | rfl | rfl
     ·exact⟨1,by decide,.inl rfl⟩
     ·exact⟨1,by decide,.inl rfl⟩
     ·exact⟨1,by decide,.inl rfl⟩
     ·exact⟨3,by decide,.inr rfl⟩
    have hs5:az2 s<=7:=by rcases hs2 with rfl | rfl<;>decide
    rw[hs1];refine(ACalls.emb (ab4 B hB n hn s i7 h7 (by omega) d3 d4) [0] rfl rfl rfl (by decide) rfl ?_);rintro c H' ⟨v,i8,h8,rfl,rfl,dv,e3,e4⟩ _;refine⟨rfl,rfl,?_⟩;simp only[go_sem,seval]
    repeat' (first|refine⟨sd,?_⟩<;>try simp only[go_sem,seval]|fail)
    have dv7:=ae2 dv hs5;have hve:=V.enc_eq v;have wj:IntKind.i64.wrap ((j:Int)+1)=((j+1:Nat):Int):=by rw[l6 (by omega) (by omega)];omega
    refine rS_ Tryz.func51 ?_;simp only[go_sem,seval,wj,hve]
    all_goals refine hny (j+1) (q2+1) (ts++[v]) i8 h8 _ ⟨by rw[c_,<-p1];rfl,by dsimp only;omega,fun w hw=>by
     rcases l_.1 hw with hw | hw
     ·exact p3 w hw
     ·simp at hw;subst hw;exact dv7,e3,e4⟩ (by dsimp only;omega) (by refine⟨by simp[mkS,r9,hve],by simp[mkS,r9,hve],by simp only[mkS,b_,d_,O.refsLt,C.refsLt,C.refsLt1,l7];first | done | rfl | (simp;done),?_⟩;simp[mkS,Abs.get,C.refsLtT,C.refsLt,C.refsLt1])
   ·have hje:(j:Int)=x.arity:=by omega
    obtain⟨hX1,hX2,hX3⟩:=Gl.drA_call (S:=sgL rels) (n:=n) (mode:=mode) n1 p3 (by omega) (by
     rw[show ((ts.length:Nat):Int)=x.arity by omega];exact O_.2 ⟨x,hxm,rfl⟩)
    have hXe:(Gl.mk 9 x.name (ts.map V.tm) []).enc=[.int .i64 9,.str x.name,.sl (ts.map V.enc),.sl []]:=by rw[Gl.enc_eq];simp only[Gl.kind,Gl.name,Gl.terms,Gl.goals,D5,s_]
    have hNe:(Gl.mk 10 [] [] [Gl.mk 9 x.name (ts.map V.tm) []]).enc=[.int .i64 10,.str [],.sl [],.sl [[.int .i64 9,.str x.name,.sl (ts.map V.enc),.sl []]]]:=by rw[Gl.enc_eq];simp only[Gl.kind,Gl.name,Gl.terms,Gl.goals,I_,s_,hXe]
    have hmk:=ad5 10 [] [Gl.mk 9 x.name (ts.map V.tm) []];simp only[I_,s_,hXe,hNe] at hmk;by_cases hm2:mode=2
    ·subst hm2
     have hNA:=Gl.drA_not hX1 rfl hX2 hX3;have ho:=aj9 B hB 3 i6 h6 p4 p5;refine rS_ Tryz.func51 ?_;simp only[go_sem,seval,hja]
     repeat' (first|((first|(refine(ACalls.emb ho [0] rfl rfl rfl (by decide) rfl ?_)<;>(rintro c H' ⟨b,i7,h7,rfl,rfl,d3,d4⟩ _;cases b<;>refine⟨rfl,rfl,?_⟩))|refine hmk.calls rfl ?_|refine⟨sd,?_⟩)<;>(try simp only[go_sem,seval,hja,wk1]))|fail)
     ·refine hnx k (q1+1) (gs++[Gl.mk 9 x.name (ts.map V.tm) []]) i7 h7 _ ⟨by rw[c_];dsimp only[a_,g_];omega,fun w hw=>by
       rcases l_.1 hw with hw | hw
       ·exact j2 w hw
       ·simp at hw;subst hw;exact hX1,d3,d4,P_ (H_ (Gl.nc9_snoc gs _) k) (by omega)⟩ (by dsimp only;omega) (by refine⟨by simp[mkS,r9,hXe],by simp[mkS,r9,hXe],by simp only[mkS,b_,d_,O.refsLt,C.refsLt,C.refsLt1,l7];first | done | rfl | (simp;done),?_⟩;simp[mkS,Abs.get,C.refsLtT,C.refsLt,C.refsLt1])
     ·refine hnx k (q1+1) (gs++[Gl.mk 10 [] [] [Gl.mk 9 x.name (ts.map V.tm) []]]) i7 h7 _ ⟨by rw[c_];dsimp only[a_,g_];omega,fun w hw=>by
       rcases l_.1 hw with hw | hw
       ·exact j2 w hw
       ·simp at hw;subst hw;exact hNA,d3,d4,P_ (H_ (Gl.nc9_snoc gs _) k) (by omega)⟩ (by dsimp only;omega) (by refine⟨by simp[mkS,r9,hNe],by simp[mkS,r9,hNe],by simp only[mkS,b_,d_,O.refsLt,C.refsLt,C.refsLt1,l7];first | done | rfl | (simp;done),?_⟩;simp[mkS,Abs.get,C.refsLtT,C.refsLt,C.refsLt1])
    ·refine rS_ Tryz.func51 ?_
     simp only[go_sem,seval,hja,hm2]
     repeat' (first|simp(disch:=omega) only[l6]|refine⟨sd,?_⟩<;>try simp only[go_sem,seval,hja,hm2,wk1]|fail)
     all_goals refine hnx k (q1+1) (gs++[Gl.mk 9 x.name (ts.map V.tm) []]) i6 h6 _ ⟨by rw[c_];dsimp only[a_,g_];omega,fun w hw=>by
       rcases l_.1 hw with hw | hw
       ·exact j2 w hw
       ·simp at hw;subst hw;exact hX1,p4,p5,P_ (H_ (Gl.nc9_snoc gs _) k) (by omega)⟩ (by dsimp only;omega) (by refine⟨by simp[mkS,r9,hXe],by simp[mkS,r9,hXe],by simp only[mkS,b_,d_,O.refsLt,C.refsLt,C.refsLt1,l7];first | done | rfl | (simp;done),?_⟩;simp[mkS,Abs.get,C.refsLtT,C.refsLt,C.refsLt1])
 ·obtain⟨k,rfl⟩:∃k',k=k'+1:=⟨k - 1,by omega⟩
  have m1:(0:Int)<((k+1:Nat):Int):=by omega
  have m1':(0:Int)<(k:Int)+1:=by omega
  have wk1:IntKind.i64.wrap ((k:Int)+1 - 1)=(k:Int):=by rw[l6 (by omega) (by omega)];omega
  have hsm:=aT7 B hB n hn (decide (mode=0)) i3 h3 j3 j4;refine l9 Tryz.func51 mixed 7 _ _ (by kernel_rfl) ?_;simp only[go_sem,seval,run.eq_1,m1,m1'];refine AW.drawA mixed #[true,true,true,true,true,true,true,true,true,true,false] [(3,.box [.d (.int .i64 7),.d (.str []),.nil0,.own 4 q1])] [] [0,1,2,3,4,5,6,7,8,9] [10] none (by kernel_rfl) trivial (by simp[D8]) ?_;simp only[go_sem,seval]
  repeat' (first|((first|refine(ACalls.emb hsm [0] rfl rfl rfl (by decide) rfl ?_)<;>(rintro c H' ⟨g,i4,h4,rfl,rfl,dg,c3,c4⟩ _;refine⟨rfl,rfl,?_⟩)|refine⟨sd,?_⟩)<;>(try simp only[go_sem,seval]))|fail)
  have hge:=Gl.enc_eq g;refine rS_ Tryz.func51 ?_;simp only[go_sem,seval,m1,m1',wk1,hge]
  all_goals refine hnx k (q1+1) (gs++[g]) i4 h4 _ ⟨by rw[c_];dsimp only[a_,g_];omega,fun y hy=>by
   rcases l_.1 hy with hy | hy
   ·exact j2 y hy
   ·simp at hy;subst hy;exact dg _ _,c3,c4,by rw[Gl.nc9_app,j5,Gl.nc9_no (dg [] mode)]⟩ (by dsimp only;omega) (by refine⟨by simp[mkS,r9,hge],by simp[mkS,r9,hge],by simp only[mkS,b_,d_,O.refsLt,C.refsLt,C.refsLt1,l7];first | done | rfl | (simp;done),?_⟩;simp[mkS,Abs.get,C.refsLtT,C.refsLt,C.refsLt1])
def af9 (r:Rl):List UInt8×Int×Int:=(r.name,r.arity,r.locals)
theorem bq4 {M L:List Rl} (h:M.map af9=L.map af9) {r:Rl} (hr:r∈M):∃y,y∈L/\r.name=y.name/\r.arity=y.arity/\r.locals=y.locals:=by
 have h1:af9 r∈L.map af9:=by rw[<-h];exact List.mem_map_of_mem hr
 obtain⟨y,hy,e⟩:=O_.1 h1;unfold af9 at e;simp only[Prod.mk.injEq] at e;exact⟨y,hy,e.1.symm,e.2.1.symm,e.2.2.symm⟩
theorem bq5 {M L:List Rl} (h:M.map af9=L.map af9):M.length=L.length/\sgL M=sgL L:=by
 refine⟨by simpa using congrArg List.length h,?_⟩;have h1:=congrArg (List.map fun k:List UInt8×Int×Int=>(k.1,k.2.1)) h;simpa[sgL,af9,Function.comp_def] using h1
theorem aS2 {M L:List Rl} (h:M.map af9=L.map af9):M.map Rl.name=L.map Rl.name:=by
 have h1:=congrArg (List.map fun k:List UInt8×Int×Int=>k.1) h;simpa[af9,Function.comp_def] using h1
theorem aR8 {M:List Rl} {k:Nat} {r:Rl} (b:Gl) (hr:M[k]? = some r):(M.set k ⟨r.name,r.arity,r.locals,b⟩).map af9=M.map af9:=by
 apply List.ext_getElem?;intro j;rw[B_,B_,List.getElem?_set];split
 ·rename_i e;subst e
  rw[hr,if_pos (e_.1 hr).1];rfl
 ·rfl
theorem aF0 {S:List (List UInt8×Int)} {mode:Int} {M:List Rl} {k:Nat} {r:Rl} {b:Gl} (hr:M[k]? = some r) (hb:b.drB S (r.arity+r.locals) mode) (h:∀j r,j<k->M[j]? = some r->r.body.drB S (r.arity+r.locals) mode):∀j r',j<k+1->(M.set k ⟨r.name,r.arity,r.locals,b⟩)[j]? = some r'->r'.body.drB S (r'.arity+r'.locals) mode:=by
 intro j r' hj hm;rw[List.getElem?_set] at hm;split at hm
 ·split at hm
  ·cases hm;exact hb
  ·cases hm
 ·rename_i hne
  exact h j r' (by omega) hm
theorem bu0 (B:List UInt8) (hB:B.length<=1048576) (mode:Int) (i h:Int) (h0:0<=i) (h1:i<=B.length):ACalls Tryz.prog 25 [.ptr 0 0,.d (.int .i64 mode)] [cuO B i h] (fun c H'=>∃p i' h',c=.d (.agg (Pg.enc p))/\H'=[cuO B i' h']/\p.drP mode/\0<=i'/\i'<=B.length):=by
 have hmx:maxLen=9223372036854775807:=rfl;have hbl:=y9 B i h hB h0 h1 3;refine aE_ Tryz.func25 ?_;refine l9 Tryz.func25 mixed 4 _ _ (by kernel_rfl) ?_;simp only[go_sem,seval,run.eq_1];refine AW.adoptBB 2 0 7 94 (by decide) rfl rfl ?_;refine l9 Tryz.func25 mixed 3 _ _ (by kernel_rfl) ?_;simp only[go_sem,seval,run.eq_1]
 repeat' (first|simp(disch:=omega) only[l6]|((first|refine(ACalls.emb hbl [0] rfl rfl rfl (by decide) rfl ?_)<;>(rintro c H' ⟨x,i2,h2,rfl,rfl,⟨x0,x1⟩,b3,b4⟩ _;refine⟨rfl,rfl,?_⟩)|refine⟨sd,?_⟩)<;>(try simp only[go_sem,seval,run.eq_1]))|fail)
 obtain⟨k,hk,hk1,hk3⟩:∃k:Nat,(1+x).toNat=k/\1<=k/\k<=3:=⟨(1+x).toNat,rfl,by omega,by omega⟩;have hts:List.take k [[D.str [112]],[D.str [113]],[D.str [114]]]=U2 (ah2.take k):=by unfold U2;rw[List.map_take];rfl
 have hkl:(ah2.take k).length=k:=(V7 hk3).2.2;obtain⟨NL,hNL⟩:∃NL,ah2.take k=NL:=⟨_,rfl⟩;rw[hNL] at hts hkl;subst hkl;simp only[hk,hts,l8];refine rS_ Tryz.func25 ?_;simp only[go_sem,seval];refine AW.rng NL [0,1,4,5,18,19] 20 18 (fun u:Nat×List Rl×Int×Int=>[]) (fun _ u=>[cuO B u.2.2.1 u.2.2.2,.box [.nil0],.box [.own 3 u.1],.buf u.1 7 94 (u.2.1.map Rl.enc)]) (fun r u=>u.2.1.map Rl.name++r=NL/\(∀y,y∈u.2.1->1<=y.arity/\y.arity<=2/\0<=y.locals/\y.locals<=1)/\0<=u.2.2.1/\u.2.2.1<=B.length) (0,[],i2,h2) rfl (by simp only[l8]) ⟨rfl,(fun y hy=>by cases hy),b3,b4⟩ (by refine⟨by simp[mkS,r9,l8],by simp[mkS,r9,l8],by simp only[mkS,b_,d_,O.refsLt,C.refsLt,C.refsLt1,l7];first | done | rfl | (simp;done),?_⟩;simp[mkS,Abs.get,C.refsLtT,C.refsLt,C.refsLt1]) (fun ii nm r u hxi hdr hlt hm hinv hnext=>?_) (fun u hinv=>?_)
 ·obtain⟨q,L,i3,h3⟩:=u
  obtain⟨j1,j2,j3,j4⟩:=hinv;dsimp only at j1 j2 j3 j4 hnext |-;have hnx:=fun a b c d s'=>hnext (a,b,c,d) s';clear hnext;have hxx:=F7 hxi;have hii:(ii:Int)<(NL.length:Int):=hlt;have hLl:L.length<=3:=by
   have:=congrArg List.length j1;simp only[c_,o_,a_] at this;omega
  have hb2:=y9 B i3 h3 hB j3 j4 2;refine l9 Tryz.func25 mixed 9 _ _ (by kernel_rfl) ?_;simp only[go_sem,seval,run.eq_1,hii,d9 hxx,l8];refine AW.drawA mixed #[true,true,true,true,true,true,true,true,true,true,true,true,false] [(2,.box [.own 3 q])] [] [0,1,2,3,6,4,5,7,8,9,10,11] [12] none (by kernel_rfl) trivial (by simp[D8]) ?_;simp only[go_sem,seval]
  repeat' (first|simp(disch:=omega) only[l6]|((first|refine(ACalls.emb hb2 [0] rfl rfl rfl (by decide) rfl ?_)<;>(rintro c H' ⟨a1,i4,h4,rfl,rfl,⟨y0,y1⟩,d3,d4⟩ _;refine⟨rfl,rfl,?_⟩)|refine(ACalls.emb (y9 B i4 h4 hB d3 d4 2) [0] rfl rfl rfl (by decide) rfl ?_)<;>(rintro c H' ⟨a2,i5,h5,rfl,rfl,⟨z0,z1⟩,e3,e4⟩ _;refine⟨rfl,rfl,?_⟩)|refine⟨sd,?_⟩)<;>(try simp only[go_sem,seval]))|fail)
  have wa:IntKind.i64.wrap (1+a1)=1+a1:=by rw[l6 (by omega) (by omega)]
  have hRe:(Rl.mk nm (1+a1) a2 ⟨0,[],[],[]⟩).enc=[.str nm,.int .i64 (1+a1),.int .i64 a2,.int .i64 0,.str [],.sl [],.sl []]:=rfl;refine rS_ Tryz.func25 ?_;simp only[go_sem,seval,wa]
  repeat' (first|simp(disch:=omega) only[l6]|fail)
  all_goals refine hnx (q+1) (L++[Rl.mk nm (1+a1) a2 ⟨0,[],[],[]⟩]) i5 h5 _ ⟨by rw[List.map_append,j_];exact j1,fun y hy=>by
   rcases l_.1 hy with hy | hy
   ·exact j2 y hy
   ·simp at hy;subst hy;exact⟨by dsimp only;omega,by dsimp only;omega,by dsimp only;omega,by dsimp only;omega⟩,e3,e4⟩ (by refine⟨by simp[mkS,r9,hRe,l8],by simp[mkS,r9,hRe,l8],by simp only[mkS,b_,d_,O.refsLt,C.refsLt,C.refsLt1,l7];first | done | rfl | (simp;done),?_⟩;simp[mkS,Abs.get,C.refsLtT,C.refsLt,C.refsLt1])
 ·obtain⟨q,L,i3,h3⟩:=u
  obtain⟨j1,j2,j3,j4⟩:=hinv;dsimp only at j1 j2 j3 j4 |-;simp only[s_,List.append_nil] at j1;have hLl:L.length=NL.length:=by rw[<-j1,o_]
  have hml:∀l:List Rl,(l.map Rl.enc).length=l.length:=fun l=>o_ _;refine l9 Tryz.func25 mixed 7 _ _ (by kernel_rfl) ?_;simp only[go_sem,seval,run.eq_1];refine AW.regA ?_;simp only[go_sem,seval,hml];refine rS_ Tryz.func25 ?_;simp only[go_sem,seval];refine AW.lp [0,1,4,5,38,39] (fun u:Nat×List Rl×Int×Int=>[(40,.d (.int .i64 (u.1:Int)))]) (fun _ u=>[cuO B u.2.2.1 u.2.2.2,.box [.nil0],.box [.own 3 q],.buf q 7 94 (u.2.1.map Rl.enc)]) (fun u=>u.2.1.map af9=L.map af9/\u.1<=L.length/\(∀j r,j<u.1->u.2.1[j]? = some r->r.body.drB (sgL L) (r.arity+r.locals) mode)/\0<=u.2.2.1/\u.2.2.1<=B.length) (fun u=>L.length - u.1) (0,L,i3,h3) ⟨rfl,q_ _,(fun j r hj _=>absurd hj (Nat.not_lt_zero _)),j3,j4⟩ (by refine⟨by simp[mkS,r9],by simp[mkS,r9],by simp only[mkS,b_,d_,O.refsLt,C.refsLt,C.refsLt1,l7];first | done | rfl | (simp;done),?_⟩;simp[mkS,Abs.get,C.refsLtT,C.refsLt,C.refsLt1]) ?_;rintro ⟨k,M,i4,h4⟩ ⟨m1,m2,m3,m4,m5⟩ hnext;dsimp only at m1 m2 m3 m4 m5 hnext |-;have hnx:=fun a b c d s'=>hnext (a,b,c,d) s';clear hnext;obtain⟨n1,n2⟩:=bq5 m1;have hha:∀r,r∈M->J6 r.name=true/\1<=r.arity/\r.arity<=2/\0<=r.locals/\r.locals<=1:=fun r hr=>by
   obtain⟨y,hy,e1,e2,e3⟩:=bq4 m1 hr;have hyn:y.name∈NL:=by rw[<-j1];exact List.mem_map_of_mem hy
   rw[<-hNL] at hyn;obtain⟨g1,g2,g3,g4⟩:=j2 y hy;exact⟨by rw[e1];exact((V7 hk3).2.1 _ hyn).1,by omega,by omega,by omega,by omega⟩
  by_cases hkL:k=L.length
  ·subst hkL
   clear hnx;refine AW.frzBox 2 0 3 rfl rfl rfl (by decide) ?_;simp only[go_sem,seval];have hlt:¬(L.length:Int)<(L.length:Int):=by omega
   have hfin:Pg.drP mode ⟨M⟩:=⟨⟨L.length,by omega,by omega,by rw[aS2 m1,j1,hLl,hNL]⟩,fun r hr=>by
    obtain⟨f1,f2,f3,f4,f5⟩:=hha r hr;obtain⟨j,hj⟩:=List.mem_iff_getElem?.1 hr;refine⟨f2,f3,f4,f5,?_⟩;have:=m3 j r (by have:=(e_.1 hj).1;dsimp only at this;omega) hj;rw[<-n2] at this;exact this⟩
   refine rS_ Tryz.func25 ?_;simp only[go_sem,seval,hlt]
   repeat' (first|exact⟨⟨M⟩,_,_,by rw[Pg.enc_eq],rfl,hfin,m4,m5⟩|fail)
  ·have hkl:(k:Int)<(L.length:Int):=by omega
   obtain⟨r,hr⟩:∃r,M[k]? = some r:=⟨M[k]'(by omega),h_ _⟩;obtain⟨g1,g2,g3,g4,g5⟩:=hha r (f_ hr);have hre:(M.map Rl.enc)[k]? = some r.enc:=by rw[B_,hr];rfl
   have hRe:r.enc=[.str r.name,.int .i64 r.arity,.int .i64 r.locals,.int .i64 r.body.kind,.str r.body.name,.sl (r.body.terms.map Tm.enc),.sl (r.body.goals.map Gl.enc)]:=Rl.enc_eq r;have hcl:=av0 B hB M (by omega) (by omega) (fun y hy=>by obtain⟨f1,f2,f3,f4,f5⟩:=hha y hy;exact⟨f1,by omega,by omega⟩) (r.arity+r.locals) (by omega) 0 (by omega) mode i4 h4 m4 m5 q 94;rw[show ((0:Nat):Int)=0 from rfl] at hcl;have wn:IntKind.i64.wrap (r.arity+r.locals)=r.arity+r.locals:=by rw[l6 (by omega) (by omega)]
   refine l9 Tryz.func25 mixed 8 _ _ (by kernel_rfl) ?_;simp only[go_sem,seval,run.eq_1,hkl];refine AW.regA ?_;simp only[go_sem,seval,hml,n1,hkl,d9 hre,hRe]
   repeat' (first|refine⟨sd,?_⟩<;>try simp only[go_sem,seval,hml,n1,hkl,d9 hre,hRe]|fail)
   refine l9 Tryz.func25 mixed 3 _ _ (by kernel_rfl) ?_;simp only[go_sem,seval,run.eq_1,wn,hRe];refine AW.regU ?_;simp only[go_sem,seval]
   repeat' (first|refine(ACalls.emb hcl [0,3] rfl rfl rfl (by decide) rfl ?_)<;>(rintro c H' ⟨g,i5,h5,rfl,rfl,dg,c3,c4⟩ _;refine⟨rfl,rfl,?_⟩)<;>try simp only[go_sem,seval]|fail)
   rw[n2] at dg;have hb3:=y9 B i5 h5 hB c3 c4 3;refine rS_ Tryz.func25 ?_;simp only[go_sem,seval]
   repeat' (first|refine(ACalls.emb hb3 [0] rfl rfl rfl (by decide) rfl ?_)<;>(rintro c H' ⟨y,i6,h6,rfl,rfl,⟨y0,y1⟩,d3,d4⟩ _;refine⟨rfl,rfl,?_⟩)<;>try simp only[go_sem,seval]|fail)
   obtain⟨k0,hk0,hk02⟩:∃k0:Nat,y=(k0:Int)/\k0<=2:=⟨y.toNat,by omega,by omega⟩;subst hk0;refine AW.lp [0,1,4,5,8,10,11,38,39,40] (fun u:Nat×Nat×List Gl×Int×Int=>[(12,.d (.int .i64 (u.1:Int)))]) (fun _ u=>[cuO B u.2.2.2.1 u.2.2.2.2,.box [.nil0],.box [.own 3 q],.buf q 7 94 (M.map Rl.enc),.box [.d (.str r.name),.d (.int .i64 r.arity),.d (.int .i64 r.locals),.d (.int .i64 r.body.kind),.d (.str r.body.name),.d (.sl (r.body.terms.map Tm.enc)),.d (.sl (r.body.goals.map Gl.enc))],.buf u.2.1 4 92 (u.2.2.1.map Gl.enc),.box [.d (.int .i64 8),.d (.str []),.nil0,.own 5 u.2.1]]) (fun u=>u.1+u.2.2.1.length<=3/\1<=u.2.2.1.length/\(∀g,g∈u.2.2.1->g.drC (sgL L) (r.arity+r.locals) mode)/\0<=u.2.2.2.1/\u.2.2.2.1<=B.length) (fun u=>u.1) (k0,1,[g],i6,h6) ⟨by simp;omega,by simp,(fun y hy=>by simp at hy;subst hy;exact dg),d3,d4⟩ (by refine⟨by simp[mkS,r9],by simp[mkS,r9],by simp only[mkS,b_,d_,O.refsLt,C.refsLt,C.refsLt1,l7];first | done | rfl | (simp;done),?_⟩;simp[mkS,Abs.get,C.refsLtT,C.refsLt,C.refsLt1]) ?_;rintro ⟨kk,q2,gs,i7,h7⟩ ⟨p1,p2,p3,p4,p5⟩ hnext;dsimp only at p1 p2 p3 p4 p5 hnext |-;have hny:=fun a b c d e s'=>hnext (a,b,c,d,e) s';clear hnext;by_cases hk0:kk=0
   ·subst hk0
    clear hny;refine AW.frzBox 6 3 5 rfl rfl rfl (by decide) ?_;simp only[go_sem,seval];have hgd:(M.map Rl.enc).getD k []=r.enc:=by rw[x_,hre];rfl
    have hset:∀b:Gl,(Rl.mk r.name r.arity r.locals b).enc=[.str r.name,.int .i64 r.arity,.int .i64 r.locals,.int .i64 b.kind,.str b.name,.sl (b.terms.map Tm.enc),.sl (b.goals.map Gl.enc)]:=fun b=>Rl.enc_eq _;have wj:IntKind.i64.wrap ((k:Int)+1)=((k+1:Nat):Int):=by rw[l6 (by omega) (by omega)];omega
    have hgl:(gs.map Gl.enc).length=gs.length:=o_ _;by_cases hg1:gs.length=1
    ·obtain⟨g0,rfl⟩:∃g0,gs=[g0]:=List.length_eq_one_iff.1 hg1
     have hoc:=aj9 B hB 2 i7 h7 p4 p5;refine l9 Tryz.func25 mixed 10 _ _ (by kernel_rfl) ?_;simp only[go_sem,seval,run.eq_1]
     repeat' (first|((refine(ACalls.emb hoc [0] rfl rfl rfl (by decide) rfl ?_)<;>(rintro c H' ⟨b,i8,h8,rfl,rfl,f3,f4⟩ _;cases b<;>refine⟨rfl,rfl,?_⟩))<;>(try simp only[go_sem,seval,run.eq_1]))|fail)
     ·have hs:=hset ⟨8,[],[],[g0]⟩
      dsimp only[Gl.kind,Gl.name,Gl.terms,Gl.goals] at hs;simp only[s_,I_] at hs;refine AW.regT ?_;simp only[go_sem,seval,hgd,hRe,hml,n1,hkl]
      repeat' (first|refine⟨sd,?_⟩<;>try simp only[go_sem,seval,hgd,hRe,hml,n1,hkl]|fail)
      refine rS_ Tryz.func25 ?_;simp only[go_sem,seval,wj];refine hnx (k+1) (M.set k ⟨r.name,r.arity,r.locals,⟨8,[],[],[g0]⟩⟩) i8 h8 _ ⟨by rw[<-m1];exact aR8 _ hr,by dsimp only;omega,aF0 hr (.inr ⟨rfl,rfl,rfl,by simp[Gl.goals],p3⟩) m3,f3,f4⟩ (by dsimp only;omega) (by refine⟨by simp[mkS,r9,hr,hRe,hs],by simp[mkS,r9,hr,hRe,hs],by simp only[mkS,b_,d_,O.refsLt,C.refsLt,C.refsLt1,l7];first | done | rfl | (simp;done),?_⟩;simp[mkS,Abs.get,C.refsLtT,C.refsLt,C.refsLt1])
     ·have hs:=hset g0
      have hge:=Gl.enc_eq g0;refine AW.regT ?_;simp only[go_sem,seval,hgd,hRe,hml,n1,hkl,hge]
      repeat' (first|refine⟨sd,?_⟩<;>try simp only[go_sem,seval,hgd,hRe,hml,n1,hkl,hge]|fail)
      refine rS_ Tryz.func25 ?_;simp only[go_sem,seval,wj];refine hnx (k+1) (M.set k ⟨r.name,r.arity,r.locals,g0⟩) i8 h8 _ ⟨by rw[<-m1];exact aR8 _ hr,by dsimp only;omega,aF0 hr (.inl (p3 g0 (by simp))) m3,f3,f4⟩ (by dsimp only;omega) (by refine⟨by simp[mkS,r9,hr,hRe,hs],by simp[mkS,r9,hr,hRe,hs],by simp only[mkS,b_,d_,O.refsLt,C.refsLt,C.refsLt1,l7];first | done | rfl | (simp;done),?_⟩;simp[mkS,Abs.get,C.refsLtT,C.refsLt,C.refsLt1])
    ·have hg1':¬(gs.length:Int)=1:=by omega
     have hs:=hset ⟨8,[],[],gs⟩;dsimp only[Gl.kind,Gl.name,Gl.terms,Gl.goals] at hs;simp only[s_] at hs;refine l9 Tryz.func25 mixed 10 _ _ (by kernel_rfl) ?_;simp only[go_sem,seval,run.eq_1,hgl,hg1'];refine AW.regT ?_;simp only[go_sem,seval,hgd,hRe,hml,n1,hkl]
     repeat' (first|refine⟨sd,?_⟩<;>try simp only[go_sem,seval,hgd,hRe,hml,n1,hkl]|fail)
     refine rS_ Tryz.func25 ?_;simp only[go_sem,seval,wj];refine hnx (k+1) (M.set k ⟨r.name,r.arity,r.locals,⟨8,[],[],gs⟩⟩) i7 h7 _ ⟨by rw[<-m1];exact aR8 _ hr,by dsimp only;omega,aF0 hr (.inr ⟨rfl,rfl,rfl,by simp[Gl.goals];omega,p3⟩) m3,p4,p5⟩ (by dsimp only;omega) (by refine⟨by simp[mkS,r9,hr,hRe,hs],by simp[mkS,r9,hr,hRe,hs],by simp only[mkS,b_,d_,O.refsLt,C.refsLt,C.refsLt1,l7];first | done | rfl | (simp;done),?_⟩;simp[mkS,Abs.get,C.refsLtT,C.refsLt,C.refsLt1])
   ·obtain⟨kk,rfl⟩:∃k',kk=k'+1:=⟨kk - 1,by omega⟩
    have e1:(0:Int)<((kk+1:Nat):Int):=by omega
    have e1':(0:Int)<(kk:Int)+1:=by omega
    have wk1:IntKind.i64.wrap ((kk:Int)+1 - 1)=(kk:Int):=by rw[l6 (by omega) (by omega)];omega
    have hb5:=y9 B i7 h7 hB p4 p5 5;refine l9 Tryz.func25 mixed 7 _ _ (by kernel_rfl) ?_;simp only[go_sem,seval,run.eq_1,e1,e1'];refine AW.drawA mixed #[true,true,true,true,true,true,true,true,true,true,true,true,true,true,false] [(2,.box [.own 3 q]),(6,.box [.d (.int .i64 8),.d (.str []),.nil0,.own 5 q2])] [] [0,1,2,3,4,5,6,9,7,8,10,11,12,13] [14] none (by kernel_rfl) trivial (by simp[D8]) ?_;simp only[go_sem,seval]
    repeat' (first|refine(ACalls.emb hb5 [0] rfl rfl rfl (by decide) rfl ?_)<;>(rintro c H' ⟨z,i8,h8,rfl,rfl,⟨z0,z1⟩,f3,f4⟩ _;refine⟨rfl,rfl,?_⟩)<;>try simp only[go_sem,seval]|fail)
    obtain⟨cn,hc1,hc2⟩:∃cn:Nat,IntKind.i64.wrap (Int.tdiv z 2)=(cn:Int)/\cn<=2:=by
     rcases(show z=0\/z=1\/z=2\/z=3\/z=4 by omega) with rfl | rfl | rfl | rfl | rfl
     ·exact⟨0,by decide,by omega⟩
     ·exact⟨0,by decide,by omega⟩
     ·exact⟨1,by decide,by omega⟩
     ·exact⟨1,by decide,by omega⟩
     ·exact⟨2,by decide,by omega⟩
    rw[hc1];have hcl:=av0 B hB M (by omega) (by omega) (fun y hy=>by obtain⟨f1,f2,f3,f4,f5⟩:=hha y hy;exact⟨f1,by omega,by omega⟩) (r.arity+r.locals) (by omega) cn hc2 mode i8 h8 f3 f4 q 94;refine(ACalls.emb hcl [0,3] rfl rfl rfl (by decide) rfl ?_);rintro c H' ⟨g',i9,h9,rfl,rfl,dg',o3,o4⟩ _;refine⟨rfl,rfl,?_⟩;simp only[go_sem,seval]
    repeat' (first|refine⟨sd,?_⟩<;>try simp only[go_sem,seval]|fail)
    rw[n2] at dg';have hge:=Gl.enc_eq g';refine rS_ Tryz.func25 ?_;simp only[go_sem,seval,wk1,hge]
    all_goals refine hny kk (q2+1) (gs++[g']) i9 h9 _ ⟨by rw[c_];dsimp only[a_,g_];omega,by rw[c_];dsimp only[a_,g_];omega,fun w hw=>by
     rcases l_.1 hw with hw | hw
     ·exact p3 w hw
     ·simp at hw;subst hw;exact dg',o3,o4⟩ (by dsimp only;omega) (by refine⟨by simp[mkS,r9,hge],by simp[mkS,r9,hge],by simp only[mkS,b_,d_,O.refsLt,C.refsLt,C.refsLt1,l7];first | done | rfl | (simp;done),?_⟩;simp[mkS,Abs.get,C.refsLtT,C.refsLt,C.refsLt1])
theorem bE3 (B:List UInt8) (hB:B.length<=1048576) (L:List (List UInt8)) (hL:1<=L.length) (hl:L.length<=100) (i h:Int) (h0:0<=i) (h1:i<=B.length):ACalls Tryz.prog 48 [.ptr 0 0,.d (.sl (U2 L))] [cuO B i h] (fun c H'=>∃s i' h',c=.d (.str s)/\H'=[cuO B i' h']/\s∈L/\0<=i'/\i'<=B.length):=by
 have hb:=y9 B i h hB h0 h1 (L.length:Int);refine aE_ Tryz.func48 ?_;refine rS_ Tryz.func48 ?_;simp only[go_sem,seval,l8];refine(ACalls.emb hb [0] rfl rfl rfl (by decide) rfl ?_);rintro c H' ⟨x,i2,h2,rfl,rfl,⟨b1,b2⟩,b3,b4⟩ _;refine⟨rfl,rfl,?_⟩;obtain⟨k,hk,hkl⟩:∃k:Nat,x=k/\k<L.length:=⟨x.toNat,by omega,by omega⟩;subst hk;obtain⟨s,hs⟩:∃s,L[k]? = some s:=⟨L[k],h_ hkl⟩;have hxx:=F7 hs;simp only[go_sem,seval,l8,d9 hxx]
 repeat' (first|exact⟨s,_,_,rfl,rfl,f_ hs,b3,b4⟩|refine⟨sd,?_⟩<;>try simp only[go_sem,seval,l8,d9 hxx]|fail)
theorem bt9 (B:List UInt8) (hB:B.length<=1048576) (i h:Int) (h0:0<=i) (h1:i<=B.length):ACalls Tryz.prog 21 [.ptr 0 0] [cuO B i h] (fun c H'=>∃k i' h',c=.d (.str (bt2 k))/\H'=[cuO B i' h']/\0<=i'/\i'<=B.length):=by
 have hb:=bE3 B hB [bt2 0,bt2 1,bt2 2,bt2 3] (by decide) (by decide) i h h0 h1;have hsd:U2 [bt2 0,bt2 1,bt2 2,bt2 3]=[[.str [108,105,115,116,115]],[.str [103,114,97,112,104]],[.str [115,101,116,115]],[.str [103,97,109,101,115]]]:=rfl;rw[hsd] at hb;refine aE_ Tryz.func21 ?_;refine rS_ Tryz.func21 ?_;simp only[go_sem,seval]
 repeat' (first|refine(ACalls.emb hb [0] rfl rfl rfl (by decide) rfl ?_)<;>(rintro c H' ⟨s,i2,h2,rfl,rfl,hs,b3,b4⟩ _;refine⟨rfl,rfl,?_⟩)<;>try simp only[go_sem,seval]|fail)
 obtain⟨k,rfl⟩:∃k,s=bt2 k:=by
  simp only[List.mem_cons,List.not_mem_nil,or_false] at hs;rcases hs with rfl | rfl | rfl | rfl<;>exact⟨_,rfl⟩
 exact⟨k,_,_,rfl,rfl,b3,b4⟩
theorem bO1 (k:Int):Gives Tryz.prog 167 [.int .i64 k] (.d (.bool (decide (k=10)))):=by
 refine aE_ Tryz.func167 ?_;refine rS_ Tryz.func167 ?_;simp only[go_sem,seval]
theorem bP9 (gb:List D) (f:FuncId) (q:Int->Bool) (hgo:isGo Tryz.prog f=true) (hf:∀k,Gives Tryz.prog f [.int .i64 k] (.d (.bool (q k)))):Clo Tryz.prog 177 [.ptr 2 0,.ptr 1 0] 3 (fun x:Gl=>D.agg x.enc) (fun b:Bool=>[.box (gb.map .d),.box [.fn f []],.box [.d (.bool b)]]) (fun _=>True) (fun b x=>b || q x.kind):=by
 refine⟨by kernel_rfl,rfl,fun _=>rfl,fun a=>by simp only[b_,d_,O.refsLt,l7,C.refsLt,C.refsLt1];rfl,fun a x _=>?_⟩;refine aE_ Tryz.func177 ?_;refine rS_ Tryz.func177 ?_;simp only[go_sem,seval,hgo]
 repeat' (first|refine E8 ?_ ?_<;>intro hq<;>try simp only[go_sem,seval,hgo,hq]|refine(hf _).calls rfl ?_<;>try simp only[go_sem,seval,hgo]|fail)
 all_goals simp only[l7,N_,Bool.true_or]
theorem bj1 (g:Gl) (f:FuncId) (q:Int->Bool) (hgo:isGo Tryz.prog f=true) (hf:∀k,Gives Tryz.prog f [.int .i64 k] (.d (.bool (q k)))):ACalls Tryz.prog 166 [.d (.agg g.enc),.fn f []] [] (fun c H'=>c=.d (.bool (g.subs.any fun x=>q x.kind))/\H'=[]):=by
 have e1:=ah1 (bP9 g.enc f q hgo hf) g false (fun _ _=>trivial);rw[aO5,N_] at e1;generalize (g.subs.any fun x=>q x.kind)=N at e1 |-;refine aE_ Tryz.func166 ?_;refine rS_ Tryz.func166 ?_;simp only[go_sem,seval]
 repeat' (first|refine ACalls.mono e1 ?_<;>(rintro c H' ⟨rfl,rfl⟩)<;>try simp only[go_sem,seval]|fail)
theorem aT1 (g:Gl):Gives Tryz.prog 137 [.agg g.enc] (.d (.bool (!g.only false))):=by
 rw[<-Gl.only_neg];have e1:=bj1 g 167 (fun k=>decide (k=10)) (by kernel_rfl) bO1;generalize (g.subs.any fun x=>decide (x.kind=10))=N at e1 |-;refine aE_ Tryz.func137 ?_;refine rS_ Tryz.func137 ?_;simp only[go_sem,seval]
 repeat' (first|refine e1.frame (X:=[_]) rfl rfl ?_<;>(rintro c H' ⟨rfl,rfl⟩ _)<;>try simp only[go_sem,seval]|fail)
theorem aS5 (p:Pg):Gives Tryz.prog 101 [.agg p.enc] (.d (.bool (p.rels.all fun r=>r.body.only false))):=by
 refine aE_ Tryz.func101 ?_;refine rS_ Tryz.func101 ?_;simp only[go_sem,seval];refine AW.rng p.rels [6,7] 8 6 (fun _:Unit=>[]) (fun H _=>H) (fun r _=>(r.all fun r=>r.body.only false)=p.rels.all fun r=>r.body.only false) () rfl (by simp) rfl I7 (fun i x r acc hxi hdr hlt hm hinv hnext=>?_) (fun acc hinv=>?_)
 ·rw[b_] at hinv
  refine rS_ Tryz.func101 ?_;simp only[go_sem,seval,hlt,d9 hxi]
  repeat' (first|refine E8 ?_ ?_<;>intro hq<;>try simp only[go_sem,seval,hq]|simp(disch:=omega) only[l6]|refine hnext () _ ?_ I7|refine(aT1 _).calls rfl ?_<;>try simp only[go_sem,seval]|fail)
  all_goals clear hnext
  all_goals (rw[<-hinv];simp_all;done)
 ·rw[d_] at hinv
  refine rS_ Tryz.func101 ?_;simp only[go_sem,seval];rw[<-hinv]
theorem ay9 (p:Pg) (hw:wtL p.enc<=1048576):Gives Tryz.prog 54 [.agg p.enc] (.d (.bool (p.all false))):=by
 have hp:p.all false=(M9 p && p.rels.all fun r=>r.body.only false):=rfl;rw[hp];refine aE_ Tryz.func54 ?_;refine rS_ Tryz.func54 ?_;simp only[go_sem,seval]
 repeat' (first|refine E8 ?_ ?_<;>intro hq<;>try simp only[go_sem,seval,hq]|((first|refine(aa0 _ sd).calls rfl ?_|refine(aS5 _).calls rfl ?_)<;>(try simp only[go_sem,seval]))|fail)
 all_goals simp[*]
theorem bh6 (pu:Bool):∀(t:Gl),Gives Tryz.prog 93 [.agg t.enc,.bool pu] (.d (.bool (t.only pu))):=by
 intro t;induction t using Gl.ind' with
 | h t ih =>
  have h0:=Gl.only_eq pu t;have h1:Gl.onlyK pu t.kind=(decide (t.kind≠10) && !(pu && (decide (3<=t.kind) && decide (t.kind<=6)))):=rfl;rw[h1] at h0;clear h1;generalize t.only pu=N at h0 |-;refine aE_ Tryz.func93 ?_;refine rS_ Tryz.func93 ?_;simp only[go_sem,seval];refine AW.rng t.goals [1,2,8,9] 10 8 (fun _:Unit=>[]) (fun H _=>H) (fun r _=>r.all (Gl.only pu)=t.goals.all (Gl.only pu)) () rfl (by simp) rfl I7 (fun i x r acc hxi hdr hlt hm hinv hnext=>?_) (fun acc hinv=>?_)
  ·have ihx:=ih x (f_ hxi)
   rw[b_] at hinv;refine rS_ Tryz.func93 ?_;simp only[go_sem,seval,hlt,d9 hxi]
   repeat' (first|refine E8 ?_ ?_<;>intro hq<;>try simp only[go_sem,seval,hq]|simp(disch:=omega) only[l6]|refine hnext () _ ?_ I7|refine ihx.calls rfl ?_<;>try simp only[go_sem,seval]|fail)
   all_goals clear hnext ihx ih
   all_goals first | rw[h0,<-hinv];simp[*];done | rw[<-hinv];simp[*];done
  ·rw[d_] at hinv
   rw[<-hinv,v_] at h0;clear hinv ih;refine rS_ Tryz.func93 ?_;simp only[go_sem,seval]
   repeat' (first|refine E8 ?_ ?_<;>intro hq<;>try simp only[go_sem,seval,hq]|refine(F8 _ _ _).calls rfl ?_<;>try simp only[go_sem,seval]|fail)
   all_goals (rw[h0];clear h0;simp_all)
theorem aM9 (pu:Bool) (p:Pg) (hw:wtL p.enc<=1048576):Gives Tryz.prog 50 [.agg p.enc,.bool pu] (.d (.bool (p.all pu))):=by
 have hp:p.all pu=(M9 p && p.rels.all fun r=>r.body.only pu):=rfl;rw[hp];by_cases hok:M9 p=true
 ·rw[hok,v_]
  refine aE_ Tryz.func50 ?_;refine rS_ Tryz.func50 ?_;simp only[go_sem,seval,hok]
  repeat' (first|refine(Q3 _ sd).calls rfl ?_<;>try simp only[go_sem,seval,hok]|fail)
  refine AW.rng p.rels [1,11,12] 13 11 (fun _:Unit=>[]) (fun H _=>H) (fun r _=>(r.all fun r=>r.body.only pu)=p.rels.all fun r=>r.body.only pu) () rfl (by simp) rfl I7 (fun i x r acc hxi hdr hlt hm hinv hnext=>?_) (fun acc hinv=>?_)
  ·rw[b_] at hinv
   refine rS_ Tryz.func50 ?_;simp only[go_sem,seval,hlt,d9 hxi]
   repeat' (first|refine E8 ?_ ?_<;>intro hq<;>try simp only[go_sem,seval,hq]|simp(disch:=omega) only[l6]|refine hnext () _ ?_ I7|refine(bh6 _ _).calls rfl ?_<;>try simp only[go_sem,seval]|fail)
   all_goals clear hnext
   all_goals (rw[<-hinv];simp_all;done)
  ·rw[d_] at hinv
   refine rS_ Tryz.func50 ?_;simp only[go_sem,seval];rw[<-hinv]
 ·simp only[C_] at hok
  rw[hok];refine aE_ Tryz.func50 ?_;refine rS_ Tryz.func50 ?_;simp only[go_sem,seval,hok]
  repeat' (first|refine(Q3 _ sd).calls rfl ?_<;>try simp only[go_sem,seval,hok]|fail)
theorem ay6 (p:Pg) (hw:wtL p.enc<=1048576):Gives Tryz.prog 23 [.agg p.enc] (.d (.bool (p.all false))):=by
 refine aE_ Tryz.func23 ?_;refine rS_ Tryz.func23 ?_;simp only[go_sem,seval]
 repeat' (first|refine(aM9 _ _ sd).calls rfl ?_<;>try simp only[go_sem,seval]|fail)
theorem bf2 (p:Pg) (hw:wtL p.enc<=1048576):Gives Tryz.prog 24 [.agg p.enc] (.d (.bool (p.all true))):=by
 refine aE_ Tryz.func24 ?_;refine rS_ Tryz.func24 ?_;simp only[go_sem,seval]
 repeat' (first|refine(aM9 _ _ sd).calls rfl ?_<;>try simp only[go_sem,seval]|fail)
theorem bH5 {p:Pg} (h:p.all true=true):p.all false=true:=by
 unfold Pg.all at h |-;rw[i_] at h |-;refine⟨h.1,u_.2 fun r hr=>?_⟩;have:=u_.1 h.2 r hr;unfold Gl.only at this |-;refine u_.2 fun x hx=>?_;have:=u_.1 this x hx;unfold Gl.onlyK at this |-;rw[i_] at this |-;exact⟨this.1,rfl⟩
theorem ax8 (B:List UInt8) (hB:B.length<=1048576):ACalls Tryz.prog 4 [.d (.sl (bytesD B)),.d (.int .i64 0),.d (.int .i64 1)] [] (fun c H'=>∃p,c=.d (.agg (Pg.enc p))/\H'=[]/\p.made 1):=by
 have hmx:maxLen=9223372036854775807:=rfl;have hw:=aG2 B hB 0 (by omega);rw[show ((0:Nat):Int)=0 from rfl] at hw;refine aE_ Tryz.func4 ?_;refine AW.hole ?_;refine l9 Tryz.func4 mixed 5 _ _ (by kernel_rfl) ?_;simp only[go_sem,seval,run.eq_1]
 repeat' (first|refine(ACalls.emb hw [0] rfl rfl rfl (by decide) rfl ?_)<;>(rintro c H' ⟨rfl,i,h,rfl,e1,e2⟩ _;refine⟨rfl,rfl,?_⟩)<;>try simp only[go_sem,seval,run.eq_1]|fail)
 refine AW.unbox 7 0 (cs:=cuD B i h) rfl rfl ?_;have hnm:=bt9 B hB i h e1 e2;refine rS_ Tryz.func4 ?_;simp only[go_sem,seval]
 repeat' (first|refine(ACalls.emb hnm [2] rfl rfl rfl (by decide) rfl ?_)<;>(rintro c H' ⟨k,i2,h2,rfl,rfl,b3,b4⟩ _;refine⟨rfl,rfl,?_⟩)<;>try simp only[go_sem,seval]|fail)
 obtain⟨T,rels,hT,hTl,hTm,hp,hok,hfine⟩:=bE0 k;have hlt:=az5 k;have hpp:=ap8 (bz9 k) (by have:=bE1 k;omega) T rels hT (by omega) (fun t ht=>⟨((bB2 hT).2 t ht).1,by have:=hTm t ht;omega⟩) hp hok (by have:=hfine.wt;omega);have hPe:(Pg.mk rels).enc=[.sl (rels.map Rl.enc)]:=Pg.enc_eq _;rw[hPe] at hpp;have hip:=ay6 ⟨rels⟩ (by have:=hfine.wt;omega);have hiu:=bf2 ⟨rels⟩ (by have:=hfine.wt;omega);have hfin1:(Pg.mk rels).all false=true->(Pg.mk rels).fine 1:=fun h=>⟨hfine.ok,hfine.wt,hfine.cls,hfine.one,fun _=>h⟩;have hal:(Pg.mk rels).all true=true->(Pg.mk rels).all false=true:=bH5;rw[hPe] at hip hiu;generalize (Pg.mk rels).all false=X1 at hip hfin1 hal;generalize (Pg.mk rels).all true=X2 at hiu hal;have hon:=aj9 B hB 8 i2 h2 b3 b4
 repeat' (first|refine E8 ?_ ?_<;>intro hq<;>try simp only[go_sem,seval,hq]|((first|refine hlt.calls rfl ?_|refine hip.calls rfl ?_|refine hiu.calls rfl ?_|refine hpp.calls rfl ?_|(refine(ACalls.emb hon [2] rfl rfl rfl (by decide) rfl ?_)<;>(rintro c H' ⟨b,i3,h3,rfl,rfl,c3,c4⟩ _;cases b<;>refine⟨rfl,rfl,?_⟩))|refine(ACalls.emb (bu0 B hB 1 i3 h3 c3 c4) [2] rfl rfl rfl (by decide) rfl ?_)<;>(rintro c H' ⟨p,i4,h4,rfl,rfl,dp,d3,d4⟩ _;refine⟨rfl,rfl,?_⟩)|refine⟨by assumption,?_⟩)<;>(try simp only[go_sem,seval]))|fail)
 ·exact .inl dp
 ·exact⟨⟨rels⟩,by rw[hPe],.inr ⟨k,T,_,hT,hp,hfin1 (hal (by assumption))⟩⟩
 ·exact .inl dp
 ·exact⟨⟨rels⟩,by rw[hPe],.inr ⟨k,T,_,hT,hp,hfin1 (by assumption)⟩⟩
end Go.Proofs.YtehgpkadkdekmaaGreatDoor
