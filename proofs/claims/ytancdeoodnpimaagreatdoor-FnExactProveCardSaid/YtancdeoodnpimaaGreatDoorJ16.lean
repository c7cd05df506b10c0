import Derived.Test.YtancdeoodnpimaaGreatDoorJ15
open List renaming append_nil->a_,mem_of_getElem?->b_,all_cons->c_,length_cons->d_,all_nil->e_,length_map->g_,getElem?_eq_some_iff->h_,all_eq_true->i_,append_assoc->j_,length_append->k_,map_nil->l_,map_cons->m_,getElem?_eq_getElem->n_,all_append->o_,nil_append->r_,getElem?_map->s_,mem_map->x_,map_map->y_,map_append->z_,length_nil->A_,length_drop->C_,length_filter_le->E_,mem_of_mem_take->F_,getElem?_range->G_,map_take->H_,map_drop->I_,take_add_one->K_,mem_append->O_,find?_cons->P_,getD_eq_getElem?_getD->R_,getElem?_eq_none_iff->S_,mem_cons->T_,take_of_length_le->W_,getElem?_set_self->X_,getElem?_eq_none->Y_
open Bool renaming and_eq_true->f_,true_and->t_,not_eq_true->u_,false_and->B_,eq_iff_iff->Q_,and_true->U_
open Nat renaming zero_le->p_,le_refl->q_,sub_self->L_,lt_or_ge->M_,le_trans->N_,lt_irrefl->V_
open Option renaming isSome_some->v_,isSome_none->w_,map_eq_some_iff->D_,getD_some->J_
namespace Go.Proofs.YtancdeoodnpimaaGreatDoor
open Go.Abs
set_option maxRecDepth 100000
set_option maxHeartbeats 8000000
set_option linter.unusedSimpArgs false
set_option linter.unusedVariables false
theorem aQ5:∀(t:Pf) (most:Int),wtL t.enc<=1000000000->-10000000<=most->most<=10000000->Gives Tryz.prog 52 [.agg t.enc,.int .i64 most] (.d (.int .i64 (t.countF most))):=by
 intro t;induction t using Pf.ind' with
 | h t ih =>
  intro most hw h0 h1;have hc:=Pf.cnt_le_wt t;have he:=Pf.countF_eq t most;rw [Pf.cnt_eq] at hc;generalize t.countF most=N at he |-;refine aE_ Tryz.func52 ?_;refine rS_ Tryz.func52 ?_;simp only [go_sem,seval];refine AW.rng t.kids [1,9,10] 11 9 (fun n:Int=>[(5,.d (.int .i64 n))]) (fun H _=>H) (fun r n=>1<=n/\n+Pf.cnts r<=1+Pf.cnts t.kids/\Pf.countL r most n=N) 1 rfl (by simp) ⟨by omega,by omega,he.symm⟩ I4 (fun i x r acc hxi hdr hlt hm hinv hnext=>?_) (fun acc hinv=>?_)
  ·have hx:=b_ hxi
   have ihx:=ih x hx;have hwx:=Pf.wt_kids hx;have hcs:=Pf.count_spec x (most - acc);obtain ⟨v1,v2,v3⟩:=hinv;simp only [Pf.countL,Pf.cnts] at v2 v3;refine rS_ Tryz.func52 ?_;simp only [go_sem,seval,hlt,j5 hxi]
   repeat' (first
    | ((refine D5 (fun hq=>?_) (fun hq=>?_))<;>(try simp only [go_sem,seval,hq]))
    | (simp (disch:=omega) only [j6])
    | (refine hnext (acc+x.countF (most - acc)) _ ⟨by omega,by omega,?_⟩ I4)
    | ((refine (ihx _ (by omega) (by omega) (by omega)).calls rfl ?_)<;>(try simp only [go_sem,seval]))
    | fail)
   all_goals clear hnext ihx ih
   ·rw [if_pos (by omega)] at v3;rw [v3]
   ·rw [if_neg (by omega)] at v3;exact v3
  ·obtain ⟨v1,v2,v3⟩:=hinv
   simp only [Pf.countL] at v3;refine rS_ Tryz.func52 ?_;simp only [go_sem,seval];rw [v3]
theorem bd8 (a b:V):Gives Tryz.prog 169 [.agg a.enc,.agg b.enc] (.d (.agg (V.pair a b).enc)):=by
 rw [V.enc_pair];refine aE_ Tryz.func169 ?_;refine rS_ Tryz.func169 ?_;simp only [go_sem,seval]
def bdD (vs:List V):List (List D):=(aB8 0 vs).map Bd.enc
theorem bo2 (vs:List V) (n:Int) (h0:0<=n) (h1:n<vs.length):Gives Tryz.prog 168 [.sl (bdD vs),.int .i64 n] (.tup [.d (.agg (l9 vs n).enc),.d (.bool true)]):=by
 have hat:=aU3 h0 h1;have hbl:=ai7 vs 0;unfold bdD;generalize l9 vs n=w at hat |-;refine aE_ Tryz.func168 ?_;refine rS_ Tryz.func168 ?_;simp only [go_sem,seval];refine AW.rng (aB8 0 vs) [1,4,8,9] 10 8 (fun _:Unit=>[]) (fun H _=>H) (fun r _=>((vs.length - r.length:Nat):Int)<=n) () rfl (by simp) (by rw [hbl,L_];exact h0) A7 (fun i x r acc hxi hdr hlt hm hinv hnext=>?_) (fun acc hinv=>?_)
 ·obtain ⟨v,hv,rfl⟩:=bB2 hxi
  have hdl:=congrArg List.length hdr;simp only [C_,d_,hbl] at hdl;simp only [d_] at hinv;have hil:=(h_.1 hv).1;have hve:v.tm.kind=v.kind/\v.tm.int=v.int/\v.tm.name=v.name/\v.tm.args.map Tm.enc=v.kids.map V.enc:=by cases v<;>exact ⟨rfl,rfl,rfl,rfl⟩
  by_cases hi:(i:Int)=n
  ·have hw:v=w:=by
    have:n.toNat=i:=by omega
    rw [this,hv] at hat;exact Option.some.inj hat
   subst hw;rw [V.enc_eq v];have hz:((0+i:Nat):Int)=n:=by omega
   refine rS_ Tryz.func168 ?_;simp only [go_sem,seval,hlt,j5 hxi,Bd.enc_eq,hz,hve.1,hve.2.1,hve.2.2.1,hve.2.2.2]
   repeat' (first
    | ((refine D5 (fun hq=>?_) (fun hq=>?_))<;>(try simp only [go_sem,seval,hlt,j5 hxi,Bd.enc_eq,hz,hve.1,hve.2.1,hve.2.2.1,hve.2.2.2,hq]))
    | (simp (disch:=omega) only [j6])
    | fail)
   all_goals (exfalso;omega)
  ·have hz:¬((0+i:Nat):Int)=n:=by omega
   refine rS_ Tryz.func168 ?_;simp only [go_sem,seval,hlt,j5 hxi]
   repeat' (first
    | ((refine D5 (fun hq=>?_) (fun hq=>?_))<;>(try simp only [go_sem,seval,hlt,j5 hxi,hq]))
    | (simp (disch:=omega) only [j6])
    | fail)
   ·exact absurd (by omega) hz
   ·exact hnext () _ (by omega) A7
 ·simp only [A_] at hinv
  omega
theorem bo1 (vs:List V):∀v:V,(∀n,n∈v.vars->0<=n/\n<vs.length)->Gives Tryz.prog 151 [.sl (bdD vs),.agg v.enc] (.d (.agg (v.sub (l9 vs)).enc)):=by
 intro v;induction v with
 | pair x y ihx ihy =>
  intro hq;have hx:=ihx (fun n hn=>hq n (by simp [V.vars,hn]));have hy:=ihy (fun n hn=>hq n (by simp [V.vars,hn]));simp only [V.sub];refine aE_ Tryz.func151 ?_;refine l7 Tryz.func151 mixed 12 _ _ (by kernel_rfl) ?_;simp only [go_sem,seval,run.eq_1,V.kind,V.int,V.kids];refine AW.drawA mixed #[true,true,true,true,true,true,true,true,true,true,true,true,true,false] [(0,.box ((V.pair x y).enc.map .d))] [] [0,1,2,3,4,6,7,8,9,10,5,11,12] [13] none (by kernel_rfl) trivial (by simp [x8]) ?_;simp only [go_sem,seval,V.kind,V.int,V.kids]
  repeat' (first
   | ((first
    | (refine hx.calls rfl ?_)
    | (refine hy.calls rfl ?_)
    | (refine (bd8 _ _).calls rfl ?_))<;>(try simp only [go_sem,seval,V.kind,V.int,V.kids]))
   | fail)
  refine rS_ Tryz.func151 ?_;simp only [go_sem,seval]
 | var n =>
  intro hq;have hn:=hq n (by simp [V.vars]);simp only [V.sub];refine aE_ Tryz.func151 ?_;refine rS_ Tryz.func151 ?_;simp only [go_sem,seval,V.kind,V.int,V.kids]
  repeat' (first
   | ((refine (bo2 vs n hn.1 hn.2).calls rfl ?_)<;>(try simp only [go_sem,seval,V.kind,V.int,V.kids]))
   | fail)
 | _ =>
  intro hq;simp only [V.sub];refine aE_ Tryz.func151 ?_;refine rS_ Tryz.func151 ?_;simp only [go_sem,seval,V.kind,V.int,V.kids]
theorem bn9 (vs:List V):∀g:Gl,g.inst vs.length->Gives Tryz.prog 114 [.agg g.enc,.sl (bdD vs)] (.d (.agg (g.ins (l9 vs)).enc)):=by
 intro g;induction g using Gl.ind' with
 | h g ih =>
  intro hg;have hmx:maxLen=9223372036854775807:=rfl;have hln:=Gl.shape_len hg.1;have hit:=Gl.inst_terms hg;have higs:=Gl.inst_goals hg;have hR:(g.ins (l9 vs)).enc=[.int .i64 g.kind,.str g.name,.sl ((g.terms.map fun t=>t.V.sub (l9 vs)).map V.enc),.sl ((g.goals.map (Gl.ins (l9 vs))).map Gl.enc)]:=by
   rw [Gl.ins_eq,Gl.enc_eq];simp only [Gl.kind,Gl.name,Gl.terms,Gl.goals,y_];rfl
  rw [hR];refine aE_ Tryz.func114 ?_;refine l7 Tryz.func114 mixed 5 _ _ (by kernel_rfl) ?_;simp only [go_sem,seval,run.eq_1];refine AW.adoptGB 2 2 4 66 (by decide) rfl rfl ?_;refine AW.adoptGB 2 3 4 95 (by decide) rfl rfl ?_;refine rS_ Tryz.func114 ?_;simp only [go_sem,seval];refine AW.rng g.terms [1,2,4,5,16,17] 18 16 (fun p:List V=>[]) (fun _ p=>[.box (g.enc.map .d),.box [.d (.int .i64 0),.d (.str []),.nil0,.nil0],.box [.d (.int .i64 g.kind),.d (.str g.name),.own 3 p.length,.own 4 0],.grow p.length 4 66 (p.map V.enc),.grow 0 4 95 []]) (fun r p=>p++r.map (fun t=>t.V.sub (l9 vs))=g.terms.map fun t=>t.V.sub (l9 vs)) [] rfl (by simp) rfl A7 (fun i x r p hxi hdr hlt hm hinv hnext=>?_) (fun p hinv=>?_)
  ·have hxm:=b_ hxi
   obtain ⟨he,hv⟩:=hit x hxm;have hw:=bo1 vs x.V (fun n hn=>by have:=hv n hn;omega);rw [<-he] at hw;have hpl:p.length+(r.length+1)=g.terms.length:=by have:=congrArg List.length hinv;simpa using this
   refine l7 Tryz.func114 mixed 9 _ _ (by kernel_rfl) ?_;simp only [go_sem,seval,run.eq_1,hlt,j5 hxi];refine AW.drawA mixed #[true,true,true,true,true,true,true,false,false] [(2,.box [.d (.int .i64 g.kind),.d (.str g.name),.own 3 p.length,.own 4 0]),(5,.box (x.enc.map .d))] [] [0,1,2,3,4,5,6] [7,8] none (by kernel_rfl) trivial (by simp [x8]) ?_;simp only [go_sem,seval]
   repeat' (first
    | ((first
     | (refine hw.calls rfl ?_)
     | (refine ⟨sd,?_⟩))<;>(try simp only [go_sem,seval]))
    | fail)
   refine rS_ Tryz.func114 ?_;simp only [go_sem,seval]
   repeat' (first
    | (simp (disch:=omega) only [j6])
    | fail)
   refine hnext (p++[x.V.sub (l9 vs)]) _ (by rw [<-hinv];simp) A7
  ·simp only [l_,a_] at hinv
   subst hinv;generalize (g.terms.map fun t=>t.V.sub (l9 vs))=L;refine rS_ Tryz.func114 ?_;simp only [go_sem,seval];refine AW.rng g.goals [1,4,5,32,33] 34 32 (fun p:List Gl=>[]) (fun _ p=>[.box (g.enc.map .d),.box [.d (.int .i64 0),.d (.str []),.nil0,.nil0],.box [.d (.int .i64 g.kind),.d (.str g.name),.own 3 L.length,.own 4 p.length],.grow L.length 4 66 (L.map V.enc),.grow p.length 4 95 (p.map Gl.enc)]) (fun r p=>p++r.map (Gl.ins (l9 vs))=g.goals.map (Gl.ins (l9 vs))) [] rfl (by simp) rfl A7 (fun i x r p hxi hdr hlt hm hinv hnext=>?_) (fun p hinv=>?_)
   ·have hxm:=b_ hxi
    have hw:=ih x hxm (higs x hxm);have hpl:p.length+(r.length+1)=g.goals.length:=by have:=congrArg List.length hinv;simpa using this
    refine l7 Tryz.func114 mixed 9 _ _ (by kernel_rfl) ?_;simp only [go_sem,seval,run.eq_1,hlt,j5 hxi];refine AW.drawA mixed #[true,true,true,true,true,true,true,false,false] [(2,.box [.d (.int .i64 g.kind),.d (.str g.name),.own 3 L.length,.own 4 p.length]),(5,.box (x.enc.map .d))] [] [0,1,2,3,4,5,6] [7,8] none (by kernel_rfl) trivial (by simp [x8]) ?_;simp only [go_sem,seval]
    repeat' (first
     | ((first
      | (refine hw.calls rfl ?_)
      | (refine ⟨sd,?_⟩))<;>(try simp only [go_sem,seval]))
     | fail)
    refine rS_ Tryz.func114 ?_;simp only [go_sem,seval]
    repeat' (first
     | (simp (disch:=omega) only [j6])
     | fail)
    refine hnext (p++[x.ins (l9 vs)]) _ (by rw [<-hinv];simp) A7
   ·simp only [l_,a_] at hinv
    subst hinv;refine rS_ Tryz.func114 ?_;simp only [go_sem,seval]
theorem bi9 {f:Int->V} {g:Gl} (h:7<=g.kind):g.testV f=false:=by
 unfold Gl.testV;split<;>first | rfl | omega
theorem aQ8 (g:Gl) (f:Int->V) (hs:g.shape=true):Gives Tryz.prog 115 [.agg (g.ins f).enc] (.d (.bool (g.testV f))):=by
 have hR:(g.ins f).enc=[.int .i64 g.kind,.str g.name,.sl ((g.terms.map fun t=>t.V.sub f).map V.enc),.sl ((g.goals.map (Gl.ins f)).map Gl.enc)]:=by
  rw [Gl.ins_eq,Gl.enc_eq];simp only [Gl.kind,Gl.name,Gl.terms,Gl.goals,y_];rfl
 rw [hR];generalize (g.goals.map (Gl.ins f)).map Gl.enc=GS;rcases Gl.shape_cases hs with ⟨hkk,ht⟩ | ⟨hkk,a,b,ht,ha,hb⟩ | ⟨hkk,a,ht,ha⟩ | h7
 ·have hL:(g.terms.map fun t=>t.V.sub f)=[]:=by rw [ht];rfl
  rcases hkk with hkk | hkk
  ·have hT:g.testV f=true:=by simp [Gl.testV,hkk]
   rw [hT];refine aE_ Tryz.func115 ?_;refine rS_ Tryz.func115 ?_;simp only [go_sem,seval,hkk,hL];all_goals first | rfl | (exfalso;omega) | (simp_all;done) | (simp_all;omega)
  ·have hT:g.testV f=false:=by simp [Gl.testV,hkk]
   rw [hT];refine aE_ Tryz.func115 ?_;refine rS_ Tryz.func115 ?_;simp only [go_sem,seval,hkk,hL];all_goals first | rfl | (exfalso;omega) | (simp_all;done) | (simp_all;omega)
 ·have hL:(g.terms.map fun t=>t.V.sub f)=[a.V.sub f,b.V.sub f]:=by rw [ht];rfl
  rcases hkk with hkk | hkk | hkk
  ·have hT:g.testV f=decide ((a.V.sub f).cmp (b.V.sub f)=0):=by simp [Gl.testV,hkk,ht]
   rw [hT];refine aE_ Tryz.func115 ?_;refine rS_ Tryz.func115 ?_;simp only [go_sem,seval,hkk,hL]
   repeat' (first
    | ((refine (Q3 _ _).callQ rfl ?_)<;>(try simp only [go_sem,seval,hkk,hL]))
    | fail)
   all_goals first | rfl | (exfalso;omega) | (simp_all;done) | (simp_all;omega)
  ·have hT:g.testV f=!decide ((a.V.sub f).cmp (b.V.sub f)=0):=by simp [Gl.testV,hkk,ht]
   rw [hT];refine aE_ Tryz.func115 ?_;refine rS_ Tryz.func115 ?_;simp only [go_sem,seval,hkk,hL]
   repeat' (first
    | ((refine (Q3 _ _).callQ rfl ?_)<;>(try simp only [go_sem,seval,hkk,hL]))
    | fail)
   all_goals first | rfl | (exfalso;omega) | (simp_all;done) | (simp_all;omega)
  ·have hT:g.testV f=!(b.V.sub f).has (a.V.sub f).name:=by simp [Gl.testV,hkk,ht]
   rw [hT];refine aE_ Tryz.func115 ?_;refine rS_ Tryz.func115 ?_;simp only [go_sem,seval,hkk,hL]
   repeat' (first
    | ((refine (V8 _ _).callQ rfl ?_)<;>(try simp only [go_sem,seval,hkk,hL]))
    | fail)
   all_goals first | rfl | (exfalso;omega) | (simp_all;done) | (simp_all;omega)
 ·have hL:(g.terms.map fun t=>t.V.sub f)=[a.V.sub f]:=by rw [ht];rfl
  rcases hkk with hkk | hkk
  ·have hT:g.testV f=decide ((a.V.sub f).kind=2):=by simp [Gl.testV,hkk,ht]
   rw [hT];refine aE_ Tryz.func115 ?_;refine rS_ Tryz.func115 ?_;simp only [go_sem,seval,hkk,hL];all_goals first | rfl | (exfalso;omega) | (simp_all;done) | (simp_all;omega)
  ·have hT:g.testV f=decide ((a.V.sub f).kind=3):=by simp [Gl.testV,hkk,ht]
   rw [hT];refine aE_ Tryz.func115 ?_;refine rS_ Tryz.func115 ?_;simp only [go_sem,seval,hkk,hL];all_goals first | rfl | (exfalso;omega) | (simp_all;done) | (simp_all;omega)
 ·rw [bi9 h7]
  refine aE_ Tryz.func115 ?_;refine rS_ Tryz.func115 ?_;simp only [go_sem,seval]
  repeat' (first
   | ((first | (refine D5 (fun hq=>?_) (fun hq=>?_)) | (refine y9 (fun x hx=>have hq:=hx;?_)))<;>(try simp only [go_sem,seval,hq]))
   | ((first
    | (refine (Q3 _ _).callQ rfl ?_)
    | (refine (V8 _ _).callQ rfl ?_)
    | (refine ⟨sd,?_⟩))<;>(try simp only [go_sem,seval]))
   | fail)
  all_goals first | rfl | (exfalso;omega)
theorem bd1 (r:Rl) (i:Int) (c:List Gl) (vs:List V) (hg:∀g,g∈c->g.inst vs.length) (hl:(vs.length:Int)=r.arity+r.locals) (ha:0<=r.arity) (hb:0<=r.locals) (hv:vs.length<=1000000) (hc:c.length<=1000000) :
  Gives Tryz.prog 72 [.agg r.enc,.int .i64 i,.sl (c.map Gl.enc),.sl (bdD vs)] (.tup [.d (.agg (bQ4 r i vs (aB4 (l9 vs) c)).enc),.d (.bool (F5 (l9 vs) c))]):=by
 have hmx:maxLen=9223372036854775807:=rfl;have hbl:=ai7 vs 0;have hbt:=bs4 vs 0;have hput:∀g,g∈c->Gives Tryz.prog 114 [.agg g.enc,.sl ((aB8 0 vs).map Bd.enc)] (.d (.agg (g.ins (l9 vs)).enc)):=fun g h=>bn9 vs g (hg g h);have hbe:bdD vs=(aB8 0 vs).map Bd.enc:=rfl;rw [hbe];clear hbe;generalize hR:(C.tup [.d (.agg (bQ4 r i vs (aB4 (l9 vs) c)).enc),.d (.bool (F5 (l9 vs) c))])=RES;refine aE_ Tryz.func72 ?_;refine l7 Tryz.func72 mixed 5 _ _ (by kernel_rfl) ?_;simp only [go_sem,seval,run.eq_1];refine AW.adoptGB 2 3 4 66 (by decide) rfl rfl ?_;refine AW.adoptGB 2 4 2 43 (by decide) rfl rfl ?_;refine AW.adoptGB 2 5 2 43 (by decide) rfl rfl ?_;refine rS_ Tryz.func72 ?_;simp only [go_sem,seval];refine AW.rng (aB8 0 vs) [2,3,4,8,10,18,19] 20 18 (fun p:List Tm=>[]) (fun _ p=>[.box (r.enc.map .d),.box [.d (.str []),.nil0,.d (.int .i64 0),.nil0,.nil0,.nil0],.box [.d (.str []),.nil0,.d (.int .i64 i),.own 3 p.length,.own 4 0,.own 5 0],.grow p.length 4 66 (p.map Tm.enc),.grow 0 2 43 [],.grow 0 2 43 []]) (fun s p=>p++s.map Bd.to=vs.map V.tm) [] rfl (by simp) (by simpa using hbt) A7 (fun j x s p hxi hdr hlt hm hinv hnext=>?_) (fun p hinv=>?_)
 ·have hpl:p.length+(s.length+1)=vs.length:=by have:=congrArg List.length hinv;simpa using this
  refine rS_ Tryz.func72 ?_;simp only [go_sem,seval,hlt,j5 hxi]
  repeat' (first
   | (simp (disch:=omega) only [j6])
   | ((refine ⟨sd,?_⟩)<;>(try simp only [go_sem,seval,hlt,j5 hxi]))
   | fail)
  refine hnext (p++[x.to]) _ (by rw [<-hinv];simp) (by refine ⟨by simp [mkS,Bd.enc_eq,Tm.enc_eq],by simp [mkS,Bd.enc_eq,Tm.enc_eq],by simp only [mkS,c_,e_,O.refsLt,C.refsLt,C.refsLt1,l8];first | done | rfl | (simp;done),?_⟩;simp [mkS,Abs.get,C.refsLtT,C.refsLt,C.refsLt1,Bd.enc_eq,Tm.enc_eq])
 ·simp only [l_,a_] at hinv
  subst hinv;have hvl2:(vs.map V.tm).length=vs.length:=by simp
  have hz4:∀x,x∈(vs.map V.tm).map Tm.enc->x.length=4:=fun x hx=>by obtain ⟨y,_,rfl⟩:=x_.1 hx;exact Tm.enc_len y
  have hru:∀d,(bQ4 r i vs d).enc=[.str r.name,.sl (((vs.map V.tm).take r.arity.toNat).map Tm.enc),.int .i64 i,.sl ((vs.map V.tm).map Tm.enc),.sl (((C9 (l9 vs) d).map FcV.fc).map Fc.enc),.sl (((z8 (l9 vs) d).map FcV.fc).map Fc.enc)]:=fun d=>by rw [Ru.enc_eq];rfl
  simp only [hru] at hR;clear hru hbt;generalize vs.map V.tm=TV at *;refine l7 Tryz.func72 mixed 6 _ _ (by kernel_rfl) ?_;simp only [go_sem,seval,run.eq_1];refine AW.drawA mixed #[true,true,true,true,true,true,true,true,false,false] [(0,.box (r.enc.map .d)),(2,.box [.d (.str []),.nil0,.d (.int .i64 i),.own 3 TV.length,.own 4 0,.own 5 0])] [] [0,1,2,3,4,5,6,7] [8,9] none (by kernel_rfl) trivial (by simp [x8]) ?_;simp only [go_sem,seval]
  repeat' (first
   | ((refine ⟨sd,?_⟩)<;>(try simp only [go_sem,seval]))
   | fail)
  refine rS_ Tryz.func72 ?_;simp only [go_sem,seval];have hp0:C9 (l9 vs) []=[]:=rfl;have hn0:z8 (l9 vs) []=[]:=rfl;generalize hH4:List.map Tm.enc (List.take r.arity.toNat TV)=HD at *;refine AW.rng c [3,8,10,41,42] 43 41 (fun d:List Gl=>[]) (fun _ d=>[.box (r.enc.map .d),.box [.d (.str []),.nil0,.d (.int .i64 0),.nil0,.nil0,.nil0],.box [.d (.str r.name),.d (.sl HD),.d (.int .i64 i),.own 3 TV.length,.own 4 (C9 (l9 vs) d).length,.own 5 (z8 (l9 vs) d).length],.grow TV.length 4 66 (TV.map Tm.enc),.grow (C9 (l9 vs) d).length 2 43 (((C9 (l9 vs) d).map FcV.fc).map Fc.enc),.grow (z8 (l9 vs) d).length 2 43 (((z8 (l9 vs) d).map FcV.fc).map Fc.enc)]) (fun s d=>d++s=c/\d.all (V5 (l9 vs))=true) [] rfl (by simp) ⟨rfl,rfl⟩ (by refine ⟨by simp [mkS,hp0,hn0],by simp [mkS,hp0,hn0],by simp only [mkS,c_,e_,O.refsLt,C.refsLt,C.refsLt1,l8];first | done | rfl | (simp;done),?_⟩;simp [mkS,Abs.get,C.refsLtT,C.refsLt,C.refsLt1,hp0,hn0]) (fun j g s d hgj hds hlt hm hinv hnext=>?_) (fun d hinv=>?_)
  ·obtain ⟨i1,i2⟩:=hinv
   have hgm:=b_ hgj;have hgi:=hg g hgm;have hp:=hput g hgm;have hpl:=al4 (l9 vs) d;have hnl:=aB5 (l9 vs) d;have hdl:d.length+(s.length+1)=c.length:=by rw [<-i1];simp
   have hps:=aw5 (l9 vs) d g;have hns:=aw6 (l9 vs) d g;have hR2:(g.ins (l9 vs)).enc=[.int .i64 g.kind,.str g.name,.sl ((g.terms.map fun t=>t.V.sub (l9 vs)).map V.enc),.sl ((g.goals.map (Gl.ins (l9 vs))).map Gl.enc)]:=by
    rw [Gl.ins_eq,Gl.enc_eq];simp only [Gl.kind,Gl.name,Gl.terms,Gl.goals,y_];rfl
   have hcv:∀x:Gl,(FcV.fc (x.callV (l9 vs))).enc=[.str x.name,.sl ((x.terms.map fun t=>t.V.sub (l9 vs)).map V.enc)]:=fun x=>by rw [Fc.enc_eq];simp only [FcV.fc,Gl.callV,K8]
   have hnx:=hnext (d++[g]);by_cases h9:g.kind=9
   ·have h10:¬g.kind=10:=by omega
    have hok1:V5 (l9 vs) g=true:=by simp [V5,h9]
    rw [if_pos h9] at hps;rw [if_neg h10,a_] at hns;rw [hps,hns] at hnx;rw [hR2] at hp;refine rS_ Tryz.func72 ?_;simp only [go_sem,seval,hlt,j5 hgj]
    repeat' (first
     | (simp (disch:=omega) only [j6])
     | ((first
      | (refine hp.calls rfl ?_)
      | (refine ⟨sd,?_⟩))<;>(try simp only [go_sem,seval,hlt,j5 hgj,h9]))
     | fail)
    refine hnx _ ⟨by rw [<-i1];simp,by rw [o_,i2];simp [hok1]⟩ (by refine ⟨by simp [mkS,hcv],by simp [mkS,hcv],by simp only [mkS,c_,e_,O.refsLt,C.refsLt,C.refsLt1,l8];first | done | rfl | (simp;done),?_⟩;simp [mkS,Abs.get,C.refsLtT,C.refsLt,C.refsLt1,hcv])
   ·by_cases h10:g.kind=10
    ·obtain ⟨x,hx⟩:=Gl.shape_not hgi.1 h10
     have hok1:V5 (l9 vs) g=true:=by simp [V5,h10]
     rw [if_neg h9,a_] at hps;rw [if_pos h10,hx] at hns;simp only [List.head?_cons,Option.toList_some,m_,l_] at hns;rw [hps,hns] at hnx;have hRx:(x.ins (l9 vs)).enc=[.int .i64 x.kind,.str x.name,.sl ((x.terms.map fun t=>t.V.sub (l9 vs)).map V.enc),.sl ((x.goals.map (Gl.ins (l9 vs))).map Gl.enc)]:=by
      rw [Gl.ins_eq,Gl.enc_eq];simp only [Gl.kind,Gl.name,Gl.terms,Gl.goals,y_];rfl
     rw [hR2,hx] at hp;simp only [m_,l_,hRx] at hp;refine l7 Tryz.func72 mixed 18 _ _ (by kernel_rfl) ?_;simp only [go_sem,seval,run.eq_1,hlt,j5 hgj,h10,h9]
     repeat' (first
      | ((refine hp.calls rfl ?_)<;>(try simp only [go_sem,seval,hlt,j5 hgj,h10,h9,run.eq_1]))
      | fail)
     refine AW.drawA mixed #[true,true,true,true,true,true,true,true,true,true,true,true,true,true,true,false,false] [(2,.box [.d (.str r.name),.d (.sl HD),.d (.int .i64 i),.own 3 TV.length,.own 4 (C9 (l9 vs) d).length,.own 5 (z8 (l9 vs) d).length]),(7,.box [.d (.int .i64 10),.d (.str g.name),.d (.sl ((g.terms.map fun t=>t.V.sub (l9 vs)).map V.enc)),.d (.sl [[.int .i64 x.kind,.str x.name,.sl ((x.terms.map fun t=>t.V.sub (l9 vs)).map V.enc),.sl ((x.goals.map (Gl.ins (l9 vs))).map Gl.enc)]])])] [] [0,1,2,3,4,5,6,7,8,9,10,11,12,13,14] [15,16] none (by kernel_rfl) trivial (by simp [x8]) ?_;simp only [go_sem,seval]
     repeat' (first
      | ((refine ⟨sd,?_⟩)<;>(try simp only [go_sem,seval]))
      | fail)
     refine rS_ Tryz.func72 ?_;simp only [go_sem,seval]
     repeat' (first
      | (simp (disch:=omega) only [j6])
      | fail)
     refine hnx _ ⟨by rw [<-i1];simp,by rw [o_,i2];simp [hok1]⟩ (by refine ⟨by simp [mkS,hcv],by simp [mkS,hcv],by simp only [mkS,c_,e_,O.refsLt,C.refsLt,C.refsLt1,l8];first | done | rfl | (simp;done),?_⟩;simp [mkS,Abs.get,C.refsLtT,C.refsLt,C.refsLt1,hcv])
    ·have htt:=aQ8 g (l9 vs) hgi.1
     rw [if_neg h9,a_] at hps;rw [if_neg h10,a_] at hns;rw [hps,hns] at hnx;cases hb:g.testV (l9 vs) with
     | true =>
      rw [hb] at htt;have hok1:V5 (l9 vs) g=true:=by simp [V5,hb]
      refine rS_ Tryz.func72 ?_;simp only [go_sem,seval,hlt,j5 hgj,h9,h10]
      repeat' (first
       | (simp (disch:=omega) only [j6])
       | ((first
        | (refine hp.calls rfl ?_)
        | (refine htt.calls rfl ?_))<;>(try simp only [go_sem,seval,hlt,j5 hgj,h9,h10]))
       | fail)
      refine hnx _ ⟨by rw [<-i1];simp,by rw [o_,i2];simp [hok1]⟩ (by refine ⟨by simp [mkS,hcv],by simp [mkS,hcv],by simp only [mkS,c_,e_,O.refsLt,C.refsLt,C.refsLt1,l8];first | done | rfl | (simp;done),?_⟩;simp [mkS,Abs.get,C.refsLtT,C.refsLt,C.refsLt1,hcv])
     | false =>
      rw [hb] at htt;have hok1:V5 (l9 vs) g=false:=by simp [V5,hb,h9,h10]
      obtain ⟨f1,f2⟩:=aS9 (s:=s) i2 hok1;rw [i1] at f1 f2;rw [f1,f2] at hR;rw [<-hR];refine rS_ Tryz.func72 ?_;simp only [go_sem,seval,hlt,j5 hgj,h9,h10]
      repeat' (first
       | ((first
        | (refine hp.calls rfl ?_)
        | (refine htt.calls rfl ?_))<;>(try simp only [go_sem,seval,hlt,j5 hgj,h9,h10]))
       | fail)
  ·obtain ⟨i1,i2⟩:=hinv
   rw [a_] at i1;subst i1;obtain ⟨f1,f2⟩:=aB3 i2;rw [f1,f2] at hR;rw [<-hR];refine rS_ Tryz.func72 ?_;simp only [go_sem,seval]
set_option maxHeartbeats 4000000
theorem aC7 {s r:List Tm} {x:Tm} {i:Nat} (hdr:s.drop i=x :: r):i=s.length - (r.length+1)/\r.length+1<=s.length/\i<s.length:=by
 have:=congrArg List.length hdr;simp only [C_,d_] at this;omega
theorem ax7 (s:List Tm) (hw:∀t,t∈s->wtL t.enc<=1048576) (hl:s.length<=9000000):Gives Tryz.prog 55 [.sl (s.map Tm.enc)] (.d (.bool (S9 s))):=by
 have hmap:(s.map Tm.enc).length=s.length:=g_ _;by_cases h1:1<=s.length
 ·have n1:¬(s.length:Int)<1:=by omega
  by_cases h2:s.length<=8
  ·have n2:¬(8:Int)<(s.length:Int):=by omega
   have hu:S9 s=aq9 none s:=by unfold S9;simp [h1,h2]
   rw [hu];refine aE_ Tryz.func55 ?_;refine rS_ Tryz.func55 ?_;simp only [go_sem,seval,hmap,n1,n2];refine AW.rng s [0,13,14] 15 13 (fun _:Option V=>[]) (fun H _=>H) (fun r p=>aq9 p r=aq9 none s/\(r.length=s.length->p=none)/\(r.length<s.length->∃y:Tm,s[s.length - r.length - 1]? = some y/\p=some y.V/\L9 y=true)) none rfl (by simp) ⟨rfl,fun _=>rfl,fun h=>absurd h (V_ _)⟩ I4 (fun i x r p hxi hdr hlt hm hinv hnext=>?_) (fun p hinv=>?_)
   ·obtain ⟨i1,i2,i3⟩:=hinv
    obtain ⟨hi1,hi2,hi3⟩:=aC7 hdr;have hto:Gives Tryz.prog 87 [.agg x.enc] (.d (.bool x.ground)):=aL6 x (hw x (b_ hxi));have ho:=hto;simp only [d_,aq9] at i1 i2 i3;cases hg:x.ground with
    | false =>
     rw [hg] at hto ho;have c3:True:=trivial;have hf:aq9 none s=false:=by rw [<-i1];simp [hg]
     rw [hf];refine rS_ Tryz.func55 ?_;simp only [go_sem,seval,hlt,j5 hxi,hmap]
     repeat' (first
      | ((refine hto.callQ rfl ?_)<;>(try simp only [go_sem,seval,hlt,j5 hxi,hmap]))
      | fail)
     all_goals first | (exfalso;omega) | (exfalso;exact absurd (by assumption) c3) | rfl
    | true =>
     rw [hg] at hto;clear ho;have hxV:=Tm.enc_V (F8 hg);by_cases hi0:i=0
     ·obtain rfl:=i2 (by omega)
      have n0:¬(0:Int)<(i:Int):=by omega
      have ho:=hto;refine rS_ Tryz.func55 ?_;simp only [go_sem,seval,hlt,j5 hxi,n0]
      repeat' (first
       | (simp (disch:=omega) only [j6])
       | (refine hnext (some x.V) _ ⟨by rw [<-i1];simp [hi0,hg],fun h=>by omega,fun _=>⟨x,by rw [show s.length - r.length - 1=i by omega];exact hxi,rfl,F8 hg⟩⟩ I4)
       | ((refine hto.callQ rfl ?_)<;>(try simp only [go_sem,seval,hlt,j5 hxi,n0]))
       | fail)
      all_goals (exfalso;omega)
     ·obtain ⟨y,hy,rfl,hyo⟩:=i3 (by omega)
      have n0:(0:Int)<(i:Int):=by omega
      have hw1:IntKind.i64.wrap ((i:Int) - 1)=((i - 1:Nat):Int):=by rw [j6 (by omega) (by omega)];omega
      have n2:((i - 1:Nat):Int)<(s.length:Int):=by omega
      have hyi:s[i - 1]? = some y:=by rw [<-hy];congr 1;omega
      have ho:Gives Tryz.prog 88 [.agg y.enc,.agg x.enc] (.d (.int .i64 (y.V.cmp x.V))):=by
       rw [Tm.enc_V hyo,hxV];exact P7 _ _ _ (q_ _)
      by_cases c3:y.V.cmp x.V<0
      ·have c4:¬0<=y.V.cmp x.V:=by omega
       refine rS_ Tryz.func55 ?_;simp only [go_sem,seval,hlt,j5 hxi,n0,hw1,n2,j5 hyi,hmap,c3,c4]
       repeat' (first
        | (simp (disch:=omega) only [j6])
        | (refine hnext (some x.V) _ ⟨by rw [<-i1];simp [c3,hg],fun h=>by omega,fun _=>⟨x,by rw [show s.length - r.length - 1=i by omega];exact hxi,rfl,F8 hg⟩⟩ I4)
        | ((first
         | (refine hto.callQ rfl ?_)
         | (refine ho.callQ rfl ?_))<;>(try simp only [go_sem,seval,hlt,j5 hxi,n0,hw1,n2,j5 hyi,hmap,c3,c4]))
        | fail)
       all_goals (exfalso;omega)
      ·have c4:0<=y.V.cmp x.V:=by omega
       have hf:aq9 none s=false:=by rw [<-i1];simp [c3]
       rw [hf];refine rS_ Tryz.func55 ?_;simp only [go_sem,seval,hlt,j5 hxi,n0,hw1,n2,j5 hyi,hmap,c4]
       repeat' (first
        | ((first
         | (refine hto.callQ rfl ?_)
         | (refine ho.callQ rfl ?_))<;>(try simp only [go_sem,seval,hlt,j5 hxi,n0,hw1,n2,j5 hyi,hmap,c4]))
        | fail)
       all_goals first | (exfalso;omega) | (exfalso;exact absurd (by assumption) c3) | rfl
   rw [<-hinv.1];refine rS_ Tryz.func55 ?_;simp only [go_sem,seval];all_goals rfl
  ·have n2:(8:Int)<(s.length:Int):=by omega
   have hu:S9 s=false:=by unfold S9;simp [h2]
   rw [hu];refine aE_ Tryz.func55 ?_;refine rS_ Tryz.func55 ?_;simp only [go_sem,seval,hmap,n1,n2]
 ·have n1:(s.length:Int)<1:=by omega
  have hu:S9 s=false:=by unfold S9;simp [h1]
  rw [hu];refine aE_ Tryz.func55 ?_;refine rS_ Tryz.func55 ?_;simp only [go_sem,seval,hmap,n1]
theorem ax3 (s:List Tm) (hw:∀t,t∈s->wtL t.enc<=1048576) (hl:s.length<=9000000):Gives Tryz.prog 69 [.sl (s.map Tm.enc)] (.d (.bool (S9 s))):=by
 have hmap:(s.map Tm.enc).length=s.length:=g_ _;cases hun:aq9 none s with
 | false =>
  have hu:S9 s=aq9 none s:=by unfold S9;rw [hun];simp
  rw [hu];refine aE_ Tryz.func69 ?_;refine rS_ Tryz.func69 ?_;simp only [go_sem,seval,hmap];refine AW.rng s [0,5,6] 7 5 (fun _:Option V=>[]) (fun H _=>H) (fun r p=>aq9 p r=aq9 none s/\(r.length=s.length->p=none)/\(r.length<s.length->∃y:Tm,s[s.length - r.length - 1]? = some y/\p=some y.V/\L9 y=true)) none rfl (by simp) ⟨rfl,fun _=>rfl,fun h=>absurd h (V_ _)⟩ I4 (fun i x r p hxi hdr hlt hm hinv hnext=>?_) (fun p hinv=>?_)
  ·obtain ⟨i1,i2,i3⟩:=hinv
   obtain ⟨hi1,hi2,hi3⟩:=aC7 hdr;have hto:Gives Tryz.prog 47 [.agg x.enc] (.d (.bool x.ground)):=ab1 x (hw x (b_ hxi));have ho:=hto;simp only [d_,aq9] at i1 i2 i3;cases hg:x.ground with
   | false =>
    rw [hg] at hto ho;have c3:True:=trivial;have hf:aq9 none s=false:=by rw [<-i1];simp [hg]
    rw [hf];refine rS_ Tryz.func69 ?_;simp only [go_sem,seval,hlt,j5 hxi,hmap]
    repeat' (first
     | ((refine hto.callQ rfl ?_)<;>(try simp only [go_sem,seval,hlt,j5 hxi,hmap]))
     | fail)
    all_goals first | (exfalso;omega) | (exfalso;exact absurd (by assumption) c3) | rfl
   | true =>
    rw [hg] at hto;clear ho;have hxV:=Tm.enc_V (F8 hg);by_cases hi0:i=0
    ·obtain rfl:=i2 (by omega)
     have n0:¬(0:Int)<(i:Int):=by omega
     have ho:=hto;refine rS_ Tryz.func69 ?_;simp only [go_sem,seval,hlt,j5 hxi,n0]
     repeat' (first
      | (simp (disch:=omega) only [j6])
      | (refine hnext (some x.V) _ ⟨by rw [<-i1];simp [hi0,hg],fun h=>by omega,fun _=>⟨x,by rw [show s.length - r.length - 1=i by omega];exact hxi,rfl,F8 hg⟩⟩ I4)
      | ((refine hto.callQ rfl ?_)<;>(try simp only [go_sem,seval,hlt,j5 hxi,n0]))
      | fail)
     all_goals (exfalso;omega)
    ·obtain ⟨y,hy,rfl,hyo⟩:=i3 (by omega)
     have n0:(0:Int)<(i:Int):=by omega
     have hw1:IntKind.i64.wrap ((i:Int) - 1)=((i - 1:Nat):Int):=by rw [j6 (by omega) (by omega)];omega
     have n2:((i - 1:Nat):Int)<(s.length:Int):=by omega
     have hyi:s[i - 1]? = some y:=by rw [<-hy];congr 1;omega
     have ho:Gives Tryz.prog 110 [.agg y.enc,.agg x.enc] (.d (.int .i64 (y.V.cmp x.V))):=by
      rw [Tm.enc_V hyo,hxV];exact ab8 _ _ _ (q_ _)
     by_cases c3:y.V.cmp x.V<0
     ·have c4:¬0<=y.V.cmp x.V:=by omega
      refine rS_ Tryz.func69 ?_;simp only [go_sem,seval,hlt,j5 hxi,n0,hw1,n2,j5 hyi,hmap,c3,c4]
      repeat' (first
       | (simp (disch:=omega) only [j6])
       | (refine hnext (some x.V) _ ⟨by rw [<-i1];simp [c3,hg],fun h=>by omega,fun _=>⟨x,by rw [show s.length - r.length - 1=i by omega];exact hxi,rfl,F8 hg⟩⟩ I4)
       | ((first
        | (refine hto.callQ rfl ?_)
        | (refine ho.callQ rfl ?_))<;>(try simp only [go_sem,seval,hlt,j5 hxi,n0,hw1,n2,j5 hyi,hmap,c3,c4]))
       | fail)
      all_goals (exfalso;omega)
     ·have c4:0<=y.V.cmp x.V:=by omega
      have hf:aq9 none s=false:=by rw [<-i1];simp [c3]
      rw [hf];refine rS_ Tryz.func69 ?_;simp only [go_sem,seval,hlt,j5 hxi,n0,hw1,n2,j5 hyi,hmap,c4]
      repeat' (first
       | ((first
        | (refine hto.callQ rfl ?_)
        | (refine ho.callQ rfl ?_))<;>(try simp only [go_sem,seval,hlt,j5 hxi,n0,hw1,n2,j5 hyi,hmap,c4]))
       | fail)
      all_goals first | (exfalso;omega) | (exfalso;exact absurd (by assumption) c3) | rfl
  exfalso;rw [<-hinv.1] at hun;simp [aq9] at hun
 | true =>
  have hu:S9 s=(decide ((1:Int)<=(s.length:Int)) && decide ((s.length:Int)<=8)):=by unfold S9;rw [hun,U_,Q_];simp;omega
  rw [hu];obtain ⟨RES,hRES⟩:∃RES,(decide ((1:Int)<=(s.length:Int)) && decide ((s.length:Int)<=8))=RES:=⟨_,rfl⟩;rw [hRES];have hin:=U9 (s.length:Int) 1 8;rw [hRES] at hin;refine aE_ Tryz.func69 ?_;refine rS_ Tryz.func69 ?_;simp only [go_sem,seval,hmap];refine AW.rng s [0,5,6] 7 5 (fun _:Option V=>[]) (fun H _=>H) (fun r p=>aq9 p r=aq9 none s/\(r.length=s.length->p=none)/\(r.length<s.length->∃y:Tm,s[s.length - r.length - 1]? = some y/\p=some y.V/\L9 y=true)) none rfl (by simp) ⟨rfl,fun _=>rfl,fun h=>absurd h (V_ _)⟩ I4 (fun i x r p hxi hdr hlt hm hinv hnext=>?_) (fun p hinv=>?_)
  ·obtain ⟨i1,i2,i3⟩:=hinv
   obtain ⟨hi1,hi2,hi3⟩:=aC7 hdr;have hto:Gives Tryz.prog 47 [.agg x.enc] (.d (.bool x.ground)):=ab1 x (hw x (b_ hxi));have ho:=hto;simp only [d_,aq9] at i1 i2 i3;cases hg:x.ground with
   | false =>
    rw [hg] at hto ho;have c3:True:=trivial;have hf:aq9 none s=false:=by rw [<-i1];simp [hg]
    exact absurd (hf.symm.trans hun) (by simp)
   | true =>
    rw [hg] at hto;clear ho;have hxV:=Tm.enc_V (F8 hg);by_cases hi0:i=0
    ·obtain rfl:=i2 (by omega)
     have n0:¬(0:Int)<(i:Int):=by omega
     have ho:=hto;refine rS_ Tryz.func69 ?_;simp only [go_sem,seval,hlt,j5 hxi,n0]
     repeat' (first
      | (simp (disch:=omega) only [j6])
      | (refine hnext (some x.V) _ ⟨by rw [<-i1];simp [hi0,hg],fun h=>by omega,fun _=>⟨x,by rw [show s.length - r.length - 1=i by omega];exact hxi,rfl,F8 hg⟩⟩ I4)
      | ((refine hto.callQ rfl ?_)<;>(try simp only [go_sem,seval,hlt,j5 hxi,n0]))
      | fail)
     all_goals (exfalso;omega)
    ·obtain ⟨y,hy,rfl,hyo⟩:=i3 (by omega)
     have n0:(0:Int)<(i:Int):=by omega
     have hw1:IntKind.i64.wrap ((i:Int) - 1)=((i - 1:Nat):Int):=by rw [j6 (by omega) (by omega)];omega
     have n2:((i - 1:Nat):Int)<(s.length:Int):=by omega
     have hyi:s[i - 1]? = some y:=by rw [<-hy];congr 1;omega
     have ho:Gives Tryz.prog 110 [.agg y.enc,.agg x.enc] (.d (.int .i64 (y.V.cmp x.V))):=by
      rw [Tm.enc_V hyo,hxV];exact ab8 _ _ _ (q_ _)
     by_cases c3:y.V.cmp x.V<0
     ·have c4:¬0<=y.V.cmp x.V:=by omega
      refine rS_ Tryz.func69 ?_;simp only [go_sem,seval,hlt,j5 hxi,n0,hw1,n2,j5 hyi,hmap,c3,c4]
      repeat' (first
       | (simp (disch:=omega) only [j6])
       | (refine hnext (some x.V) _ ⟨by rw [<-i1];simp [c3,hg],fun h=>by omega,fun _=>⟨x,by rw [show s.length - r.length - 1=i by omega];exact hxi,rfl,F8 hg⟩⟩ I4)
       | ((first
        | (refine hto.callQ rfl ?_)
        | (refine ho.callQ rfl ?_))<;>(try simp only [go_sem,seval,hlt,j5 hxi,n0,hw1,n2,j5 hyi,hmap,c3,c4]))
       | fail)
      all_goals (exfalso;omega)
     ·have c4:0<=y.V.cmp x.V:=by omega
      have hf:aq9 none s=false:=by rw [<-i1];simp [c3]
      exact absurd (hf.symm.trans hun) (by simp)
  refine rS_ Tryz.func69 ?_;simp only [go_sem,seval,hmap]
  repeat' (first
   | ((refine hin.calls rfl ?_)<;>(try simp only [go_sem,seval,hmap]))
   | fail)
theorem bh9 (b n L:Nat) (hb8:b<=8) (hL:L<=1000000) (hn:n<=1000000):Gives Tryz.prog 90 [.int .i64 b,.int .i64 n,.int .i64 L] (.d (.int .i64 (min (J6 b L n 1) (L+1):Nat))):=by
 obtain ⟨W,hW⟩:∃W,J6 b L n 1=W:=⟨_,rfl⟩;rw [hW];have w3:IntKind.i64.wrap ((L:Int)+1)=(L:Int)+1:=j6 (by omega) (by omega);have hmin:∀k:Nat,(if (L:Int)+1<(k:Int) then (L:Int)+1 else (k:Int))=((min k (L+1):Nat):Int):=fun k=>by split<;>omega
 refine aE_ Tryz.func90 ?_;refine rS_ Tryz.func90 ?_;simp only [go_sem,seval];refine AW.lp [0,1,2] (fun u:Nat×Nat=>[(8,.d (.int .i64 (u.1:Int))),(7,.d (.int .i64 (u.2:Int)))]) (fun H _=>H) (fun u=>u.1<=n/\u.2<=(L+1) * 8/\J6 b L (n - u.1) u.2=W) (fun u=>n - u.1) (0,1) ⟨p_ _,by dsimp only;omega,hW⟩ I4 ?_;rintro ⟨i,k⟩ ⟨h1,h2,h3⟩ hnext;dsimp only at h1 h2 h3 hnext |-;have hnx:=fun i' k' s'=>hnext (i',k') s';clear hnext;have w2:IntKind.i64.wrap ((i:Int)+1)=((i+1:Nat):Int):=by rw [j6 (by omega) (by omega)];omega
 by_cases hi:i<n
 ·have n1:(i:Int)<(n:Int):=by omega
  by_cases hk:k<=L
  ·have n2:(k:Int)<=(L:Int):=by omega
   have hkb:k * b<=(L+1) * 8:=Nat.mul_le_mul (by omega) hb8;have w1:IntKind.i64.wrap ((k:Int) * (b:Int))=((k * b:Nat):Int):=by rw [<-Int.natCast_mul,j6 (by omega) (by omega)]
   have h4:J6 b L (n - (i+1)) (k * b)=W:=by
    rw [show n - i=(n - (i+1))+1 by omega] at h3;unfold J6 at h3;rw [if_pos hk] at h3;exact h3
   refine rS_ Tryz.func90 ?_;simp only [go_sem,seval,n1,n2,w1,w2];refine hnx (i+1) (k * b) _ ⟨by omega,hkb,h4⟩ (by dsimp only;omega) I4
  ·have n2:¬(k:Int)<=(L:Int):=by omega
   rw [aU9 hk] at h3;subst h3;refine rS_ Tryz.func90 ?_;simp only [go_sem,seval,n1,n2,w3];all_goals first | rfl | (exfalso;omega) | exact congrArg (fun x=>C.d (D.int IntKind.i64 x)) (hmin _)
 ·have n1:¬(i:Int)<(n:Int):=by omega
  rw [show n - i=0 by omega] at h3;unfold J6 at h3;subst h3;refine rS_ Tryz.func90 ?_;simp only [go_sem,seval,n1,w3];all_goals first | rfl | (exfalso;omega) | exact congrArg (fun x=>C.d (D.int IntKind.i64 x)) (hmin _)
theorem bd7 (b n L:Nat) (hb8:b<=8) (hL:L<=1000000) (hn:n<=1000000):Gives Tryz.prog 71 [.int .i64 b,.int .i64 n,.int .i64 L] (.d (.int .i64 (J6 b L n 1:Nat))):=by
 obtain ⟨W,hW⟩:∃W,J6 b L n 1=W:=⟨_,rfl⟩;rw [hW];have w3:IntKind.i64.wrap ((L:Int)+1)=(L:Int)+1:=j6 (by omega) (by omega);have hmin:∀k:Nat,(if (L:Int)+1<(k:Int) then (L:Int)+1 else (k:Int))=((min k (L+1):Nat):Int):=fun k=>by split<;>omega
 refine aE_ Tryz.func71 ?_;refine rS_ Tryz.func71 ?_;simp only [go_sem,seval];refine AW.lp [0,1,2] (fun u:Nat×Nat=>[(8,.d (.int .i64 (u.1:Int))),(7,.d (.int .i64 (u.2:Int)))]) (fun H _=>H) (fun u=>u.1<=n/\u.2<=(L+1) * 8/\J6 b L (n - u.1) u.2=W) (fun u=>n - u.1) (0,1) ⟨p_ _,by dsimp only;omega,hW⟩ I4 ?_;rintro ⟨i,k⟩ ⟨h1,h2,h3⟩ hnext;dsimp only at h1 h2 h3 hnext |-;have hnx:=fun i' k' s'=>hnext (i',k') s';clear hnext;have w2:IntKind.i64.wrap ((i:Int)+1)=((i+1:Nat):Int):=by rw [j6 (by omega) (by omega)];omega
 by_cases hi:i<n
 ·have n1:(i:Int)<(n:Int):=by omega
  by_cases hk:k<=L
  ·have n2:(k:Int)<=(L:Int):=by omega
   have hkb:k * b<=(L+1) * 8:=Nat.mul_le_mul (by omega) hb8;have w1:IntKind.i64.wrap ((k:Int) * (b:Int))=((k * b:Nat):Int):=by rw [<-Int.natCast_mul,j6 (by omega) (by omega)]
   have h4:J6 b L (n - (i+1)) (k * b)=W:=by
    rw [show n - i=(n - (i+1))+1 by omega] at h3;unfold J6 at h3;rw [if_pos hk] at h3;exact h3
   refine rS_ Tryz.func71 ?_;simp only [go_sem,seval,n1,n2,w1,w2];refine hnx (i+1) (k * b) _ ⟨by omega,hkb,h4⟩ (by dsimp only;omega) I4
  ·have n2:¬(k:Int)<=(L:Int):=by omega
   rw [aU9 hk] at h3;subst h3;refine rS_ Tryz.func71 ?_;simp only [go_sem,seval,n1,n2,w3];all_goals first | rfl | (exfalso;omega) | exact congrArg (fun x=>C.d (D.int IntKind.i64 x)) (hmin _)
 ·have n1:¬(i:Int)<(n:Int):=by omega
  rw [show n - i=0 by omega] at h3;unfold J6 at h3;subst h3;refine rS_ Tryz.func71 ?_;simp only [go_sem,seval,n1,w3];all_goals first | rfl | (exfalso;omega) | exact congrArg (fun x=>C.d (D.int IntKind.i64 x)) (hmin _)
theorem cw1 (a b:V):decide (a.cmp b=0)=decide (a=b):=by
 rw [Q_,decide_eq_true_eq,decide_eq_true_eq];exact V.cmp_zero a b
theorem cv0 (x y:V) (q:List V):decide (x∈y :: q)=(decide (y=x) || decide (x∈q)):=by
 rw [Q_];simp only [decide_eq_true_eq,Bool.or_eq_true,T_];exact ⟨fun h=>h.elim (fun e=>.inl e.symm) .inr,fun h=>h.elim (fun e=>.inl e.symm) .inr⟩
theorem bP4 (a b:Nat):(a:Int).tmod (b:Int)=((a % b:Nat):Int):=by rw [Int.tmod_eq_emod_of_nonneg (by omega)];omega
theorem bP6 (a b:Nat):(a:Int).tdiv (b:Int)=((a / b:Nat):Int):=by rw [Int.tdiv_eq_ediv_of_nonneg (by omega)];omega
theorem ai1 (u l:List V) (hu:u.length<=1000000):Gives Tryz.prog 92 [.sl (u.map V.enc),.sl (l.map V.enc)] (.d (.bool (l.all fun t=>decide (t∈u)))):=by
 obtain ⟨K,hK⟩:∃K,(l.all fun t=>decide (t∈u))=K:=⟨_,rfl⟩;rw [hK];refine aE_ Tryz.func92 ?_;refine rS_ Tryz.func92 ?_;simp only [go_sem,seval];refine AW.rng l [0,10,11] 12 10 (fun _:Unit=>[]) (fun H _=>H) (fun r _=>(r.all fun t=>decide (t∈u))=K) () rfl (by simp) hK I4 (fun i x r p hxi hdr hlt hm hinv hnext=>?_) (fun p hinv=>?_)
 ·rw [c_] at hinv
  refine rS_ Tryz.func92 ?_;simp only [go_sem,seval,hlt,j5 hxi];refine AW.rng u [0,6,10,11,12,16,17] 18 16 (fun b:Bool=>[(7,.d (.bool b))]) (fun H _=>H) (fun r b=>(b || decide (x∈r))=decide (x∈u)) false rfl (by simp) (by simp) A7 (fun j y q b hyj hdr2 hlt2 hm2 hinv2 hnext2=>?_) (fun b hinv2=>?_)
  ·have he:=P8 y x
   rw [cw1] at he;rw [cv0,<-Bool.or_assoc] at hinv2;cases b with
   | true =>
    refine rS_ Tryz.func92 ?_;simp only [go_sem,seval,hlt2,j5 hyj]
    repeat' (first
     | (simp (disch:=omega) only [j6])
     | (refine hnext2 true _ (by simpa using hinv2) A7)
     | fail)
   | false =>
    rw [Bool.false_or] at hinv2;generalize decide (y=x)=b2 at he hinv2;refine rS_ Tryz.func92 ?_;simp only [go_sem,seval,hlt2,j5 hyj]
    repeat' (first
     | (simp (disch:=omega) only [j6])
     | (refine hnext2 b2 _ hinv2 A7)
     | ((refine he.calls rfl ?_)<;>(try simp only [go_sem,seval,hlt2,j5 hyj]))
     | fail)
  ·simp only [List.not_mem_nil,decide_false,Bool.or_false] at hinv2
   rw [<-hinv2] at hinv;cases b with
   | true =>
    rw [t_] at hinv;refine rS_ Tryz.func92 ?_;simp only [go_sem,seval]
    repeat' (first
     | (simp (disch:=omega) only [j6])
     | (refine hnext () _ hinv I4)
     | fail)
   | false =>
    rw [B_] at hinv;rw [<-hinv];refine rS_ Tryz.func92 ?_;simp only [go_sem,seval]
 ·rw [<-hinv]
  refine rS_ Tryz.func92 ?_;simp only [go_sem,seval];all_goals rfl
theorem ax6 (u:List V) (x:V) (hu:u.length<=1000000):Gives Tryz.prog 116 [.sl (u.map V.enc),.agg x.enc] (.d (.bool (decide (x∈u)))):=by
 obtain ⟨K,hK⟩:∃K,decide (x∈u)=K:=⟨_,rfl⟩;rw [hK];refine aE_ Tryz.func116 ?_;refine rS_ Tryz.func116 ?_;simp only [go_sem,seval];refine AW.rng u [3,7,8] 9 7 (fun _:Unit=>[]) (fun H _=>H) (fun r _=>decide (x∈r)=K) () rfl (by simp) hK A7 (fun j y q b hyj hdr2 hlt2 hm2 hinv2 hnext2=>?_) (fun b hinv2=>?_)
 ·have he:=Q3 y x
  rw [cw1] at he;rw [cv0] at hinv2;generalize decide (y=x)=b2 at he hinv2;cases b2 with
  | true =>
   rw [Bool.true_or] at hinv2;rw [<-hinv2];refine rS_ Tryz.func116 ?_;simp only [go_sem,seval,hlt2,j5 hyj]
   repeat' (first
    | ((refine he.calls rfl ?_)<;>(try simp only [go_sem,seval,hlt2,j5 hyj]))
    | fail)
  | false =>
   rw [Bool.false_or] at hinv2;refine rS_ Tryz.func116 ?_;simp only [go_sem,seval,hlt2,j5 hyj]
   repeat' (first
    | (simp (disch:=omega) only [j6])
    | (refine hnext2 () _ hinv2 A7)
    | ((refine he.calls rfl ?_)<;>(try simp only [go_sem,seval,hlt2,j5 hyj]))
    | fail)
 ·rw [<-hinv2]
  refine rS_ Tryz.func116 ?_;simp only [go_sem,seval];all_goals rfl
theorem am7 (fs:List FcV) (u:List V) (hu:u.length<=1000000):Gives Tryz.prog 74 [.sl (fs.map fcE),.sl (u.map V.enc)] (.d (.bool (fs.all (aF1 u)))):=by
 obtain ⟨K,hK⟩:∃K,fs.all (aF1 u)=K:=⟨_,rfl⟩;rw [hK];refine aE_ Tryz.func74 ?_;refine rS_ Tryz.func74 ?_;simp only [go_sem,seval];refine AW.rng fs [1,9,10] 11 9 (fun _:Unit=>[]) (fun H _=>H) (fun r _=>r.all (aF1 u)=K) () rfl (by simp) hK I4 (fun i x r p hxi hdr hlt hm hinv hnext=>?_) (fun p hinv=>?_)
 ·rw [c_] at hinv
  have hxe:=o6 x;have hin:aF1 u x=x.2.all fun t=>decide (t∈u):=rfl;rw [hin] at hinv;generalize hL:x.2=L at *;refine rS_ Tryz.func74 ?_;simp only [go_sem,seval,hlt,j5 hxi,hxe];refine AW.rng L [1,9,10,11,16,17] 18 16 (fun _:Unit=>[]) (fun H _=>H) (fun q _=>((q.all fun t=>decide (t∈u)) && r.all (aF1 u))=K) () rfl (by simp) hinv A7 (fun j y q b hyj hdr2 hlt2 hm2 hinv2 hnext2=>?_) (fun b hinv2=>?_)
  ·have he:=ax6 u y hu
   rw [c_] at hinv2;generalize decide (y∈u)=b2 at he hinv2;cases b2 with
   | true =>
    rw [t_] at hinv2;refine rS_ Tryz.func74 ?_;simp only [go_sem,seval,hlt2,j5 hyj]
    repeat' (first
     | (simp (disch:=omega) only [j6])
     | (refine hnext2 () _ hinv2 A7)
     | ((refine he.calls rfl ?_)<;>(try simp only [go_sem,seval,hlt2,j5 hyj]))
     | fail)
   | false =>
    simp only [B_] at hinv2;rw [<-hinv2];refine rS_ Tryz.func74 ?_;simp only [go_sem,seval,hlt2,j5 hyj]
    repeat' (first
     | ((refine he.calls rfl ?_)<;>(try simp only [go_sem,seval,hlt2,j5 hyj]))
     | fail)
  ·rw [e_,t_] at hinv2
   refine rS_ Tryz.func74 ?_;simp only [go_sem,seval]
   repeat' (first
    | (simp (disch:=omega) only [j6])
    | (refine hnext () _ hinv2 I4)
    | fail)
 ·rw [<-hinv]
  refine rS_ Tryz.func74 ?_;simp only [go_sem,seval];all_goals rfl
theorem aL2 (u:List V) (n k:Nat) (hu1:1<=u.length) (hu:u.length<=1000000) (hk:k<=1000000) (hn:n<=1000000):Gives Tryz.prog 73 [.sl (x9 ((List.range n).map fun i:Nat=>(i:Int))),.sl (u.map V.enc),.int .i64 k] (.d (.sl (bdD (H8 u n k)))):=by
 have hmx:maxLen=9223372036854775807:=rfl;have hml:(u.map V.enc).length=u.length:=g_ _;obtain ⟨G,hG⟩:∃G,H8 u n k=G:=⟨_,rfl⟩;have hGl:G.length=n:=by rw [<-hG];exact Y3 u n k
 rw [hG];obtain ⟨zs,hzs⟩:∃zs:List Int,((List.range n).map fun i:Nat=>(i:Int))=zs:=⟨_,rfl⟩;have hzl:zs.length=n:=by rw [<-hzs];simp
 have hza:∀(i:Nat) (z:Int),zs[i]? = some z->z=(i:Int):=fun i z h=>by
  rw [<-hzs,s_,D_] at h;obtain ⟨j,h1,h2⟩:=h;have h3:=(h_.1 h1).1;rw [G_ (by simpa using h3)] at h1;cases h1;exact h2.symm
 rw [hzs];refine aE_ Tryz.func73 ?_;refine l7 Tryz.func73 mixed 5 _ _ (by kernel_rfl) ?_;simp only [go_sem,seval,run.eq_1];refine AW.adopt 7 5 154 (by decide) rfl ?_;refine rS_ Tryz.func73 ?_;simp only [go_sem,seval,X8];refine AW.rng zs [1,11,12] 13 11 (fun w:List V×Nat=>[(2,.d (.int .i64 (w.2:Int))),(7,.own 0 w.1.length)]) (fun _ w=>[.grow w.1.length 5 154 (bdD w.1)]) (fun r w=>w.1++H8 u r.length w.2=G/\w.1.length+r.length=n/\w.2<=k) ([],k) rfl (by simp [x9,hzl]) ⟨by rw [hzl];exact hG,by simp [hzl],q_ _⟩ (by refine ⟨by simp [mkS,bdD,aB8],by simp [mkS,bdD,aB8],by simp only [mkS,c_,e_,O.refsLt,C.refsLt,C.refsLt1,l8];first | done | rfl | (simp;done),?_⟩;simp [mkS,Abs.get,C.refsLtT,C.refsLt,C.refsLt1,bdD,aB8]) (fun i z r w hxi hdr hlt hm hinv hnext=>?_) (fun w hinv=>?_)
 ·obtain ⟨w,x⟩:=w
  obtain ⟨i1,i2,i3⟩:=hinv;dsimp only at i1 i2 i3 hnext |-;have hnx:=fun w' x' s'=>hnext (w',x') s';clear hnext;have hdl:=congrArg List.length hdr;simp only [C_,d_] at hdl i1 i2;have hi:i=w.length:=by omega
  obtain rfl:=hza i z hxi;have hxd:(x9 zs)[i]? = some [.int .i64 (i:Int)]:=by simp [x9,hxi]
  have hm1:x % u.length<u.length:=Nat.mod_lt _ (by omega);obtain ⟨v,hv⟩:∃v,u[x % u.length]? = some v:=⟨_,n_ hm1⟩;have hve:u.getD (x % u.length) .nil=v:=by rw [R_,hv];rfl
  have hvd:(u.map V.enc)[x % u.length]? = some v.enc:=by rw [s_,hv];rfl
  have hdv:x / u.length<=x:=Nat.div_le_self _ _;have hrm:=bP4 x u.length;have hqd:=bP6 x u.length;have h0:¬(u.length:Int)=0:=by omega
  have hre:H8 u (r.length+1) x=v :: H8 u r.length (x / u.length):=by rw [<-hve];rfl
  rw [hre] at i1;clear hve hre;generalize x % u.length=xm at *;generalize x / u.length=xq at *;have w1:IntKind.i64.wrap (xq:Int)=(xq:Int):=j6 (by omega) (by omega);have n2:(xm:Int)<(u.length:Int):=by omega
  have hbln:(bdD w).length=w.length:=by unfold bdD;rw [g_,ai7]
  have hbw5:∀y,y∈bdD w->y.length=5:=fun y hy=>by obtain ⟨b,_,rfl⟩:=x_.1 hy;exact Bd.enc_len b
  have hbs:bdD (w++[v])=bdD w++[[.int .i64 (i:Int),.int .i64 v.kind,.int .i64 v.int,.str v.name,.sl (v.kids.map V.enc)]]:=by
   unfold bdD;rw [aN1,z_,m_,l_];congr 2;rw [hi,Nat.zero_add];show [D.int .i64 _]++V.enc v=_;rw [V.enc_eq];rfl
  have hhv:=V.enc_eq v;generalize hBD:bdD w=BD at *;refine rS_ Tryz.func73 ?_;simp only [go_sem,seval,hlt,j5 hxd,j5 hvd,hrm,hqd,h0,w1,n2,hml,hhv]
  repeat' (first
   | (simp (disch:=omega) only [j6])
   | ((refine ⟨sd,?_⟩)<;>(try simp only [go_sem,seval,hlt,j5 hxd,j5 hvd,hrm,hqd,h0,w1,n2,hml,hhv]))
   | fail)
  refine hnx (w++[v]) xq _ ⟨by rw [<-i1];simp,by simp;omega,by omega⟩ (by refine ⟨by simp [mkS,hbs],by simp [mkS,hbs],by simp only [mkS,c_,e_,O.refsLt,C.refsLt,C.refsLt1,l8];first | done | rfl | (simp;done),?_⟩;simp [mkS,Abs.get,C.refsLtT,C.refsLt,C.refsLt1,hbs])
 ·obtain ⟨w,x⟩:=w
  obtain ⟨i1,i2,i3⟩:=hinv;dsimp only [A_,H8] at i1;rw [a_] at i1;dsimp only;subst i1;refine rS_ Tryz.func73 ?_;simp only [go_sem,seval]
def cpT (t:V):Prop:=ACalls Tryz.prog 102 [.d (.agg t.enc)] [.hole] fun c H'=>c=.agg [.d (.int .i64 t.kind),.d (.int .i64 t.int),.d (.str t.name),.own 0 1]/\∃e B,H'=[.tree 1 4 e (t.kids.map V.enc) B none]
theorem aB2:∀t:V,cpT t:=by
 intro t;induction t with
 | pair x y ihx ihy =>
  unfold cpT;refine aE_ Tryz.func102 ?_;refine AW.hole ?_;refine AW.hole ?_;refine l7 Tryz.func102 mixed 8 _ _ (by kernel_rfl) ?_;simp only [go_sem,seval,run.eq_1,V.kind,V.int,V.kids];all_goals first | (exact absurd hq (by decide)) | skip
  have hk:(V.pair x y).kids=[x,y]:=rfl;refine AW.drawA mixed #[true,true,true,true,true,true,true,true,true,true,true,true,false] [(3,.box ((V.pair x y).enc.map .d))] [] [0,1,2,3,5,6,7,8,4,9,10,11] [12] none (by kernel_rfl) trivial (by simp [x8]) ?_;simp only [go_sem,seval,hk]
  repeat' (first
   | ((first
    | (refine ACalls.fresh (ds:=[.agg x.enc]) (m:=1) ihx [1] rfl rfl (by simp) (by simp) ?_<;>(rintro c H' ⟨rfl,e1,B1,rfl⟩ _;refine ⟨rfl,rfl,?_⟩))
    | (refine ACalls.fresh (ds:=[.agg y.enc]) (m:=1) ihy [2] rfl rfl (by simp) (by simp) ?_<;>(rintro c H' ⟨rfl,e2,B2,rfl⟩ _;refine ⟨rfl,rfl,?_⟩))
    | (refine E9 (fun Bz=>?_)))<;>(try simp only [go_sem,seval,hk]))
   | fail)
  refine AW.placeB 4 3 5 0 rfl rfl rfl rfl (by decide) ?_;refine rS_ Tryz.func102 ?_;simp only [go_sem,seval];refine ⟨rfl,66,Bz,?_⟩;rw [V.enc_eq x,V.enc_eq y]
 | nil =>
  unfold cpT;refine aE_ Tryz.func102 ?_;refine l7 Tryz.func102 mixed 8 _ _ (by kernel_rfl) ?_;simp only [go_sem,seval,run.eq_1,V.kind,V.int,V.kids];all_goals first | (exact absurd hq (by decide)) | skip
  refine AW.adoptTB 2 3 4 0 (by decide) rfl rfl ?_;refine AW.placeB 2 3 3 0 rfl rfl rfl rfl (by decide) ?_;refine rS_ Tryz.func102 ?_;simp only [go_sem,seval];exact ⟨_,_,rfl⟩
 | var n =>
  unfold cpT;refine aE_ Tryz.func102 ?_;refine l7 Tryz.func102 mixed 8 _ _ (by kernel_rfl) ?_;simp only [go_sem,seval,run.eq_1,V.kind,V.int,V.kids];all_goals first | (exact absurd hq (by decide)) | skip
  refine AW.adoptTB 2 3 4 0 (by decide) rfl rfl ?_;refine AW.placeB 2 3 3 0 rfl rfl rfl rfl (by decide) ?_;refine rS_ Tryz.func102 ?_;simp only [go_sem,seval];exact ⟨_,_,rfl⟩
 | sym s =>
  unfold cpT;refine aE_ Tryz.func102 ?_;refine l7 Tryz.func102 mixed 8 _ _ (by kernel_rfl) ?_;simp only [go_sem,seval,run.eq_1,V.kind,V.int,V.kids];all_goals first | (exact absurd hq (by decide)) | skip
  refine AW.adoptTB 2 3 4 0 (by decide) rfl rfl ?_;refine AW.placeB 2 3 3 0 rfl rfl rfl rfl (by decide) ?_;refine rS_ Tryz.func102 ?_;simp only [go_sem,seval];exact ⟨_,_,rfl⟩
 | num n =>
  unfold cpT;refine aE_ Tryz.func102 ?_;refine l7 Tryz.func102 mixed 8 _ _ (by kernel_rfl) ?_;simp only [go_sem,seval,run.eq_1,V.kind,V.int,V.kids];all_goals first | (exact absurd hq (by decide)) | skip
  refine AW.adoptTB 2 3 4 0 (by decide) rfl rfl ?_;refine AW.placeB 2 3 3 0 rfl rfl rfl rfl (by decide) ?_;refine rS_ Tryz.func102 ?_;simp only [go_sem,seval];exact ⟨_,_,rfl⟩
def cl3 (l:List V):Prop:=ACalls Tryz.prog 63 [.d (.sl (l.map V.enc))] [.hole] fun c H'=>c=.own 0 1/\∃e B,H'=[.tree 1 4 e (l.map V.enc) B none]
theorem aS7 (l:List V) (hl:l.length<=100000000):cl3 l:=by
 have hmx:maxLen=9223372036854775807:=rfl;unfold cl3;refine aE_ Tryz.func63 ?_;refine l7 Tryz.func63 mixed 5 _ _ (by kernel_rfl) ?_;simp only [go_sem,seval,run.eq_1];refine AW.adoptT 3 4 66 (by decide) rfl ?_;refine rS_ Tryz.func63 ?_;simp only [go_sem,seval];refine AW.rng l [7,8] 9 7 (fun p:List V×(Nat->Prop)=>[(3,.own 1 p.1.length)]) (fun _ p=>[.hole,.tree p.1.length 4 66 (p.1.map V.enc) p.2 none]) (fun r p=>p.1++r=l) ([],fun _=>False) rfl (by simp) rfl A7 (fun i x r p hxi hdr hlt hm hinv hnext=>?_) (fun p hinv=>?_)
 ·have hpl:p.1.length+(r.length+1)=l.length:=by rw [<-hinv];simp
  have hx:=aB2 x;refine AW.hole ?_;refine l7 Tryz.func63 mixed 9 _ _ (by kernel_rfl) ?_;simp only [go_sem,seval,run.eq_1,hlt,j5 hxi];refine AW.regT ?_;simp only [go_sem,seval]
  repeat' (first
   | ((first
    | (refine ACalls.fresh (ds:=[.agg x.enc]) (m:=1) hx [2] rfl rfl (by simp) (by simp) ?_<;>(rintro c H' ⟨rfl,e1,B1,rfl⟩ _;refine ⟨rfl,rfl,?_⟩))
    | (refine E9 (fun Bz=>?_))
    | (refine ⟨sd,?_⟩))<;>(try simp only [go_sem,seval,hlt,j5 hxi]))
   | fail)
  refine rS_ Tryz.func63 ?_;simp only [go_sem,seval];try simp (disch:=omega) only [j6]
  refine hnext (p.1++[x],Bz) _ (by simp [<-hinv]) (by refine ⟨by simp [mkS,V.enc_eq x],by simp [mkS,V.enc_eq x],by simp only [mkS,c_,e_,O.refsLt,C.refsLt,C.refsLt1,l8];first | done | rfl | (simp;done),?_⟩;simp [mkS,Abs.get,C.refsLtT,C.refsLt,C.refsLt1])
 ·simp only [a_] at hinv
  subst hinv;refine l7 Tryz.func63 mixed 7 _ _ (by kernel_rfl) ?_;simp only [go_sem,seval,run.eq_1];refine AW.place 2 1 0 rfl rfl rfl (by decide) ?_;refine rS_ Tryz.func63 ?_;simp only [go_sem,seval];all_goals exact ⟨_,_,rfl⟩
theorem aS8 (v:V):Gives Tryz.prog 102 [.agg v.enc] (.d (.agg v.enc)):=by
 have h:=aB2 v;unfold cpT at h;refine ACalls.frozen (ds:=[.agg v.enc]) (m:=1) h (fun c H' ⟨h1,e,B,h2⟩ _=>?_);subst h1 h2;rw [V.enc_eq v];rfl
theorem bH2 (a b:V):Gives Tryz.prog 171 [.agg a.enc,.agg b.enc] (.d (.agg (V.pair a b).enc)):=by
 rw [V.enc_pair];refine aE_ Tryz.func171 ?_;refine rS_ Tryz.func171 ?_;simp only [go_sem,seval]
theorem bc7 {g:FuncId} {caps:List C} {m:Nat} {H:List O} {Q:Int->Prop} {fv:Int->V} (h:CloR Tryz.prog g caps m (fun n:Int=>D.int .i64 n) H Q (fun n=>.tup [.d (.agg (fv n).enc),.d (.bool true)])) :
  ∀v:V,(∀n,n∈v.vars->Q n)->ACalls Tryz.prog 158 [.d (.agg v.enc),.fn g caps] H (fun c H'=>c=.d (.agg (v.sub fv).enc)/\H'=H):=by
 intro v;induction v with
 | pair x y ihx ihy =>
  intro hq;have hx:=ihx (fun n hn=>hq n (by simp [V.vars,hn]));have hy:=ihy (fun n hn=>hq n (by simp [V.vars,hn]));simp only [V.sub];refine aE_ Tryz.func158 ?_;refine l7 Tryz.func158 mixed 13 _ _ (by kernel_rfl) ?_;simp only [go_sem,seval,run.eq_1,h.len,h.go,h.at0,h.atj,h.set0,h.setj,h.tk,h.tk0,h.tkj,h.refs,h.refsj,h.hcaps,h.capsj,j_,V.kind,V.int,V.kids];refine AW.drawA mixed #[true,true,true,true,true,true,true,true,true,true,true,true,true,false] [(m,.box ((V.pair x y).enc.map .d))] [] [0,1,2,3,4,6,7,8,9,10,5,11,12] [13] none (by kernel_rfl) trivial (by simp [x8,h.at0]) ?_;simp only [go_sem,seval,h.len,h.go,h.at0,h.atj,h.set0,h.setj,h.tk,h.tk0,h.tkj,h.refs,h.refsj,h.hcaps,h.capsj,j_,V.kind,V.int,V.kids]
  repeat' (first
   | ((first
    | (refine h.sub hx ?_)
    | (refine h.sub hy ?_)
    | (refine (bH2 _ _).calls rfl ?_))<;>(try simp only [go_sem,seval,h.len,h.go,h.at0,h.atj,h.set0,h.setj,h.tk,h.tk0,h.tkj,h.refs,h.refsj,h.hcaps,h.capsj,j_,V.kind,V.int,V.kids]))
   | fail)
  refine rS_ Tryz.func158 ?_;simp only [go_sem,seval,h.len,h.go,h.at0,h.atj,h.set0,h.setj,h.tk,h.tk0,h.tkj,h.refs,h.refsj,h.hcaps,h.capsj,j_]
 | var n =>
  intro hq;have hn:=hq n (by simp [V.vars]);simp only [V.sub];refine aE_ Tryz.func158 ?_;refine rS_ Tryz.func158 ?_;simp only [go_sem,seval,h.len,h.go,h.at0,h.atj,h.set0,h.setj,h.tk,h.tk0,h.tkj,h.refs,h.refsj,h.hcaps,h.capsj,j_,V.kind,V.int,V.kids]
  repeat' (first
   | ((first
    | (refine h.on hn ?_)
    | (refine (aS8 _).calls rfl ?_))<;>(try simp only [go_sem,seval,h.len,h.go,h.at0,h.atj,h.set0,h.setj,h.tk,h.tk0,h.tkj,h.refs,h.refsj,h.hcaps,h.capsj,j_,V.kind,V.int,V.kids]))
   | fail)
 | _ =>
  intro hq;simp only [V.sub];refine aE_ Tryz.func158 ?_;refine rS_ Tryz.func158 ?_;simp only [go_sem,seval,h.len,h.go,h.at0,h.atj,h.set0,h.setj,h.tk,h.tk0,h.tkj,h.refs,h.refsj,h.hcaps,h.capsj,j_,V.kind,V.int,V.kids]
theorem bh8 (tb:List D) (vs:List V):CloR Tryz.prog 159 [.ptr 1 0] 3 (fun n:Int=>D.int .i64 n) [.box (tb.map .d),.box [.d (.sl (vs.map V.enc))],.box [.d (.int .i64 0),.d (.int .i64 0),.d (.str []),.nil0]] (fun n=>0<=n/\n<vs.length) (fun n=>.tup [.d (.agg (l9 vs n).enc),.d (.bool true)]):=by
 have e1:=fun n (h:0<=n/\n<(vs.length:Int))=>aU3 h.1 h.2;refine ⟨by kernel_rfl,rfl,rfl,by simp only [c_,e_,O.refsLt,l8,C.refsLt,C.refsLt1];rfl,fun n hn=>?_⟩;have hat:(vs.map V.enc)[n.toNat]? = some (l9 vs n).enc:=by rw [s_,e1 n hn];rfl
 have hl:=hn.2;have h0:=hn.1;refine aE_ Tryz.func159 ?_;refine rS_ Tryz.func159 ?_;simp only [go_sem,seval,j5 hat]
 repeat' (first
  | ((refine ⟨sd,?_⟩)<;>(try simp only [go_sem,seval,j5 hat]))
  | fail)
 all_goals simp only [l8]
theorem bh7 (v:V) (vs:List V) (hv:∀n,n∈v.vars->0<=n/\n<vs.length):Gives Tryz.prog 130 [.agg v.enc,.sl (vs.map V.enc)] (.d (.agg (v.sub (l9 vs)).enc)):=by
 have e1:=bc7 (bh8 v.enc vs) v (fun n hn=>by have:=hv n hn;omega);refine aE_ Tryz.func130 ?_;refine rS_ Tryz.func130 ?_;simp only [go_sem,seval]
 repeat' (first
  | ((refine ACalls.mono e1 ?_<;>(rintro c H' ⟨rfl,rfl⟩))<;>(try simp only [go_sem,seval]))
  | fail)
theorem aw7 (g:Gl) (vs:List V) (hg:g.inst vs.length):Gives Tryz.prog 91 [.agg g.enc,.sl (vs.map V.enc)] (.d (.agg (FcV.fc (g.callV (l9 vs))).enc)):=by
 have hmx:maxLen=9223372036854775807:=rfl;have hln:=(Gl.shape_len hg.1).1;have hit:=Gl.inst_terms hg;have hR:(FcV.fc (g.callV (l9 vs))).enc=[.str g.name,.sl ((g.terms.map fun t=>t.V.sub (l9 vs)).map V.enc)]:=by rw [Fc.enc_eq];simp only [FcV.fc,Gl.callV,K8]
 rw [hR];refine aE_ Tryz.func91 ?_;refine l7 Tryz.func91 mixed 5 _ _ (by kernel_rfl) ?_;simp only [go_sem,seval,run.eq_1];refine AW.adoptGB 2 1 4 66 (by decide) rfl rfl ?_;refine rS_ Tryz.func91 ?_;simp only [go_sem,seval];refine AW.rng g.terms [1,4,5,12,13] 14 12 (fun p:List V=>[]) (fun _ p=>[.box (g.enc.map .d),.box [.d (.str []),.nil0],.box [.d (.str g.name),.own 3 p.length],.grow p.length 4 66 (p.map V.enc)]) (fun r p=>p++r.map (fun t=>t.V.sub (l9 vs))=g.terms.map fun t=>t.V.sub (l9 vs)) [] rfl (by simp) rfl A7 (fun i x r p hxi hdr hlt hm hinv hnext=>?_) (fun p hinv=>?_)
 ·have hxm:=b_ hxi
  obtain ⟨he,hv⟩:=hit x hxm;have hw:=bh7 x.V vs (fun n hn=>by have:=hv n hn;omega);rw [<-he] at hw;have hpl:p.length+(r.length+1)=g.terms.length:=by have:=congrArg List.length hinv;simpa using this
  refine l7 Tryz.func91 mixed 9 _ _ (by kernel_rfl) ?_;simp only [go_sem,seval,run.eq_1,hlt,j5 hxi];refine AW.drawA mixed #[true,true,true,true,true,true,true,false,false] [(2,.box [.d (.str g.name),.own 3 p.length]),(4,.box (x.enc.map .d))] [] [0,1,2,3,4,5,6] [7,8] none (by kernel_rfl) trivial (by simp [x8]) ?_;simp only [go_sem,seval]
  repeat' (first
   | ((first
    | (refine hw.calls rfl ?_)
    | (refine ⟨sd,?_⟩))<;>(try simp only [go_sem,seval]))
   | fail)
  refine rS_ Tryz.func91 ?_;simp only [go_sem,seval]
  repeat' (first
   | (simp (disch:=omega) only [j6])
   | fail)
  refine hnext (p++[x.V.sub (l9 vs)]) _ (by rw [<-hinv];simp) A7
 ·simp only [l_,a_] at hinv
  rw [<-hinv];refine rS_ Tryz.func91 ?_;simp only [go_sem,seval]
theorem bu9 {f:Int->V} {g:Gl} (h:7<=g.kind):g.testV f=false:=by
 unfold Gl.testV;split<;>first | rfl | omega
theorem aN8 (g:Gl) (vs:List V) (hg:g.inst vs.length):Gives Tryz.prog 93 [.agg g.enc,.sl (vs.map V.enc)] (.d (.bool (g.testV (l9 vs)))):=by
 have hmx:maxLen=9223372036854775807:=rfl;have hln:=(Gl.shape_len hg.1).1;have hit:=Gl.inst_terms hg;refine aE_ Tryz.func93 ?_;refine l7 Tryz.func93 mixed 5 _ _ (by kernel_rfl) ?_;simp only [go_sem,seval,run.eq_1];refine AW.adoptGB 1 2 4 66 (by decide) rfl rfl ?_;refine rS_ Tryz.func93 ?_;simp only [go_sem,seval];refine AW.rng g.terms [1,2,5,12,13] 14 12 (fun p:List V=>[]) (fun _ p=>[.box (g.enc.map .d),.box [.d (.int .i64 g.kind),.d (.str []),.own 2 p.length,.nil0],.grow p.length 4 66 (p.map V.enc)]) (fun r p=>p++r.map (fun t=>t.V.sub (l9 vs))=g.terms.map fun t=>t.V.sub (l9 vs)) [] rfl (by simp) rfl A7 (fun i x r p hxi hdr hlt hm hinv hnext=>?_) (fun p hinv=>?_)
 ·have hxm:=b_ hxi
  obtain ⟨he,hv⟩:=hit x hxm;have hw:=bh7 x.V vs (fun n hn=>by have:=hv n hn;omega);rw [<-he] at hw;have hpl:p.length+(r.length+1)=g.terms.length:=by have:=congrArg List.length hinv;simpa using this
  refine l7 Tryz.func93 mixed 9 _ _ (by kernel_rfl) ?_;simp only [go_sem,seval,run.eq_1,hlt,j5 hxi];refine AW.drawA mixed #[true,true,true,true,true,true,true,false,false] [(1,.box [.d (.int .i64 g.kind),.d (.str []),.own 2 p.length,.nil0]),(3,.box (x.enc.map .d))] [] [0,1,2,3,4,5,6] [7,8] none (by kernel_rfl) trivial (by simp [x8]) ?_;simp only [go_sem,seval]
  repeat' (first
   | ((first
    | (refine hw.calls rfl ?_)
    | (refine ⟨sd,?_⟩))<;>(try simp only [go_sem,seval]))
   | fail)
  refine rS_ Tryz.func93 ?_;simp only [go_sem,seval]
  repeat' (first
   | (simp (disch:=omega) only [j6])
   | fail)
  refine hnext (p++[x.V.sub (l9 vs)]) _ (by rw [<-hinv];simp) A7
 ·simp only [l_,a_] at hinv
  subst hinv;rcases Gl.shape_cases hg.1 with ⟨hkk,ht⟩ | ⟨hkk,a,b,ht,ha,hb⟩ | ⟨hkk,a,ht,ha⟩ | h7
  ·have hL:(g.terms.map fun t=>t.V.sub (l9 vs))=[]:=by rw [ht];rfl
   rcases hkk with hkk | hkk
   ·have hT:g.testV (l9 vs)=true:=by simp [Gl.testV,hkk]
    rw [hT];refine rS_ Tryz.func93 ?_;simp only [go_sem,seval,hkk,hL];all_goals first | rfl | (exfalso;omega) | (simp_all;done) | (simp_all;omega)
   ·have hT:g.testV (l9 vs)=false:=by simp [Gl.testV,hkk]
    rw [hT];refine rS_ Tryz.func93 ?_;simp only [go_sem,seval,hkk,hL];all_goals first | rfl | (exfalso;omega) | (simp_all;done) | (simp_all;omega)
  ·have hL:(g.terms.map fun t=>t.V.sub (l9 vs))=[a.V.sub (l9 vs),b.V.sub (l9 vs)]:=by rw [ht];rfl
   rcases hkk with hkk | hkk | hkk
   ·have hT:g.testV (l9 vs)=decide ((a.V.sub (l9 vs)).cmp (b.V.sub (l9 vs))=0):=by simp [Gl.testV,hkk,ht]
    rw [hT];refine rS_ Tryz.func93 ?_;simp only [go_sem,seval,hkk,hL]
    repeat' (first
     | ((refine (P8 _ _).callQ rfl ?_)<;>(try simp only [go_sem,seval,hkk,hL]))
     | fail)
    all_goals first | rfl | (exfalso;omega) | (simp_all;done) | (simp_all;omega)
   ·have hT:g.testV (l9 vs)=!decide ((a.V.sub (l9 vs)).cmp (b.V.sub (l9 vs))=0):=by simp [Gl.testV,hkk,ht]
    rw [hT];refine rS_ Tryz.func93 ?_;simp only [go_sem,seval,hkk,hL]
    repeat' (first
     | ((refine (P8 _ _).callQ rfl ?_)<;>(try simp only [go_sem,seval,hkk,hL]))
     | fail)
    all_goals first | rfl | (exfalso;omega) | (simp_all;done) | (simp_all;omega)
   ·have hT:g.testV (l9 vs)=!(b.V.sub (l9 vs)).has (a.V.sub (l9 vs)).name:=by simp [Gl.testV,hkk,ht]
    rw [hT];refine rS_ Tryz.func93 ?_;simp only [go_sem,seval,hkk,hL]
    repeat' (first
     | ((refine (an3 _ _).callQ rfl ?_)<;>(try simp only [go_sem,seval,hkk,hL]))
     | fail)
    all_goals first | rfl | (exfalso;omega) | (simp_all;done) | (simp_all;omega)
  ·have hL:(g.terms.map fun t=>t.V.sub (l9 vs))=[a.V.sub (l9 vs)]:=by rw [ht];rfl
   rcases hkk with hkk | hkk
   ·have hT:g.testV (l9 vs)=decide ((a.V.sub (l9 vs)).kind=2):=by simp [Gl.testV,hkk,ht]
    rw [hT];refine rS_ Tryz.func93 ?_;simp only [go_sem,seval,hkk,hL];all_goals first | rfl | (exfalso;omega) | (simp_all;done) | (simp_all;omega)
   ·have hT:g.testV (l9 vs)=decide ((a.V.sub (l9 vs)).kind=3):=by simp [Gl.testV,hkk,ht]
    rw [hT];refine rS_ Tryz.func93 ?_;simp only [go_sem,seval,hkk,hL];all_goals first | rfl | (exfalso;omega) | (simp_all;done) | (simp_all;omega)
  ·rw [bu9 h7]
   refine rS_ Tryz.func93 ?_;simp only [go_sem,seval]
   repeat' (first
    | ((first | (refine D5 (fun hq=>?_) (fun hq=>?_)) | (refine y9 (fun x hx=>have hq:=hx;?_)))<;>(try simp only [go_sem,seval,hq]))
    | ((first
     | (refine (P8 _ _).callQ rfl ?_)
     | (refine (an3 _ _).callQ rfl ?_)
     | (refine ⟨sd,?_⟩))<;>(try simp only [go_sem,seval]))
    | fail)
   all_goals first | rfl | (exfalso;omega)
set_option maxHeartbeats 8000000
def rvE (r:RV):List D:=r.ru.enc
theorem A8 (r:RV):rvE r=[.str r.head.1,.sl (r.head.2.map V.enc),.int .i64 r.clause,.sl (r.values.map V.enc),.sl (r.pos.map fcE),.sl (r.neg.map fcE)]:=by
 unfold rvE;rw [Ru.enc_eq];simp only [RV.ru,FcV.fc,K8,y_];rfl
def grC (o:Option (List RV)):C:=match o with | some l=>.tup [.d (.sl (l.map rvE)),.d (.bool true)] | none=>.tup [.d (.sl []),.d (.bool false)]
theorem I1:grC none=.tup [.d (.sl []),.d (.bool false)]:=rfl
theorem ai3 (l:List RV):grC (some l)=.tup [.d (.sl (l.map rvE)),.d (.bool true)]:=rfl
def bt7 (r:Rl):List D:=[.sl (r.body.clsS.map aN5)]
theorem aT2 (r:Rl):bt7 r=[.sl (r.body.clsS.map aN5)]:=rfl
theorem bH9 (vs:List V) (v:V) {n:Nat} (h:vs.length<n):(vs.map V.enc++List.replicate (n - vs.length) [D.int .i64 0,.int .i64 0,.str [],.sl []]).set vs.length (v.enc++List.drop 4 ((vs.map V.enc++List.replicate (n - vs.length) [D.int .i64 0,.int .i64 0,.str [],.sl []])[vs.length]?.getD []))=(vs++[v]).map V.enc++List.replicate (n - (vs++[v]).length) [D.int .i64 0,.int .i64 0,.str [],.sl []]:=by
 obtain ⟨m,hm⟩:∃m,n - vs.length=m+1:=⟨n - vs.length - 1,by omega⟩;have e1:(vs.map V.enc++List.replicate (n - vs.length) [D.int .i64 0,.int .i64 0,.str [],.sl []])[vs.length]? = some [D.int .i64 0,.int .i64 0,.str [],.sl []]:=by
  rw [List.getElem?_append_right (by simp),hm];simp [List.replicate_succ]
 rw [e1,hm,List.set_append,if_neg (by simp)];simp only [g_,L_,List.replicate_succ,List.set_cons_zero,J_,List.drop_succ_cons,List.drop_nil,a_,z_,m_,l_,j_,List.cons_append,r_,k_,d_,A_];rw [show n - (vs.length+(0+1))=m by omega]
theorem ay0 (p:Pg) (u:List V) (hp:X6 p=true) (hw:wtL p.enc<=1048576) (hu:Uni u):Gives Tryz.prog 56 [.agg p.enc,.sl (u.map V.enc)] (grC (p.gr u)):=by
 have hmx:maxLen=9223372036854775807:=rfl;have hul:=hu.le;have hup:=hu.pos;obtain ⟨RES,hRES⟩:∃RES,grC (p.gr u)=RES:=⟨_,rfl⟩;rw [hRES];have hbz:∀y,y∈p.rels.map bt7->y.length=1:=fun y hy=>by obtain ⟨b,_,rfl⟩:=x_.1 hy;rfl
 have hpl:p.rels.length<=8:=by
  unfold X6 at hp;rw [f_,decide_eq_true_eq] at hp;exact hp.1
 refine aE_ Tryz.func56 ?_;refine l7 Tryz.func56 mixed 5 _ _ (by kernel_rfl) ?_;simp only [go_sem,seval,run.eq_1];refine AW.adopt 6 1 118 (by decide) rfl ?_;refine rS_ Tryz.func56 ?_;simp only [go_sem,seval];refine AW.rng p.rels [1,2,30,31] 32 30 (fun L:List Rl=>[(6,.own 1 L.length)]) (fun _ L=>[.box (p.enc.map .d),.grow L.length 1 118 (L.map bt7)]) (fun r L=>p.rels=L++r/\L.all (Rl.gOk u)=true) [] rfl (by simp) ⟨rfl,rfl⟩ A7 (fun i x r L hxi hdr hlt hm hinv hnext=>?_) (fun L hinv=>?_)
 ·obtain ⟨i1,i2⟩:=hinv
  have hxm:=b_ hxi;obtain ⟨z1,z2,z3,z4⟩:=Pg.dims hp hxm;have hLl:L.length<=8:=by have:=congrArg List.length i1;simp at this;omega
  obtain ⟨n,hn⟩:∃n:Nat,x.arity+x.locals=(n:Int):=⟨(x.arity+x.locals).toNat,by omega⟩;have hnn:(x.arity+x.locals).toNat=n:=by omega
  have hcl:=aM8 x.body (by have:=Pg.wt_rels hxm;have:=Rl.wt_body x;omega);rw [Gl.cls_same] at hcl;have hwy:=bh9 u.length n 4096 hul (by omega) (by omega);have hsw:=aO5 (b:=u.length) (L:=4096) (n:=n) hup;have hwr:IntKind.i64.wrap (x.arity+x.locals)=(n:Int):=by rw [hn];exact j6 (by omega) (by omega)
  have hgo:x.gOk u=(decide (x.body.clsS.length<=64) && decide (u.length ^ n<=4096)):=by unfold Rl.gOk Rl.ways;rw [hnn]
  by_cases h64:x.body.clsS.length<=64
  ·rw [if_pos h64] at hcl
   unfold bg0 at hcl;rw [J_,v_] at hcl;by_cases h4:u.length ^ n<=4096
   ·have hg:x.gOk u=true:=by rw [hgo,decide_eq_true h64,decide_eq_true h4];rfl
    have hmn:min (J6 u.length 4096 n 1) (4096+1)<=4096:=by have:=hsw.1.1 h4;omega
    have n1:¬(4096:Int)<((min (J6 u.length 4096 n 1) (4096+1):Nat):Int):=by omega
    generalize (min (J6 u.length 4096 n 1) (4096+1):Nat)=W at *;refine rS_ Tryz.func56 ?_;simp only [go_sem,seval,hlt,j5 hxi]
    repeat' (first
     | (simp (disch:=omega) only [j6])
     | ((first
      | (refine hcl.calls rfl ?_)
      | (refine hwy.calls rfl ?_)
      | (refine ⟨sd,?_⟩))<;>(try simp only [go_sem,seval,hlt,j5 hxi,hwr,n1]))
     | fail)
    refine hnext (L++[x]) _ ⟨by rw [i1];simp,by rw [o_,i2];simp [hg]⟩ (by refine ⟨by simp [mkS,aT2],by simp [mkS,aT2],by simp only [mkS,c_,e_,O.refsLt,C.refsLt,C.refsLt1,l8];first | done | rfl | (simp;done),?_⟩;simp [mkS,Abs.get,C.refsLtT,C.refsLt,C.refsLt1,aT2])
   ·have hg:x.gOk u=false:=by rw [hgo,decide_eq_false h4,Bool.and_false]
    have hmn:4096<min (J6 u.length 4096 n 1) (4096+1):=by
     have:¬J6 u.length 4096 n 1<=4096:=fun h=>h4 (hsw.1.2 h);omega
    have n1:(4096:Int)<((min (J6 u.length 4096 n 1) (4096+1):Nat):Int):=by omega
    rw [Pg.gr_bad hxm hg,I1] at hRES;rw [<-hRES];generalize (min (J6 u.length 4096 n 1) (4096+1):Nat)=W at *;refine rS_ Tryz.func56 ?_;simp only [go_sem,seval,hlt,j5 hxi]
    repeat' (first
     | ((first
      | (refine hcl.calls rfl ?_)
      | (refine hwy.calls rfl ?_))<;>(try simp only [go_sem,seval,hlt,j5 hxi,hwr,n1]))
     | fail)
  ·have hg:x.gOk u=false:=by rw [hgo,decide_eq_false h64,B_]
   rw [if_neg h64] at hcl;unfold bg0 at hcl;rw [Option.getD_none,w_] at hcl;rw [Pg.gr_bad hxm hg,I1] at hRES;rw [<-hRES];refine rS_ Tryz.func56 ?_;simp only [go_sem,seval,hlt,j5 hxi]
   repeat' (first
    | ((refine hcl.calls rfl ?_)<;>(try simp only [go_sem,seval,hlt,j5 hxi]))
    | fail)
 ·obtain ⟨i1,i2⟩:=hinv
  rw [a_] at i1;subst i1;have hgr:=fun hl=>Pg.gr_some i2 hl;refine l7 Tryz.func56 mixed 8 _ _ (by kernel_rfl) ?_;simp only [go_sem,seval,run.eq_1];refine AW.adopt 11 6 101 (by decide) rfl ?_;refine rS_ Tryz.func56 ?_;simp only [go_sem,seval];have hgok:∀x,x∈p.rels->x.gOk u=true:=i_.1 i2;clear i2;generalize hGN:Pg.gnd u p.rels=GN at hgr;refine AW.rng p.rels [1,6,62,63] 64 62 (fun L:List RV=>[(11,.own 2 L.length)]) (fun _ L=>[.box (p.enc.map .d),.grow p.rels.length 1 118 (p.rels.map bt7),.grow L.length 6 101 (L.map rvE)]) (fun r L=>GN=L++Pg.gnd u r/\L.length<=2000) [] rfl (by simp) ⟨hGN.symm,by simp⟩ A7 (fun i x r L hxi hdr hlt hm hinv hnext=>?_) (fun L hinv=>?_)
  ·obtain ⟨i1,i2⟩:=hinv
   have hxm:=b_ hxi;obtain ⟨z1,z2,z3,z4⟩:=Pg.dims hp hxm;obtain ⟨n,hn⟩:∃n:Nat,x.arity+x.locals=(n:Int):=⟨(x.arity+x.locals).toNat,by omega⟩;have hnn:(x.arity+x.locals).toNat=n:=by omega
   have hn12:n<=12:=by omega
   have hwr:IntKind.i64.wrap (x.arity+x.locals)=(n:Int):=by rw [hn];exact j6 (by omega) (by omega)
   have hwy:=bh9 u.length n 4096 hul (by omega) (by omega);have hsw:=aO5 (b:=u.length) (L:=4096) (n:=n) hup;have hgx:=hgok x hxm;have hgo:x.gOk u=(decide (x.body.clsS.length<=64) && decide (u.length ^ n<=4096)):=by unfold Rl.gOk Rl.ways;rw [hnn]
   rw [hgo,f_,decide_eq_true_eq,decide_eq_true_eq] at hgx;obtain ⟨h64,h4⟩:=hgx;have hW:x.ways u=u.length ^ n:=by unfold Rl.ways;rw [hnn]
   have hmn:min (J6 u.length 4096 n 1) (4096+1)=x.ways u:=by rw [hsw.2 h4,hW];omega
   rw [hmn] at hwy;rw [<-hW] at h4;have hbe:(p.rels.map bt7)[i]? = some [.sl (x.body.clsS.map aN5)]:=by rw [s_,hxi];rfl
   have hbm:(p.rels.map bt7).length=p.rels.length:=g_ _;have hcs:∀c,c∈x.body.clsS->∀g,g∈c->g.inst n:=fun c hc g hg=>Gl.inst_sub (Pg.body_inst hp hxm (m:=n) hn.symm).1 g (aG3 hc hg);have hcl:∀c,c∈x.body.clsS->c.length<=60:=fun c hc=>N_ (Gl.clsS_row x.body c hc).1 (Pg.body_inst hp hxm (m:=n) hn.symm).2.2.2.2.2;have hgn:Pg.gnd u (x :: r)=aJ5 u x (x.ways u) 0 x.body.clsS++Pg.gnd u r:=rfl;rw [hgn] at i1;clear hgn hsw hmn hgo hW hgok;have hxar:x.enc=[.str x.name,.int .i64 x.arity,.int .i64 x.locals]++x.body.enc:=by unfold Rl.enc;simp
   generalize hCS:x.body.clsS=CS at *;generalize hWW:x.ways u=W at *;refine rS_ Tryz.func56 ?_;simp only [go_sem,seval,hlt,j5 hxi,hwr,hbm]
   repeat' (first
    | ((refine hwy.calls rfl ?_)<;>(try simp only [go_sem,seval,hlt,j5 hxi,hwr,hbm,j5 hbe]))
    | fail)
   refine AW.rng CS [1,6,13,14,15,62,63,64,81,82] 83 81 (fun L:List RV=>[(11,.own 2 L.length)]) (fun _ L=>[.box (p.enc.map .d),.grow p.rels.length 1 118 (p.rels.map bt7),.grow L.length 6 101 (L.map rvE),.box (x.enc.map .d)]) (fun cs L=>GN=L++(aJ5 u x W ((CS.length - cs.length:Nat):Int) cs++Pg.gnd u r)/\L.length<=2000) L rfl (by simp) ⟨by rw [L_];exact i1,i2⟩ A7 (fun ci c cs L hci hdc hltc hmc hinv hnc=>?_) (fun L hinv=>?_)
   ·obtain ⟨i1,i2⟩:=hinv
    have hcm:=b_ hci;have hdl:=congrArg List.length hdc;simp only [C_,d_] at hdl;have hcs:=hcs c hcm;have hcl:=hcl c hcm;have hcil:ci<CS.length:=(h_.1 hci).1;rw [d_,show CS.length - (cs.length+1)=ci by omega,bk5,j_] at i1;have hnc:=fun (L:List RV) s' (h2:L.length<=2000) (h1:GN=L++(aJ5 u x W ((ci+1:Nat):Int) cs++Pg.gnd u r))=>hnc L s' ⟨by rw [show CS.length - cs.length=ci+1 by omega];exact h1,h2⟩;rw [show ((ci:Int)+1)=((ci+1:Nat):Int) by omega] at i1;generalize hX:aJ5 u x W ((ci+1:Nat):Int) cs++Pg.gnd u r=X at *;refine rS_ Tryz.func56 ?_;simp only [go_sem,seval,hltc,j5 hci,A9];refine AW.lp [1,6,13,14,15,16,17,62,63,64,81,82,83] (fun u:Nat×List RV=>[(18,.d (.int .i64 (u.1:Int))),(11,.own 2 u.2.length)]) (fun _ y=>[.box (p.enc.map .d),.grow p.rels.length 1 118 (p.rels.map bt7),.grow y.2.length 6 101 (y.2.map rvE),.box (x.enc.map .d)]) (fun y=>y.1<=W/\GN=y.2++(ba4 u x (ci:Int) c y.1 (W - y.1)++X)/\y.2.length<=2000) (fun y=>W - y.1) (0,L) ⟨p_ _,i1,i2⟩ A7 ?_;rintro ⟨w,L1⟩ ⟨j1,j2,j3⟩ hnw;dsimp only at j1 j2 j3 hnw |-;have hnw:=fun w' L' s' h=>hnw (w',L') s' h;clear i1 i2;by_cases hwW:w<W
    ·have n1:(w:Int)<(W:Int):=by omega
     have hvl:=Y3 u n w;have hvm:=Y2 hup n w;rw [show W - w=(W - (w+1))+1 by omega,bk4] at j2;have hrk:rvK u x (ci:Int) c w=if ah0 u c (H8 u n w)=true then some (aV8 x (ci:Int) c (H8 u n w)) else none:=by unfold rvK;rw [hnn]
     rw [hrk,j_] at j2;have hng:¬(n:Int)<0:=by omega
     obtain ⟨G,hG⟩:∃G,H8 u n w=G:=⟨_,rfl⟩;rw [hG] at j2 hvl hvm;clear hrk;refine rS_ Tryz.func56 ?_;simp only [go_sem,seval,n1,hng]
     repeat' (first
      | ((refine ⟨sd,?_⟩)<;>(try simp only [go_sem,seval,n1,hng]))
      | fail)
     refine AW.lp [1,6,11,13,14,15,16,17,18,19,62,63,64,81,82,83] (fun v:List V×Nat=>[(21,.d (.int .i64 (v.1.length:Int))),(20,.d (.int .i64 (v.2:Int)))]) (fun _ v=>[.box (p.enc.map .d),.grow p.rels.length 1 118 (p.rels.map bt7),.grow L1.length 6 101 (L1.map rvE),.box (x.enc.map .d),.row 4 66 (v.1.map V.enc++List.replicate (n - v.1.length) [.int .i64 0,.int .i64 0,.str [],.sl []])]) (fun v=>v.1++H8 u (n - v.1.length) v.2=G/\v.1.length<=n/\v.2<=w) (fun v=>n - v.1.length) ([],w) ⟨hG,p_ _,q_ _⟩ A7 ?_;rintro ⟨vs,y⟩ ⟨k1,k2,k3⟩ hnv;dsimp only at k1 k2 k3 hnv |-;have hnv:=fun v' y' s' h=>hnv (v',y') s' h;by_cases hvn:vs.length<n
     ·have n2:(vs.length:Int)<(n:Int):=by omega
      have hm1:y % u.length<u.length:=Nat.mod_lt _ (by omega);obtain ⟨v,hv⟩:∃v,u[y % u.length]? = some v:=⟨_,n_ hm1⟩;have hve:u.getD (y % u.length) .nil=v:=by rw [R_,hv];rfl
      have hvd:(u.map V.enc)[y % u.length]? = some v.enc:=by rw [s_,hv];rfl
      have hml:(u.map V.enc).length=u.length:=g_ _;have hdv:y / u.length<=y:=Nat.div_le_self _ _;have hrm:=bP4 y u.length;have hqd:=bP6 y u.length;have h0:¬(u.length:Int)=0:=by omega
      rw [show n - vs.length=(n - (vs.length+1))+1 by omega] at k1;have hre:H8 u (n - (vs.length+1)+1) y=v :: H8 u (n - (vs.length+1)) (y / u.length):=by rw [<-hve];rfl
      rw [hre] at k1;clear hve hre;generalize y % u.length=ym at *;generalize y / u.length=yq at *;have w1:IntKind.i64.wrap (yq:Int)=(yq:Int):=j6 (by omega) (by omega);have w2:IntKind.i64.wrap ((vs.length:Int)+1)=(vs.length:Int)+1:=j6 (by omega) (by omega);have n3:(ym:Int)<(u.length:Int):=by omega
      refine rS_ Tryz.func56 ?_;simp only [go_sem,seval,n2,j5 hvd,hrm,hqd,h0,w1,w2,n3,hml]
      repeat' (first
       | ((refine ⟨sd,?_⟩)<;>(try simp only [go_sem,seval,n2,j5 hvd,hrm,hqd,h0,w1,w2,n3,hml]))
       | fail)
      rw [bH9 vs v hvn];refine hnv (vs++[v]) yq _ ⟨by rw [<-k1];simp,by simp;omega,by omega⟩ (by simp;omega) A7
     ·have n2:¬(vs.length:Int)<(n:Int):=by omega
      rw [show n - vs.length=0 by omega] at k1 |-;have e0:H8 u 0 y=[]:=rfl;rw [e0,a_] at k1;subst k1;clear hnv;refine l7 Tryz.func56 mixed 6 _ _ (by kernel_rfl) ?_;simp only [go_sem,seval,run.eq_1,n2];refine AW.freeze 19 4 rfl rfl (by simp;omega) ?_;try rw [List.replicate_zero,a_]
      refine AW.drawA mixed #[true,true,true,true,true,true,true,true,true,true,true,false] [(3,.box (x.enc.map .d))] [] [0,1,2,3,4,7,8,10,5,6,9] [11] (some (10,22,101,[.string ⟨#[]⟩,.slice none 0 0,.int .i64 0,.slice none 0 0,.slice none 0 0,.slice none 0 0])) (by kernel_rfl) bi4 (by simp [x8]) ?_;simp only [go_sem,seval];refine ⟨z1,by omega,?_⟩;refine AW.adoptGB 5 4 2 43 (by decide) rfl rfl ?_;refine AW.adoptGB 5 5 2 43 (by decide) rfl rfl ?_;refine rS_ Tryz.func56 ?_;simp only [go_sem,seval];have hfa:=az2 u vs c;clear hvm;refine AW.rng c [1,6,11,13,14,15,16,17,18,19,22,62,63,64,81,82,83,125,126] 127 125 (fun a:Bool×List FcV×List FcV=>[(23,.d (.bool a.1))]) (fun _ a=>[.box (p.enc.map .d),.grow p.rels.length 1 118 (p.rels.map bt7),.grow L1.length 6 101 (L1.map rvE),.box (x.enc.map .d),.dead,.box [.d (.str x.name),.d (.sl ((vs.take x.arity.toNat).map V.enc)),.d (.int .i64 ci),.d (.sl (vs.map V.enc)),.own 6 a.2.1.length,.own 7 a.2.2.length],.grow a.2.1.length 2 43 (a.2.1.map fcE),.grow a.2.2.length 2 43 (a.2.2.map fcE)]) (fun s a=>∃d,c=d++s/\a.2.1.length<=d.length/\a.2.2.length<=d.length/\(a.1=true->a.2.1=C9 (l9 vs) d/\a.2.2=z8 (l9 vs) d/\d.all (okG u vs)=true)/\(a.1=false->c.all (okG u vs)=false)) (true,[],[]) rfl (by simp) ⟨[],rfl,by simp,by simp,fun _=>⟨rfl,rfl,rfl⟩,fun h=>by cases h⟩ A7 (fun gi g s a hgi hdg hltg hmg hinv hng2=>?_) (fun a hinv=>?_)
      ·obtain ⟨fine,P,N⟩:=a
       obtain ⟨d,d1,d2,d3,d4,d5⟩:=hinv;dsimp only at d2 d3 d4 d5 hng2 |-;have hng2:=fun b P N s' h=>hng2 (b,P,N) s' h;cases fine with
       | false =>
        have hff:=d5 rfl;rw [hfa,hff,if_neg (by simp),Option.toList_none,r_] at j2;have hn5:¬(2000:Int)<(L1.length:Int):=by omega
        have w7:IntKind.i64.wrap ((w:Int)+1)=((w+1:Nat):Int):=by rw [j6 (by omega) (by omega)];omega
        refine rS_ Tryz.func56 ?_;simp only [go_sem,seval,hn5,w7,hltg,j5 hgi];refine hnw (w+1) L1 _ ⟨by omega,j2,j3⟩ (by dsimp only;omega) A7
       | true =>
        obtain ⟨e1,e2,e3⟩:=d4 rfl;clear d4 d5;have hgm:=b_ hgi;have hgn:=hcs g hgm;rw [<-hvl] at hgn;have hok:(d++[g]).all (okG u vs)=okG u vs g:=by rw [o_,e3];simp
        have hbad:okG u vs g=false->c.all (okG u vs)=false:=fun h=>by rw [d1,o_,c_,h];simp
        have hd60:d.length<=60:=by have:=congrArg List.length d1;simp at this;omega
        have hP60:P.length<=60:=by omega
        have hN60:N.length<=60:=by omega
        have hps:=aw5 (l9 vs) d g;have hns:=aw6 (l9 vs) d g;by_cases h9:g.kind=9
        ·have hcf:=aw7 g vs hgn
         have hog:okG u vs g=aF1 u (g.callV (l9 vs)):=by unfold okG;rw [if_pos h9]
         have hin:=ai1 u (g.callV (l9 vs)).2 (by omega);rw [show ((g.callV (l9 vs)).2.all fun t=>decide (t∈u))=okG u vs g from hog.symm] at hin;have hFe:=o6 (g.callV (l9 vs));rw [if_pos h9,<-e1] at hps;rw [if_neg (by omega),a_,<-e2] at hns;change Gives _ _ _ (.d (.agg (fcE (g.callV (l9 vs))))) at hcf
         generalize g.callV (l9 vs)=F at *;generalize okG u vs g=ok at *;refine rS_ Tryz.func56 ?_;simp only [go_sem,seval,hltg,j5 hgi,h9]
         repeat' (first
          | (simp (disch:=omega) only [j6])
          | ((first
           | (refine hcf.calls rfl ?_)
           | (refine hin.calls rfl ?_)
           | (refine ⟨sd,?_⟩))<;>(try simp only [go_sem,seval,hltg,j5 hgi,h9,hFe]))
          | fail)
         refine hng2 ok (P++[F]) N _ ⟨d++[g],by rw [d1];simp,by simp;omega,by simp;omega,fun h=>⟨hps.symm,hns.symm,hok.trans h⟩,hbad⟩ (by refine ⟨by simp [mkS,hFe],by simp [mkS,hFe],by simp only [mkS,c_,e_,O.refsLt,C.refsLt,C.refsLt1,l8];first | done | rfl | (simp;done),?_⟩;simp [mkS,Abs.get,C.refsLtT,C.refsLt,C.refsLt1,hFe])
        ·rw [if_neg h9,a_,<-e1] at hps
         by_cases h10:g.kind=10
         ·obtain ⟨y,hy⟩:=Gl.shape_not hgn.1 h10
          have hcf:=aw7 y vs (Gl.inst_sub hgn y (bG3 hy));have hog:okG u vs g=aF1 u (y.callV (l9 vs)):=by unfold okG;rw [if_neg h9,if_pos h10,hy];rfl
          have hin:=ai1 u (y.callV (l9 vs)).2 (by omega);rw [show ((y.callV (l9 vs)).2.all fun t=>decide (t∈u))=okG u vs g from hog.symm] at hin;have hFe:=o6 (y.callV (l9 vs));rw [if_pos h10,hy,<-e2] at hns;change Gives _ _ _ (.d (.agg (fcE (y.callV (l9 vs))))) at hcf
          change z8 (l9 vs) (d++[g])=N++[y.callV (l9 vs)] at hns
          generalize y.callV (l9 vs)=F at *;generalize okG u vs g=ok at *;have hy0:g.goals[0]? = some y:=by rw [hy];rfl
          have hy1:(0:Int)<(g.goals.length:Int):=by rw [hy];simp
          refine rS_ Tryz.func56 ?_;simp only [go_sem,seval,hltg,j5 hgi,h9,h10,j5 hy0,hy1]
          repeat' (first
           | (simp (disch:=omega) only [j6])
           | ((first
            | (refine hcf.calls rfl ?_)
            | (refine hin.calls rfl ?_)
            | (refine ⟨sd,?_⟩))<;>(try simp only [go_sem,seval,hltg,j5 hgi,h9,h10,hFe,j5 hy0,hy1]))
           | fail)
          refine hng2 ok P (N++[F]) _ ⟨d++[g],by rw [d1];simp,by simp;omega,by simp;omega,fun h=>⟨hps.symm,hns.symm,hok.trans h⟩,hbad⟩ (by refine ⟨by simp [mkS,hFe],by simp [mkS,hFe],by simp only [mkS,c_,e_,O.refsLt,C.refsLt,C.refsLt1,l8];first | done | rfl | (simp;done),?_⟩;simp [mkS,Abs.get,C.refsLtT,C.refsLt,C.refsLt1,hFe])
         ·have htw:=aN8 g vs hgn
          have hog:okG u vs g=g.testV (l9 vs):=by unfold okG;rw [if_neg h9,if_neg h10]
          rw [<-hog] at htw;rw [if_neg h10,a_,<-e2] at hns;generalize okG u vs g=ok at *;refine rS_ Tryz.func56 ?_;simp only [go_sem,seval,hltg,j5 hgi,h9,h10]
          repeat' (first
           | (simp (disch:=omega) only [j6])
           | ((refine htw.calls rfl ?_)<;>(try simp only [go_sem,seval,hltg,j5 hgi,h9,h10]))
           | fail)
          refine hng2 ok P N _ ⟨d++[g],by rw [d1];simp,by simp;omega,by simp;omega,fun h=>⟨hps.symm,hns.symm,hok.trans h⟩,hbad⟩ A7
      ·obtain ⟨fine,P,N⟩:=a
       obtain ⟨d,d1,d2,d3,d4,d5⟩:=hinv;dsimp only at d2 d3 d4 d5 |-;rw [a_] at d1;subst d1;cases fine with
       | false =>
        have hff:=d5 rfl;rw [hfa,hff,if_neg (by simp),Option.toList_none,r_] at j2;have hn5:¬(2000:Int)<(L1.length:Int):=by omega
        have w7:IntKind.i64.wrap ((w:Int)+1)=((w+1:Nat):Int):=by rw [j6 (by omega) (by omega)];omega
        refine rS_ Tryz.func56 ?_;simp only [go_sem,seval,hn5,w7,e0];refine hnw (w+1) L1 _ ⟨by omega,j2,j3⟩ (by dsimp only;omega) A7
       | true =>
        obtain ⟨e1,e2,e3⟩:=d4 rfl;subst e1 e2;rw [hfa,e3,if_pos rfl,Option.toList_some] at j2;have hrE:=A8 (aV8 x (ci:Int) c vs);unfold aV8 at hrE;dsimp only at hrE;have hrF:aV8 x (ci:Int) c vs=⟨(x.name,vs.take x.arity.toNat),(ci:Int),vs,C9 (l9 vs) c,z8 (l9 vs) c⟩:=rfl;rw [hrF] at j2;generalize C9 (l9 vs) c=P at *;generalize z8 (l9 vs) c=N at *;generalize (RV.mk (x.name,vs.take x.arity.toNat) (ci:Int) vs P N)=RR at *;have w7:IntKind.i64.wrap ((w:Int)+1)=((w+1:Nat):Int):=by rw [j6 (by omega) (by omega)];omega
        have hrl:(L1.map rvE).length=L1.length:=g_ _;have hj2:GN=(L1++[RR])++(ba4 u x (ci:Int) c (w+1) (W - (w+1))++X):=by rw [j2];simp
        by_cases h20:L1.length<2000
        ·have hn5:¬(2000:Int)<(L1.length:Int)+1:=by omega
         refine rS_ Tryz.func56 ?_;simp only [go_sem,seval,hn5,w7,hrl]
         repeat' (first
          | ((refine ⟨sd,?_⟩)<;>(try simp only [go_sem,seval,hn5,w7,hrl]))
          | fail)
         refine hnw (w+1) (L1++[RR]) _ ⟨by omega,hj2,by simp;omega⟩ (by dsimp only;omega) (by refine ⟨by simp [mkS,hrE],by simp [mkS,hrE],by simp only [mkS,c_,e_,O.refsLt,C.refsLt,C.refsLt1,l8];first | done | rfl | (simp;done),?_⟩;simp [mkS,Abs.get,C.refsLtT,C.refsLt,C.refsLt1,hrE])
        ·have hn5:(2000:Int)<(L1.length:Int)+1:=by omega
         rw [Pg.gr_none (hGN.trans hj2) (by simp;omega),I1] at hRES;rw [<-hRES];refine rS_ Tryz.func56 ?_;simp only [go_sem,seval,hn5,w7,hrl]
         repeat' (first
          | ((refine ⟨sd,?_⟩)<;>(try simp only [go_sem,seval,hn5,w7,hrl]))
          | fail)
         all_goals omega
    ·have n1:¬(w:Int)<(W:Int):=by omega
     rw [show W - w=0 by omega] at j2;have e0:ba4 u x (ci:Int) c w 0=[]:=rfl;rw [e0,r_] at j2;refine rS_ Tryz.func56 ?_;simp only [go_sem,seval,n1]
     repeat' (first
      | (simp (disch:=omega) only [j6])
      | (refine hnc L1 _ j3 j2 A7)
      | fail)
     all_goals refine hnc L1 _ j3 (by rw [hX];exact j2) A7
   ·obtain ⟨i1,i2⟩:=hinv
    have e0:aJ5 u x W ((CS.length - ([]:List (List Gl)).length:Nat):Int) []=[]:=rfl;rw [e0,r_] at i1;refine rS_ Tryz.func56 ?_;simp only [go_sem,seval]
    repeat' (first
     | (simp (disch:=omega) only [j6])
     | fail)
    all_goals refine hnext L _ ⟨i1,i2⟩ A7
  ·obtain ⟨i1,i2⟩:=hinv
   have e0:Pg.gnd u []=[]:=rfl;rw [e0,a_] at i1;subst i1;rw [hgr i2,ai3] at hRES;rw [<-hRES];refine rS_ Tryz.func56 ?_;simp only [go_sem,seval]
theorem aE7 (l:List Tm) (hw:wtR (l.map Tm.enc)<=2000000):Gives Tryz.prog 51 [.sl (l.map Tm.enc)] (.d (.sl (l.map Tm.enc))):=by
 have h:=am9 l hw;refine ACalls.frozen (ds:=[.sl (l.map Tm.enc)]) (m:=1) h (fun c H' ⟨h1,e,B,h2⟩ _=>?_);subst h1 h2;rfl
theorem U8 (l:List V) (hw:wtR (l.map V.enc)<=2000000):Gives Tryz.prog 51 [.sl (l.map V.enc)] (.d (.sl (l.map V.enc))):=by
 have h:=aE7 (l.map V.tm) (by rw [K8];exact hw);rw [K8] at h;exact h
theorem aL1 (l:List FcV) (hl:l.length<=2000000) (hw:∀x,x∈l->wtR (x.2.map V.enc)<=2000000):Gives Tryz.prog 75 [.sl (l.map fcE)] (.d (.sl (l.map fcE))):=by
 have hmx:maxLen=9223372036854775807:=rfl;refine aE_ Tryz.func75 ?_;refine rS_ Tryz.func75 ?_;simp only [go_sem,seval];refine AW.adopt 3 2 43 (by decide) rfl ?_;refine AW.rng l [7,8] 9 7 (fun p:List FcV=>[(3,.own 0 p.length)]) (fun _ p=>[.grow p.length 2 43 (p.map fcE)]) (fun r p=>p++r=l) [] rfl (by simp) rfl A7 (fun i x r p hxi hdr hlt hm hinv hnext=>?_) (fun p hinv=>?_)
 ·have hxm:=b_ hxi
  have hc:=U8 x.2 (hw x hxm);have hpl:p.length+(r.length+1)=l.length:=by rw [<-hinv];simp
  have hxe:=o6 x;generalize hX:fcE x=X at *;subst hxe;refine l7 Tryz.func75 mixed 9 _ _ (by kernel_rfl) ?_;simp only [go_sem,seval,run.eq_1,hlt,j5 hxi,hX];refine AW.drawA mixed #[true,true,true,true,true,true,true,true,true,false] [(1,.box [.d (.str x.1),.d (.sl (x.2.map V.enc))])] [] [0,1,2,3,4,5,6,7,8] [9] none (by kernel_rfl) trivial (by simp [x8]) ?_;simp only [go_sem,seval]
  repeat' (first
   | ((first
    | (refine hc.calls rfl ?_)
    | (refine ⟨sd,?_⟩))<;>(try simp only [go_sem,seval]))
   | fail)
  refine rS_ Tryz.func75 ?_;simp only [go_sem,seval]
  repeat' (first
   | (simp (disch:=omega) only [j6])
   | fail)
  refine hnext (p++[x]) _ (by simp [<-hinv]) (by refine ⟨by simp [mkS,hX],by simp [mkS,hX],by simp only [mkS,c_,e_,O.refsLt,C.refsLt,C.refsLt1,l8];first | done | rfl | (simp;done),?_⟩;simp [mkS,Abs.get,C.refsLtT,C.refsLt,C.refsLt1])
 ·simp only [a_] at hinv
  subst hinv;refine rS_ Tryz.func75 ?_;simp only [go_sem,seval]
theorem bR2 {c:List Gl} {n:Nat} (h:∀g,g∈c->g.inst n) (f:Int->V):∀x,x∈C9 f c->x.2.length<=4:=fun x hx=>by
 unfold C9 at hx;obtain ⟨g,hg,rfl⟩:=x_.1 hx;rw [List.mem_filter] at hg;have:=(Gl.shape_len (h g hg.1).1).1;simp [Gl.callV];exact this
theorem bR5 {c:List Gl} {n:Nat} (h:∀g,g∈c->g.inst n) (f:Int->V):∀x,x∈z8 f c->x.2.length<=4:=fun x hx=>by
 unfold z8 at hx;obtain ⟨y,hy,rfl⟩:=x_.1 hx;obtain ⟨g,hg,hgy⟩:=List.mem_filterMap.1 hy;rw [List.mem_filter] at hg;have hym:y∈g.goals:=by cases hq:g.goals with | nil=>rw [hq] at hgy;cases hgy | cons a b=>rw [hq] at hgy;cases hgy;simp
 have:=(Gl.shape_len (Gl.inst_goals (h g hg.1) y hym).1).1;simp [Gl.callV];exact this
theorem uniwts {u:List V} (hu:Uni u) (l:List V) (hl:∀v,v∈l->v∈u) (hn:l.length<=12):wtR (l.map V.enc)<=2000000:=by
 have:=aP6 l (i_.2 fun v hv=>hu.ok v (hl v hv));omega
theorem bp0 {u:List V} (hu:Uni u) {fs:List FcV} (h:fs.all (aF1 u)=true) (hl:∀x,x∈fs->x.2.length<=4):∀x,x∈fs->wtR (x.2.map V.enc)<=2000000:=fun x hx=>by
 have h1:=i_.1 h x hx;unfold aF1 at h1;have h2:=hl x hx;exact uniwts hu _ (fun v hv=>by simpa using i_.1 h1 v hv) (by omega)
def Over (G L R:List RV):Prop:=(L.length<=2000/\G=L++R)\/(L.length=2001/\∃X,G=L++X)
theorem Over.le {G L R:List RV} (h:Over G L R):L.length<=2001:=by rcases h with h | h<;>omega
theorem Over.full {G L R R':List RV} (h:Over G L R) (hl:¬L.length<=2000):Over G L R':=by
 rcases h with h | h
 ·omega
 ·exact Or.inr h
theorem Over.step {G L R R':List RV} {o:Option RV} (h:Over G L R) (hl:L.length<=2000) (hr:R=o.toList++R'):Over G (L++o.toList) R':=by
 rcases h with ⟨h1,h2⟩ | h
 ·subst hr
  have e:G=(L++o.toList)++R':=by rw [h2,j_]
  have h3:(L++o.toList).length<=2001:=by cases o<;>simp<;>omega
  by_cases h4:(L++o.toList).length<=2000
  ·exact Or.inl ⟨h4,e⟩
  ·exact Or.inr ⟨by omega,_,e⟩
 ·omega
def vrs (n:Nat):List (List D):=x9 ((List.range n).map fun i:Nat=>(i:Int))
theorem bN9:vrs 0=[]:=rfl
theorem bN8 (n:Nat):vrs (n+1)=vrs n++[[.int .i64 (n:Int)]]:=by simp [vrs,x9,List.range_succ]
@[go_sem] theorem bX9 (n:Nat):(vrs n).length=n:=by simp [vrs,x9]
theorem ax5 (p:Pg) (u:List V) (hp:X6 p=true) (hw:wtL p.enc<=1048576) (hu:Uni u) (hua:Gives Tryz.prog 69 [.sl (u.map V.enc)] (.d (.bool true))):Gives Tryz.prog 44 [.agg p.enc,.sl (u.map V.enc)] (grC (p.gr u)):=by
 have hmx:maxLen=9223372036854775807:=rfl;have hul:=hu.le;have hup:=hu.pos;have ha:=K5 p (by omega);rw [hp] at ha;have hml:(u.map V.enc).length=u.length:=g_ _;obtain ⟨RES,hRES⟩:∃RES,grC (p.gr u)=RES:=⟨_,rfl⟩;rw [hRES];have hpl:p.rels.length<=8:=by
  unfold X6 at hp;rw [f_,decide_eq_true_eq] at hp;exact hp.1
 refine aE_ Tryz.func44 ?_;refine rS_ Tryz.func44 ?_;simp only [go_sem,seval]
 repeat' (first
  | ((first
   | (refine ha.calls rfl ?_)
   | (refine hua.calls rfl ?_))<;>(try simp only [go_sem,seval]))
  | fail)
 obtain ⟨GN,hGN⟩:∃GN,Pg.gnd u p.rels=GN:=⟨_,rfl⟩;refine AW.adopt 6 6 101 (by decide) rfl ?_;refine AW.rng p.rels [1,29,30] 31 29 (fun L:List RV=>[(6,.own 1 L.length)]) (fun _ L=>[.box (p.enc.map .d),.grow L.length 6 101 (L.map rvE)]) (fun r L=>(∃d,p.rels=d++r/\d.all (Rl.gOk u)=true)/\Over GN L (Pg.gnd u r)) [] rfl (by simp) ⟨⟨[],rfl,rfl⟩,Or.inl ⟨by simp,hGN.symm⟩⟩ A7 (fun i x r L hxi hdr hlt hm hinv hnext=>?_) (fun L hinv=>?_)
 ·obtain ⟨⟨dn,i0,i1⟩,i2⟩:=hinv
  have hxm:=b_ hxi;obtain ⟨z1,z2,z3,z4⟩:=Pg.dims hp hxm;obtain ⟨n,hn⟩:∃n:Nat,x.arity+x.locals=(n:Int):=⟨(x.arity+x.locals).toNat,by omega⟩;have hnn:(x.arity+x.locals).toNat=n:=by omega
  have hn12:n<=12:=by omega
  have hL1:=i2.le;have hwr:IntKind.i64.wrap (x.arity+x.locals)=(n:Int):=by rw [hn];exact j6 (by omega) (by omega)
  obtain ⟨hbi,_,_,_,_,hbc⟩:=Pg.body_inst hp hxm (m:=n) hn.symm;have hbg:aa4 x.body=true:=by simp only [aa4,f_,decide_eq_true_eq,aa4];exact ⟨by omega,hbi.1⟩
  have hcl:=aD7 x.body (by have:=Pg.wt_rels hxm;have:=Rl.wt_body x;omega);have hwy:=bd7 u.length n 4096 hul (by omega) (by omega);have hsw:=aO5 (b:=u.length) (L:=4096) (n:=n) hup;have hgo:x.gOk u=(decide (x.body.clsS.length<=64) && decide (u.length ^ n<=4096)):=by unfold Rl.gOk Rl.ways;rw [hnn]
  have hW:x.ways u=u.length ^ n:=by unfold Rl.ways;rw [hnn]
  have hxar:x.enc=[.str x.name,.int .i64 x.arity,.int .i64 x.locals]++x.body.enc:=by unfold Rl.enc;simp
  refine l7 Tryz.func44 mixed 12 _ _ (by kernel_rfl) ?_;simp only [go_sem,seval,run.eq_1,hlt,j5 hxi];refine AW.adopt 9 1 3 (by decide) rfl ?_;refine l7 Tryz.func44 mixed 3 _ _ (by kernel_rfl) ?_;simp only [go_sem,seval,run.eq_1];refine AW.lp [1,6,8,29,30,31] (fun y:Nat=>[(10,.d (.int .i64 (y:Int))),(9,.own 3 y)]) (fun _ y=>[.box (p.enc.map .d),.grow L.length 6 101 (L.map rvE),.box (x.enc.map .d),.grow y 1 3 (vrs y)]) (fun y=>y<=n) (fun y=>n - y) 0 (p_ _) (by refine ⟨by simp [mkS,bN9],by simp [mkS,bN9],by simp only [mkS,c_,e_,O.refsLt,C.refsLt,C.refsLt1,l8];first | done | rfl | (simp;done),?_⟩;simp [mkS,Abs.get,C.refsLtT,C.refsLt,C.refsLt1]) ?_;intro y hy hny;by_cases hyn:y<n
  ·have n1:(y:Int)<(n:Int):=by omega
   have w1:IntKind.i64.wrap ((y:Int)+1)=((y+1:Nat):Int):=by rw [j6 (by omega) (by omega)];omega
   refine rS_ Tryz.func44 ?_;simp only [go_sem,seval,hwr,n1,w1]
   repeat' (first
    | ((refine ⟨sd,?_⟩)<;>(try simp only [go_sem,seval,hwr,n1,w1]))
    | fail)
   refine hny (y+1) _ (by omega) (by omega) (by refine ⟨by simp [mkS,bN8],by simp [mkS,bN8],by simp only [mkS,c_,e_,O.refsLt,C.refsLt,C.refsLt1,l8];first | done | rfl | (simp;done),?_⟩;simp [mkS,Abs.get,C.refsLtT,C.refsLt,C.refsLt1])
  have hyy:y=n:=by omega
  subst hyy;clear hny;have n1:¬(y:Int)<(y:Int):=by omega
  refine l7 Tryz.func44 mixed 6 _ _ (by kernel_rfl) ?_;simp only [go_sem,seval,run.eq_1,hwr,n1];refine AW.readG 9 3 rfl rfl ?_;by_cases h64:x.body.clsS.length<=64
  ·rw [if_pos ⟨hbg,h64⟩] at hcl
   unfold bg0 at hcl;rw [J_,v_] at hcl;by_cases h4:u.length ^ y<=4096
   ·have hg : x.gOk u=true:=by rw [hgo,decide_eq_true h64,decide_eq_true h4];rfl
    rw [hsw.2 h4,<-hW] at hwy;rw [<-hW] at h4;have hcs:∀c,c∈x.body.clsS->∀g,g∈c->g.inst y:=fun c hc g hg=>Gl.inst_sub hbi g (aG3 hc hg);have hcn:∀c,c∈x.body.clsS->c.length<=60:=fun c hc=>N_ (Gl.clsS_row x.body c hc).1 hbc;have hgn:Pg.gnd u (x :: r)=aJ5 u x (x.ways u) 0 x.body.clsS++Pg.gnd u r:=rfl;rw [hgn] at i2;clear hgn hsw hgo hW hbg;have hnext:=fun (L:List RV) s' (h:Over GN L (Pg.gnd u r))=>hnext L s' ⟨⟨dn++[x],by rw [i0];simp,by rw [o_,i1];simp [hg]⟩,h⟩;generalize hCS:x.body.clsS=CS at *;generalize hWW:x.ways u=W at *;have n2:¬(4096:Int)<(W:Int):=by omega
    refine rS_ Tryz.func44 ?_;simp only [go_sem,seval,n2]
    repeat' (first
     | ((first
      | (refine hcl.calls rfl ?_)
      | (refine hwy.calls rfl ?_))<;>(try simp only [go_sem,seval,n2]))
     | fail)
    refine AW.rng CS [1,8,9,13,29,30,31,66,67] 68 66 (fun L:List RV=>[(6,.own 1 L.length)]) (fun _ L=>[.box (p.enc.map .d),.grow L.length 6 101 (L.map rvE),.box (x.enc.map .d),.grow y 1 3 (vrs y)]) (fun cs L=>Over GN L (aJ5 u x W ((CS.length - cs.length:Nat):Int) cs++Pg.gnd u r)) L rfl (by simp) (by rw [L_];exact i2) A7 (fun ci c cs L hci hdc hltc hmc hinv hnc=>?_) (fun L hinv=>?_)
    ·have hcm:=b_ hci
     have hdl:=congrArg List.length hdc;simp only [C_,d_] at hdl;have hcs:=hcs c hcm;have hcn:=hcn c hcm;have hcil:ci<CS.length:=(h_.1 hci).1;rw [d_,show CS.length - (cs.length+1)=ci by omega,bk5,j_] at hinv;have hnc:=fun (L:List RV) s' (h1:Over GN L (aJ5 u x W ((ci+1:Nat):Int) cs++Pg.gnd u r))=>hnc L s' (by rw [show CS.length - cs.length=ci+1 by omega];exact h1);rw [show ((ci:Int)+1)=((ci+1:Nat):Int) by omega] at hinv;generalize hX:aJ5 u x W ((ci+1:Nat):Int) cs++Pg.gnd u r=X at *;refine rS_ Tryz.func44 ?_;simp only [go_sem,seval,hltc,j5 hci,A9];refine AW.lp [1,8,9,13,14,15,29,30,31,66,67,68] (fun q:Nat×List RV=>[(16,.d (.int .i64 (q.1:Int))),(6,.own 1 q.2.length)]) (fun _ q=>[.box (p.enc.map .d),.grow q.2.length 6 101 (q.2.map rvE),.box (x.enc.map .d),.grow y 1 3 (vrs y)]) (fun q=>q.1<=W/\Over GN q.2 (ba4 u x (ci:Int) c q.1 (W - q.1)++X)) (fun q=>W - q.1) (0,L) ⟨p_ _,hinv⟩ A7 ?_;rintro ⟨w,L1⟩ ⟨j1,j2⟩ hnw;dsimp only at j1 j2 hnw |-;have hnw:=fun w' L' s' h=>hnw (w',L') s' h;have hL2:=j2.le;by_cases hwW:w<W
     ·have n3:(w:Int)<(W:Int):=by omega
      by_cases hw2:L1.length<=2000
      ·have n4:(L1.length:Int)<=2000:=by omega
       have hvl:=Y3 u y w;have hvm:=Y2 hup y w;rw [show W - w=(W - (w+1))+1 by omega,bk4,j_] at j2;have hrk:rvK u x (ci:Int) c w=if ah0 u c (H8 u y w)=true then some (aV8 x (ci:Int) c (H8 u y w)) else none:=by unfold rvK;rw [hnn]
       have hva:Gives Tryz.prog 73 [.sl (vrs y),.sl (u.map V.enc),.int .i64 w] (.d (.sl (bdD (H8 u y w)))):=aL2 u y w hup (by omega) (by omega) (by omega);have w7:IntKind.i64.wrap ((w:Int)+1)=((w+1:Nat):Int):=by rw [j6 (by omega) (by omega)];omega
       generalize H8 u y w=vs at *;have hru:=bd1 x (ci:Int) c vs (by rw [hvl];exact hcs) (by omega) z1 z3 (by omega) (by omega);rw [<-bG6] at hru;have hre:∀d,(aV8 x (ci:Int) d vs).ru.enc=rvE (aV8 x (ci:Int) d vs):=fun d=>rfl;rw [hre,A8] at hru;unfold ah0 at hrk;cases hh:F5 (l9 vs) c with
       | false =>
        rw [hh] at hru hrk;rw [hrk] at j2;refine l7 Tryz.func44 mixed 8 _ _ (by kernel_rfl) ?_;simp only [go_sem,seval,run.eq_1,n3,n4];refine AW.drawA mixed #[true,true,true,true,true,true,true,true,true,true,true,true,false,false] [(2,.box (x.enc.map .d))] [] [0,1,2,3,4,5,11,6,7,8,9,10] [12,13] (some (11,17,101,[.string ⟨#[]⟩,.slice none 0 0,.int .i64 0,.slice none 0 0,.slice none 0 0,.slice none 0 0])) (by kernel_rfl) bi4 (by simp [x8]) ?_;simp only [go_sem,seval]
        repeat' (first
         | ((first
          | (refine hva.calls rfl ?_)
          | (refine hru.calls rfl ?_))<;>(try simp only [go_sem,seval]))
         | fail)
        refine rS_ Tryz.func44 ?_;simp only [go_sem,seval]
        repeat' (first
         | (simp (disch:=omega) only [j6])
         | fail)
        refine hnw (w+1) L1 _ ⟨by omega,j2⟩ (by dsimp only;omega) A7
       | true =>
        have hpre:=(aB3 hh).1;rw [hh,hpre] at hru;rw [hh,t_] at hrk;have hiP:=am7 (C9 (l9 vs) c) u (by omega);have hiN:=am7 (z8 (l9 vs) c) u (by omega);have hrF:aV8 x (ci:Int) c vs=⟨(x.name,vs.take x.arity.toNat),(ci:Int),vs,C9 (l9 vs) c,z8 (l9 vs) c⟩:=rfl;have hpl:=bR2 hcs (l9 vs);have hnl:=bR5 hcs (l9 vs);rw [hrF] at hru hrk;dsimp only at hru;have hP1:=al4 (l9 vs) c;have hN1:=aB5 (l9 vs) c;generalize C9 (l9 vs) c=P at *;generalize z8 (l9 vs) c=N at *;by_cases hin:(P.all (aF1 u) && N.all (aF1 u))=true
        ·rw [hin,if_pos rfl] at hrk
         rw [hrk] at j2;rw [f_] at hin;rw [hin.1] at hiP;rw [hin.2] at hiN;have hcP:=aL1 P (by omega) (bp0 hu hin.1 hpl);have hcN:=aL1 N (by omega) (bp0 hu hin.2 hnl);have hcV:=U8 vs (uniwts hu vs hvm (by omega));have hcA:=U8 (vs.take x.arity.toNat) (uniwts hu _ (fun v hv=>hvm v (F_ hv)) (by simp;omega));have hrE:=A8 (RV.mk (x.name,vs.take x.arity.toNat) (ci:Int) vs P N);dsimp only at hrE;have hj2:Over GN (L1++[RV.mk (x.name,vs.take x.arity.toNat) (ci:Int) vs P N]) (ba4 u x (ci:Int) c (w+1) (W - (w+1))++X):=j2.step (o:=some _) hw2 rfl;generalize (RV.mk (x.name,vs.take x.arity.toNat) (ci:Int) vs P N)=RR at *;refine l7 Tryz.func44 mixed 8 _ _ (by kernel_rfl) ?_;simp only [go_sem,seval,run.eq_1,n3,n4];refine AW.drawA mixed #[true,true,true,true,true,true,true,true,true,true,true,true,false,false] [(2,.box (x.enc.map .d))] [] [0,1,2,3,4,5,11,6,7,8,9,10] [12,13] (some (11,17,101,[.string ⟨#[]⟩,.slice none 0 0,.int .i64 0,.slice none 0 0,.slice none 0 0,.slice none 0 0])) (by kernel_rfl) bi4 (by simp [x8]) ?_;simp only [go_sem,seval]
         repeat' (first
          | ((first
           | (refine hva.calls rfl ?_)
           | (refine hru.calls rfl ?_))<;>(try simp only [go_sem,seval]))
          | fail)
         refine rS_ Tryz.func44 ?_;simp only [go_sem,seval]
         repeat' (first
          | ((first
           | (refine hiP.calls rfl ?_)
           | (refine hiN.calls rfl ?_)
           | (refine hcP.calls rfl ?_)
           | (refine hcN.calls rfl ?_)
           | (refine hcV.calls rfl ?_)
           | (refine hcA.calls rfl ?_)
           | (refine ⟨sd,?_⟩))<;>(try simp only [go_sem,seval,w7]))
          | fail)
         refine hnw (w+1) (L1++[RR]) _ ⟨by omega,hj2⟩ (by dsimp only;omega) (by refine ⟨by simp [mkS,hrE],by simp [mkS,hrE],by simp only [mkS,c_,e_,O.refsLt,C.refsLt,C.refsLt1,l8];first | done | rfl | (simp;done),?_⟩;simp [mkS,Abs.get,C.refsLtT,C.refsLt,C.refsLt1,hrE])
        ·rw [if_neg hin] at hrk
         rw [hrk] at j2;cases hp1:P.all (aF1 u) with
         | false =>
          rw [hp1] at hiP;refine l7 Tryz.func44 mixed 8 _ _ (by kernel_rfl) ?_;simp only [go_sem,seval,run.eq_1,n3,n4];refine AW.drawA mixed #[true,true,true,true,true,true,true,true,true,true,true,true,false,false] [(2,.box (x.enc.map .d))] [] [0,1,2,3,4,5,11,6,7,8,9,10] [12,13] (some (11,17,101,[.string ⟨#[]⟩,.slice none 0 0,.int .i64 0,.slice none 0 0,.slice none 0 0,.slice none 0 0])) (by kernel_rfl) bi4 (by simp [x8]) ?_;simp only [go_sem,seval]
          repeat' (first
           | ((first
            | (refine hva.calls rfl ?_)
            | (refine hru.calls rfl ?_))<;>(try simp only [go_sem,seval]))
           | fail)
          refine rS_ Tryz.func44 ?_;simp only [go_sem,seval]
          repeat' (first
           | ((refine hiP.calls rfl ?_)<;>(try simp only [go_sem,seval,w7]))
           | fail)
          refine hnw (w+1) L1 _ ⟨by omega,j2⟩ (by dsimp only;omega) A7
         | true =>
          rw [hp1] at hiP;have hp2:N.all (aF1 u)=false:=by rw [hp1,t_] at hin;simpa using hin
          rw [hp2] at hiN;refine l7 Tryz.func44 mixed 8 _ _ (by kernel_rfl) ?_;simp only [go_sem,seval,run.eq_1,n3,n4];refine AW.drawA mixed #[true,true,true,true,true,true,true,true,true,true,true,true,false,false] [(2,.box (x.enc.map .d))] [] [0,1,2,3,4,5,11,6,7,8,9,10] [12,13] (some (11,17,101,[.string ⟨#[]⟩,.slice none 0 0,.int .i64 0,.slice none 0 0,.slice none 0 0,.slice none 0 0])) (by kernel_rfl) bi4 (by simp [x8]) ?_;simp only [go_sem,seval]
          repeat' (first
           | ((first
            | (refine hva.calls rfl ?_)
            | (refine hru.calls rfl ?_))<;>(try simp only [go_sem,seval]))
           | fail)
          refine rS_ Tryz.func44 ?_;simp only [go_sem,seval]
          repeat' (first
           | ((first
            | (refine hiP.calls rfl ?_)
            | (refine hiN.calls rfl ?_))<;>(try simp only [go_sem,seval,w7]))
           | fail)
          refine hnw (w+1) L1 _ ⟨by omega,j2⟩ (by dsimp only;omega) A7
      ·have n4:¬(L1.length:Int)<=2000:=by omega
       refine rS_ Tryz.func44 ?_;simp only [go_sem,seval,n3,n4]
       repeat' (first
        | (simp (disch:=omega) only [j6])
        | fail)
       all_goals refine hnc L1 _ (j2.full hw2) A7
     ·have n3:¬(w:Int)<(W:Int):=by omega
      rw [show W - w=0 by omega] at j2;have e0:ba4 u x (ci:Int) c w 0=[]:=rfl;rw [e0,r_] at j2;refine rS_ Tryz.func44 ?_;simp only [go_sem,seval,n3]
      repeat' (first
       | (simp (disch:=omega) only [j6])
       | fail)
      all_goals refine hnc L1 _ j2 A7
    ·have e0:aJ5 u x W ((CS.length - ([]:List (List Gl)).length:Nat):Int) []=[]:=rfl
     rw [e0,r_] at hinv;refine rS_ Tryz.func44 ?_;simp only [go_sem,seval]
     repeat' (first
      | (simp (disch:=omega) only [j6])
      | fail)
     all_goals refine hnext L _ hinv A7
   ·have hg:x.gOk u=false:=by rw [hgo,decide_eq_false h4,Bool.and_false]
    have h41:¬J6 u.length 4096 y 1<=4096:=fun h=>h4 (hsw.1.2 h);have n2:(4096:Int)<(J6 u.length 4096 y 1:Int):=by omega
    rw [Pg.gr_bad hxm hg,I1] at hRES;rw [<-hRES];generalize J6 u.length 4096 y 1=W at *;refine rS_ Tryz.func44 ?_;simp only [go_sem,seval,n2]
    repeat' (first
     | ((first
      | (refine hcl.calls rfl ?_)
      | (refine hwy.calls rfl ?_))<;>(try simp only [go_sem,seval,n2]))
     | fail)
  ·have hg:x.gOk u=false:=by rw [hgo,decide_eq_false h64,B_]
   rw [if_neg (fun h=>h64 h.2)] at hcl;unfold bg0 at hcl;rw [Option.getD_none,w_] at hcl;rw [Pg.gr_bad hxm hg,I1] at hRES;rw [<-hRES];generalize J6 u.length 4096 y 1=W at *;refine rS_ Tryz.func44 ?_;simp only [go_sem,seval]
   repeat' (first
    | ((first
     | (refine hcl.calls rfl ?_)
     | (refine hwy.calls rfl ?_))<;>(try simp only [go_sem,seval]))
    | fail)
 ·obtain ⟨⟨dn,i0,i1⟩,i2⟩:=hinv
  rw [a_] at i0;subst i0;have e0:Pg.gnd u []=[]:=rfl;rw [e0] at i2;rcases i2 with ⟨h1,h2⟩ | ⟨h1,X,h2⟩
  ·rw [a_] at h2
   rw [Pg.gr_some i1 (by rw [hGN,h2];exact h1),hGN,h2,ai3] at hRES;rw [<-hRES];have n5:¬(2000:Int)<(L.length:Int):=by omega
   refine rS_ Tryz.func44 ?_;simp only [go_sem,seval,n5]
  ·rw [Pg.gr_none (hGN.trans h2) (by omega),I1] at hRES
   rw [<-hRES];have n5:(2000:Int)<(L.length:Int):=by omega
   refine rS_ Tryz.func44 ?_;simp only [go_sem,seval,n5]
def Pg.grO (p:Pg) (u:List Tm):Option (List RV):=if X6 p=true/\S9 u=true then p.gr (u.map Tm.V) else none
theorem ar8 (p:Pg) (u:List Tm) (hw:wtL p.enc<=1048576) (hwu:∀t,t∈u->wtL t.enc<=1048576) (hlu:u.length<=9000000):Gives Tryz.prog 44 [.agg p.enc,.sl (u.map Tm.enc)] (grC (Pg.grO p u)):=by
 have ha:=K5 p (by omega);have hb:=ax3 u hwu hlu;unfold Pg.grO;by_cases h1:X6 p=true
 ·by_cases h2:S9 u=true
  ·rw [if_pos ⟨h1,h2⟩]
   obtain ⟨hu,he⟩:=Uni.of h2;rw [h2] at hb;have hee:u.map Tm.enc=(u.map Tm.V).map V.enc:=by rw [<-K8,<-he]
   rw [hee] at hb |-;exact ax5 p _ h1 hw hu hb
  ·rw [if_neg (fun h=>h2 h.2),I1]
   rw [h1] at ha;simp only [u_] at h2;rw [h2] at hb;refine aE_ Tryz.func44 ?_;refine rS_ Tryz.func44 ?_;simp only [go_sem,seval]
   repeat' (first
    | ((first
     | (refine ha.calls rfl ?_)
     | (refine hb.calls rfl ?_))<;>(try simp only [go_sem,seval]))
    | fail)
 ·rw [if_neg (fun h=>h1 h.1),I1]
  simp only [u_] at h1;rw [h1] at ha;refine aE_ Tryz.func44 ?_;refine rS_ Tryz.func44 ?_;simp only [go_sem,seval]
  repeat' (first
   | ((refine ha.calls rfl ?_)<;>(try simp only [go_sem,seval]))
   | fail)
theorem aw4 (rs:List RV) (F:List FcV) (hF:an8 FcV.cmp F) (hl:F.length<=9000000) (hr:rs.length<=2000000):Gives Tryz.prog 58 [.sl (rs.map rvE),.sl (F.map fcE)] (.d (.sl ((ab5 rs F F).map fcE))):=by
 have hmx:maxLen=9223372036854775807:=rfl;have hhf:∀f:FcV,Gives Tryz.prog 60 [.sl (F.map fcE),.agg [.str f.1,.sl (f.2.map V.enc)]] (.d (.bool (decide (f∈F)))):=fun f=>by
  have h:=Y0 F f hl hF;rw [o6] at h;exact h
 obtain ⟨RES,hRES⟩:∃RES,ab5 rs F F=RES:=⟨_,rfl⟩;rw [hRES];refine aE_ Tryz.func58 ?_;refine rS_ Tryz.func58 ?_;simp only [go_sem,seval];refine AW.adopt 5 2 43 (by decide) rfl ?_;refine AW.rng rs [1,14,15] 16 14 (fun L:List FcV=>[(5,.own 0 L.length)]) (fun _ L=>[.grow L.length 2 43 (L.map fcE)]) (fun r L=>∃d,rs=d++r/\L=(d.filter (RV.fires F F)).map RV.head) [] rfl (by simp) ⟨[],rfl,rfl⟩ A7 (fun i x r L hxi hdr hlt hm hinv hnext=>?_) (fun L hinv=>?_)
 ·obtain ⟨d,d1,d2⟩:=hinv
  have hLl:L.length<=2000000:=by
   rw [d2,g_];have h1:=E_ (RV.fires F F) d;have h2:=congrArg List.length d1;simp at h2;omega
  have hfi:x.fires F F=(x.pos.all (fun f=>decide (f∈F)) && x.neg.all (fun f=>!decide (f∈F))):=by
   unfold RV.fires;simp
  have hnext:=fun (L':List FcV) s' (h:L'=L++(if x.fires F F=true then [x.head] else []))=>hnext L' s' ⟨d++[x],by rw [d1];simp,by rw [h,d2,List.filter_append,z_];congr 1;cases hq:x.fires F F<;>simp [hq]⟩;clear d1 d2;refine rS_ Tryz.func58 ?_;simp only [go_sem,seval,hlt,j5 hxi,A8];refine AW.rng x.pos [1,5,7,14,15,16,21,22] 23 21 (fun b:Bool=>[(8,.d (.bool b))]) (fun _ b=>[.grow L.length 2 43 (L.map fcE),.box [.d (.str x.head.1),.d (.sl (x.head.2.map V.enc)),.d (.int .i64 x.clause),.d (.sl (x.values.map V.enc)),.d (.sl (x.pos.map fcE)),.d (.sl (x.neg.map fcE))]]) (fun r b=>∃d,x.pos=d++r/\b=d.all (fun f=>decide (f∈F))) true rfl (by simp) ⟨[],rfl,rfl⟩ A7 (fun j f r1 b hfj hdj hltj hmj hinv hnj=>?_) (fun b hinv=>?_)
  ·obtain ⟨d,d1,d2⟩:=hinv
   have hh:=hhf f;have hnj:=fun (b':Bool) s' (h:b'=(b && decide (f∈F)))=>hnj b' s' ⟨d++[f],by rw [d1];simp,by rw [h,d2,o_];simp⟩;clear d1 d2;generalize decide (f∈F)=q at *;cases b<;>· (
    refine rS_ Tryz.func58 ?_;simp only [go_sem,seval,hltj,j5 hfj,o6]
    repeat' (first
     | (simp (disch:=omega) only [j6])
     | ((refine hh.calls rfl ?_)<;>(try simp only [go_sem,seval,hltj,j5 hfj,o6]))
     | fail)
    refine hnj _ _ rfl A7)
  obtain ⟨d,d1,d2⟩:=hinv;rw [a_] at d1;subst d1;refine rS_ Tryz.func58 ?_;simp only [go_sem,seval];refine AW.rng x.neg [1,5,7,14,15,16,35,36] 37 35 (fun b:Bool=>[(8,.d (.bool b))]) (fun _ b=>[.grow L.length 2 43 (L.map fcE),.box [.d (.str x.head.1),.d (.sl (x.head.2.map V.enc)),.d (.int .i64 x.clause),.d (.sl (x.values.map V.enc)),.d (.sl (x.pos.map fcE)),.d (.sl (x.neg.map fcE))]]) (fun r b=>∃d,x.neg=d++r/\b=(x.pos.all (fun f=>decide (f∈F)) && d.all (fun f=>!decide (f∈F)))) b rfl (by simp) ⟨[],rfl,by rw [d2];simp⟩ A7 (fun j f r1 b hfj hdj hltj hmj hinv hnj=>?_) (fun b hinv=>?_)
  ·obtain ⟨d,d1,d3⟩:=hinv
   have hh:=hhf f;have hnj:=fun (b':Bool) s' (h:b'=(b && !decide (f∈F)))=>hnj b' s' ⟨d++[f],by rw [d1];simp,by rw [h,d3,o_,Bool.and_assoc];simp⟩;clear d1 d3 d2;generalize decide (f∈F)=q at *;cases b<;>· (
    refine rS_ Tryz.func58 ?_;simp only [go_sem,seval,hltj,j5 hfj,o6]
    repeat' (first
     | (simp (disch:=omega) only [j6])
     | ((refine hh.calls rfl ?_)<;>(try simp only [go_sem,seval,hltj,j5 hfj,o6]))
     | fail)
    refine hnj _ _ rfl A7)
  obtain ⟨d,d1,d3⟩:=hinv;rw [a_] at d1;subst d1;rw [<-hfi] at d3;clear hfi d2;cases b with
  | false =>
   refine rS_ Tryz.func58 ?_;simp only [go_sem,seval]
   repeat' (first
    | (simp (disch:=omega) only [j6])
    | fail)
   refine hnext L _ (by rw [<-d3];simp) A7
  | true =>
   have hFe:=o6 x.head;refine rS_ Tryz.func58 ?_;simp only [go_sem,seval]
   repeat' (first
    | (simp (disch:=omega) only [j6])
    | ((refine ⟨sd,?_⟩)<;>(try simp only [go_sem,seval]))
    | fail)
   refine hnext (L++[x.head]) _ (by rw [<-d3];simp) (by refine ⟨by simp [mkS,hFe],by simp [mkS,hFe],by simp only [mkS,c_,e_,O.refsLt,C.refsLt,C.refsLt1,l8];first | done | rfl | (simp;done),?_⟩;simp [mkS,Abs.get,C.refsLtT,C.refsLt,C.refsLt1,hFe])
 ·obtain ⟨d,d1,d2⟩:=hinv
  rw [a_] at d1;subst d1;have hLl:L.length<=2000000:=by
   rw [d2,g_];exact N_ (E_ _ _) hr
  have hs:=aI9 L hLl;rw [show ao0 FcV.cmp L=RES from by rw [<-hRES,d2];rfl] at hs;refine AW.readG 5 0 rfl rfl ?_;refine rS_ Tryz.func58 ?_;simp only [go_sem,seval]
  repeat' (first
   | ((refine hs.calls rfl ?_)<;>(try simp only [go_sem,seval]))
   | fail)
theorem aJ3 (a b:List FcV) (ha:a.length<=9000000) (hb:b.length<=9000000):Gives Tryz.prog 59 [.sl (a.map fcE),.sl (b.map fcE)] (.d (.bool (decide (a=b)))):=by
 have hmx:maxLen=9223372036854775807:=rfl;have hmap:∀x:List FcV,(x.map fcE).length=x.length:=fun x=>g_ _;by_cases hlen:a.length=b.length
 ·obtain ⟨RES,hRES⟩:∃RES,decide (a=b)=RES:=⟨_,rfl⟩
  rw [hRES];have n1:(a.length:Int)=(b.length:Int):=by omega
  refine aE_ Tryz.func59 ?_;refine rS_ Tryz.func59 ?_;simp only [go_sem,seval,hmap,n1];refine AW.lp [0,1,12] (fun i:Nat=>[(13,.d (.int .i64 (i:Int)))]) (fun H _=>H) (fun i=>i<=a.length/\a.take i=b.take i) (fun i=>a.length - i) 0 ⟨p_ _,rfl⟩ A7 ?_;intro i hi hni;obtain ⟨h1,h2⟩:=hi;by_cases hia:i<a.length
  ·have n2:(i:Int)<(b.length:Int):=by omega
   have n3:(i:Int)<(a.length:Int):=by omega
   obtain ⟨x,hx⟩:∃x,a[i]? = some x:=⟨_,n_ hia⟩;obtain ⟨y,hy⟩:∃y,b[i]? = some y:=⟨_,n_ (hlen ▸ hia)⟩;have ho:=Q6 x y;have w1:IntKind.i64.wrap ((i:Int)+1)=((i+1:Nat):Int):=by rw [j6 (by omega) (by omega)];omega
   by_cases hxy:x.cmp y=0
   ·have he:=(FcV.cmp_lin.zero _ _).1 hxy
    rw [hxy] at ho;refine l7 Tryz.func59 mixed 10 _ _ (by kernel_rfl) ?_;simp only [go_sem,seval,run.eq_1,n2,n3,hmap];refine AW.drawA mixed #[true,true,true,true,true,true,true,true,true,false] [] [] [0,1,2,3,4,5,6,7,8] [9] none (by kernel_rfl) trivial (by simp [x8]) ?_;simp only [go_sem,seval,hmap,n2,n3,j5 hx,j5 hy]
    repeat' (first
     | ((refine ho.calls rfl ?_)<;>(try simp only [go_sem,seval,w1]))
     | fail)
    refine rS_ Tryz.func59 ?_;simp only [go_sem,seval]
    repeat' (first
     | (simp (disch:=omega) only [j6])
     | fail)
    refine hni (i+1) _ ⟨by omega,by rw [K_,K_,h2,hx,hy,he]⟩ (by omega) A7
   ·have he:a≠b:=fun e=>hxy (by rw [e,hy] at hx;cases hx;exact (FcV.cmp_lin.zero _ _).2 rfl)
    rw [decide_eq_false he] at hRES;subst hRES;refine l7 Tryz.func59 mixed 10 _ _ (by kernel_rfl) ?_;simp only [go_sem,seval,run.eq_1,n2,n3,hmap];refine AW.drawA mixed #[true,true,true,true,true,true,true,true,true,false] [] [] [0,1,2,3,4,5,6,7,8] [9] none (by kernel_rfl) trivial (by simp [x8]) ?_;simp only [go_sem,seval,hmap,n2,n3,j5 hx,j5 hy]
    repeat' (first
     | ((refine ho.calls rfl ?_)<;>(try simp only [go_sem,seval,w1,hxy]))
     | fail)
    refine rS_ Tryz.func59 ?_;simp only [go_sem,seval,hxy]
    repeat' (first
     | ((refine D5 (fun hq=>?_) (fun hq=>?_))<;>(try simp only [go_sem,seval,w1,hxy,hq]))
     | fail)
    all_goals exact absurd (by assumption) hxy
  ·have n2:¬(i:Int)<(b.length:Int):=by omega
   have n3:¬(i:Int)<(a.length:Int):=by omega
   have he:a=b:=by rw [W_ (by omega),W_ (by omega)] at h2;exact h2
   rw [decide_eq_true he] at hRES;subst hRES;refine rS_ Tryz.func59 ?_;simp only [go_sem,seval,n2,n3]
 ·have n1:¬(a.length:Int)=(b.length:Int):=by omega
  rw [decide_eq_false (fun e=>hlen (by rw [e]))];refine aE_ Tryz.func59 ?_;refine rS_ Tryz.func59 ?_;simp only [go_sem,seval,hmap,n1]
  repeat' (first
   | ((refine D5 (fun hq=>?_) (fun hq=>?_))<;>(try simp only [go_sem,seval,hmap,n1,hq]))
   | fail)
  all_goals (exfalso;omega)
def aT9 (P:Program) (s:St) (o:Oper) (K:C->List O->Prop):Prop:=
 match o.op with
 | .buildSlice _ 0 _=>J5 P s o K
 | _=>aZ5 P s o K
theorem aI0 {P:Program} {s:St} {o:Oper} {K:C->List O->Prop} (h:aT9 P s o K):H9 P s o K:=by
 unfold aT9 at h;split at h
 ·exact M0 h
 ·exact aq4 h
def aZ2 (P:Program) (n:Nat) (K:St->Prop):List Oper->St->Prop
 | [],⟨σ,H⟩=>K ⟨σ,H⟩
 | o :: rest,⟨σ,H⟩=>G9 n o=true/\o.guard=none/\aT9 P ⟨σ,H⟩ o (kR (aZ2 P n K rest) ⟨σ,H⟩ o.dst)
theorem aq1 {P:Program} {n:Nat} {K:St->Prop} {ops:Array Oper} {E0:Env}:∀(os:List Oper) (l:List Nat) (s:St) (E:Env) (a:Act),l.map (ops[·]?)=os.map some->RepSt E n s a->Le E0 E->aZ2 P n K os s ->
  wpOps P ops (Behind n E0 K) l a E.w
 | [],l,s,E,a,hl,hst,hle,h=>by
  have:l=[]:=by simpa using hl
  subst this;exact ⟨rfl,E,s,rfl,hst,hle,h⟩
 | o :: os,l,s,E,a,hl,hst,hle,h=>by
  cases l with
  | nil=>simp at hl
  | cons i l =>
   simp only [m_,List.cons.injEq] at hl;obtain ⟨ho,hl⟩:=hl;unfold aZ2 at h;obtain ⟨hd,hg,h⟩:=h;have hdst:∀d,o.dst=some d->d<n:=fun d hd'=>by
    unfold G9 at hd;rw [hd'] at hd;simpa using hd
   rw [Go.wpOps_cons];refine ap9 (n:=n) ho hg ((aI0 h).run hst (fun v E' c H' h1 h2 h3 h4=>?_));exact aq1 os l _ E' _ hl (hst.put h3 h2 hdst h1) (hle.trans h3) h4
theorem bt0 {P:Program} {n:Nat} {f:FuncId} {n0:Nat} {R:C->List O->Prop} {id:Nat} {ops:Array Oper} {k:List Item} {s:St} (h:aZ2 P n (AW P f n n0 R k) ops.toList s):AW P f n n0 R (.code (.region id ops false) :: k) s:=by
 refine AW.of_behind (k':=k) fun _ E a b cs hst=>?_;have hw:=aq1 (ops:=ops) ops.toList (List.range ops.size) s E a (by
  apply List.ext_getElem?;intro j;simp only [s_];by_cases hj:j<ops.size
  ·rw [G_ hj]
   simp [hj]
  ·rw [Y_ (by simpa using hj),Y_ (by simpa using hj)]
   rfl) hst (Le.refl E) h
 obtain ⟨e,a',w',⟨rfl,E',s',rfl,h1,h2,h3⟩,harr⟩:=wp_region (id:=id) hw b k cs;exact ⟨a',E',s',harr,h1,h2,h3⟩
attribute [go_sem] aT9.eq_def aZ2.eq_1 aZ2.eq_2
theorem bE2 {P:Program} {f:FuncId} {n n0:Nat} {R:C->List O->Prop} {k:List Item} {s:St} (r:Nat) {q z e:Nat} {xs:List (List D)} (hr:s.H[r]? = some (.buf q z e xs))
  (h:AW P f n n0 R k ⟨s.σ,s.H.set r (.grow q z e xs)⟩):AW P f n n0 R k s:=by
 refine AW.recast (s':=⟨s.σ,s.H.set r (.grow q z e xs)⟩) (fun h0 E a hst=>?_);obtain ⟨h1,h2,h3,h4⟩:=hst.heap.obj r _ hr;have hrl:=(h_.1 hr).1;rcases h4 with ⟨ad,h5,rfl⟩ | ⟨b0,cap,arr,h5,h6,h7,h8,h9,h10,h11,h12⟩
 ·refine ⟨E,rfl,Le.refl E,⟨hst.size,hst.defers,?_,hst.slot⟩,h⟩
  refine hst.heap.turn (r0:=r) (o0:=.grow q z e []) (Le.refl E) (by simp [hst.heap.N]) (fun r' hr'=>?_) (fun o' ho'=>?_) (fun _ _ _=>rfl) (fun r' o' b hr' ho' hb=>⟨rfl,fun i hs=>hs⟩) (fun _ hb=>hb) (fun b i hs=>hst.heap.Slt b i hs) ⟨h1,h2,h3,.inl ⟨ad,h5,rfl⟩⟩ (fun b hb=>by have hb':ownB (E.τ r).2=some b:=hb;rw [h5] at hb';cases ad<;>simp [ownB] at hb')
  ·rw [List.getElem?_set_ne (fun e=>hr' e.symm)]
  ·rw [X_ hrl] at ho'
   exact (Option.some.inj ho').symm
 ·have hx:=List.length_pos_iff.2 h7
  have hblk:(O.buf q z e xs).block E r b0:=by simp [O.block,h5,ownB];omega
  have hpv:=hst.heap.pv r _ _ hr hblk;have hlb:=hst.heap.lt r _ _ hr hblk;let E1:Env:={ E with S:=fun b i=>E.S b i\/(b=b0/\i<xs.length * z) }
  have hl:Le E E1:=by
   refine ⟨rfl,rfl,rfl,q_ _,q_ _,fun _ _=>rfl,fun _ _=>⟨q_ _,fun _=>rfl⟩,fun _ _ hs=>.inl hs,fun _ _ _=>rfl,fun _ _ _=>rfl,fun b i hs=>?_,fun _ hp=>.inl hp,fun _ _ _ _ _ hh=>hh⟩;rcases hs with hs | ⟨rfl,_⟩
   ·exact .inl hs
   ·exact .inr (.inr hpv)
  refine ⟨E1,rfl,hl,⟨hst.size,hst.defers,?_,fun t=>(hst.slot t).le hl⟩,h⟩;refine hst.heap.turn (r0:=r) (o0:=.grow q z e xs) hl (by simp [E1,hst.heap.N]) (fun r' hr'=>?_) (fun o' ho'=>?_) (fun _ _ _=>rfl) (fun r' o' b hr' ho' hb=>⟨rfl,fun i hs=>?_⟩) (fun _ hb=>hb) (fun b i hs=>?_) ⟨h1,h2,h3,.inr ⟨b0,cap,arr,h5,h6,by omega,h8,h9,h10,fun i j x c hi hj=>?_,fun i hi hS=>?_⟩⟩ (fun b hb=>⟨?_,?_,?_⟩)
  ·rw [List.getElem?_set_ne (fun e=>hr' e.symm)]
  ·rw [X_ hrl] at ho'
   exact (Option.some.inj ho').symm
  ·rcases hs with hs | ⟨rfl,_⟩
   ·exact hs
   ·exact absurd (hst.heap.apart r' r o' _ _ ho' hr hb hblk) hr'
  ·rcases hs with hs | ⟨rfl,_⟩
   ·exact hst.heap.Slt b i hs
   ·exact hlb
  ·obtain ⟨v,k2,k3,k4⟩:=h11 i j x c hi hj
   have hil:i<xs.length:=(h_.1 hi).1;have hjl:j<z:=by rw [<-h2 x (b_ hi)];exact (h_.1 hj).1
   have hm:(i+1) * z<=xs.length * z:=Nat.mul_le_mul_right z (by omega);rw [Nat.add_mul] at hm;exact ⟨.inr ⟨rfl,by omega⟩,v,k2,k3,k4.le hl⟩
  ·rcases hS with hS | ⟨_,hlt⟩
   ·exact h12 i hS
   ·omega
  ·have hb':(O.buf q z e xs).block E r b:=hb
   exact hst.heap.pv r _ _ hr hb'
  ·have hb':(O.buf q z e xs).block E r b:=hb
   exact hst.heap.lt r _ _ hr hb'
  ·have hb':(O.buf q z e xs).block E r b:=hb
   exact fun r' o' hr' ho' hb2=>hr' (hst.heap.apart r' r o' _ b ho' hr hb2 hb')
def ag8 (rs:List RV) (m:Nat):List (List D):=(List.range m).map fun i=>[.sl ((stg rs i).map fcE)]
theorem aV1 (rs:List RV) (m:Nat):ag8 rs (m+1)=ag8 rs m++[[.sl ((stg rs m).map fcE)]]:=by simp [ag8,List.range_succ]
theorem aV2 (rs:List RV):ag8 rs 1=[[.sl []]]:=rfl
@[go_sem] theorem bW5 (rs:List RV) (m:Nat):(ag8 rs m).length=m:=by simp [ag8]
theorem ae9 (rs:List RV) {i m:Nat} (h:i<m):(ag8 rs m)[i]? = some [.sl ((stg rs i).map fcE)]:=by
 unfold ag8;rw [s_,G_ h];rfl
def cj6 (rs:List RV):Prop:=∀r,r∈rs->r.neg=[]
theorem bm0 {rs:List RV} (h:cj6 rs) (F:List FcV):ab5 rs F F=ab5 rs F []:=by
 unfold ab5;congr 2;refine List.filter_congr fun r hr=>?_;unfold RV.fires;rw [h r hr];rfl
theorem bj7 (rs:List RV) (hr:rs.length<=2000000) (hp:cj6 rs):Gives Tryz.prog 30 [.sl (rs.map rvE)] (.d (.sl (ag8 rs (top rs+1)))):=by
 have hmx:maxLen=9223372036854775807:=rfl;obtain ⟨t1,t2,t3⟩:=O9 rs;obtain ⟨RES,hRES⟩:∃RES,ag8 rs (top rs+1)=RES:=⟨_,rfl⟩;rw [hRES];refine aE_ Tryz.func30 ?_;refine l7 Tryz.func30 mixed 3 _ _ (by kernel_rfl) ?_;simp only [go_sem,seval,run.eq_1];refine bt0 ?_;simp only [go_sem,seval]
 repeat' (first
  | ((refine E9 (fun Bz=>?_))<;>(try simp only [go_sem,seval]))
  | fail)
 refine AW.treeB 0 rfl (by simp [D.flat]) ?_;refine bE2 0 rfl ?_;refine rS_ Tryz.func30 ?_;simp only [go_sem,seval];refine AW.lp [0] (fun k:Nat=>[(3,.own 0 k)]) (fun _ k=>[.grow k 1 99 (ag8 rs (k+1))]) (fun k=>k<=top rs) (fun k=>top rs - k) 0 (p_ _) (by refine ⟨by simp [mkS,aV2],by simp [mkS,aV2],by simp only [mkS,c_,e_,O.refsLt,C.refsLt,C.refsLt1,l8];first | done | rfl | (simp;done),?_⟩;simp [mkS,Abs.get,C.refsLtT,C.refsLt,C.refsLt1]) ?_;intro k hk hnk;have w1:IntKind.i64.wrap ((k:Int)+1 - 1)=(k:Int):=by rw [j6 (by omega) (by omega)];omega
 have n1:(k:Int)<(k:Int)+1:=by omega
 have hat:=ae9 rs (i:=k) (m:=k+1) (by omega);have hl1:=V6 rs k;have hl2:=V6 rs (k+1);have hc:=aw4 rs (stg rs k) (Y9 rs k) (by omega) hr;rw [bm0 hp,show ab5 rs (stg rs k) []=stg rs (k+1) from rfl] at hc;have hsf:=aJ3 (stg rs (k+1)) (stg rs k) (by omega) (by omega);by_cases hs:stg rs (k+1)=stg rs k
 ·rw [decide_eq_true hs] at hsf
  have hkt:k=top rs:=bC2 hs (fun j hj=>t3 j (by omega));rw [<-hkt] at hRES;rw [<-hRES];refine rS_ Tryz.func30 ?_;simp only [go_sem,seval,w1,n1,j5 hat]
  repeat' (first
   | ((first
    | (refine hc.calls rfl ?_)
    | (refine hsf.calls rfl ?_))<;>(try simp only [go_sem,seval,w1,n1,j5 hat]))
   | fail)
 ·rw [decide_eq_false hs] at hsf
  have hkt:k<top rs:=by
   rcases M_ k (top rs) with h | h
   ·exact h
   ·rw [show k=top rs by omega] at hs;exact absurd t2 hs
  refine rS_ Tryz.func30 ?_;simp only [go_sem,seval,w1,n1,j5 hat]
  repeat' (first
   | ((first
    | (refine hc.calls rfl ?_)
    | (refine hsf.calls rfl ?_)
    | (refine ⟨sd,?_⟩))<;>(try simp only [go_sem,seval,w1,n1,j5 hat]))
   | fail)
  refine hnk (k+1) _ (by omega) (by omega) (by refine ⟨by simp [mkS,aV1],by simp [mkS,aV1],by simp only [mkS,c_,e_,O.refsLt,C.refsLt,C.refsLt1,l8];first | done | rfl | (simp;done),?_⟩;simp [mkS,Abs.get,C.refsLtT,C.refsLt,C.refsLt1])
theorem X7 (a b:FcV):Gives Tryz.prog 49 [.agg [.str a.1,.sl (a.2.map V.enc)],.agg [.str b.1,.sl (b.2.map V.enc)]] (.d (.int .i64 (a.cmp b))):=by
 have h:Gives Tryz.prog 49 [.agg (fcE a),.agg (fcE b)] (.d (.int .i64 (a.cmp b))):=bn7 a.1 b.1 a.2 b.2;rw [o6,o6] at h;exact h
theorem ah9 (l:List FcV) (f:FcV) (hl:l.length<=9000000):Gives Tryz.prog 80 [.sl (l.map fcE),.agg (fcE f)] (.d (.bool (decide (f∈l)))):=by
 obtain ⟨K,hK⟩:∃K,decide (f∈l)=K:=⟨_,rfl⟩;rw [hK,o6];refine aE_ Tryz.func80 ?_;refine rS_ Tryz.func80 ?_;simp only [go_sem,seval];refine AW.rng l [3,7,8] 9 7 (fun _:Unit=>[]) (fun H _=>H) (fun r _=>decide (f∈r)=K) () rfl (by simp) hK A7 (fun j y q b hyj hdr2 hlt2 hm2 hinv2 hnext2=>?_) (fun b hinv2=>?_)
 ·have he:=X7 y f
  by_cases hc:y.cmp f=0
  ·have hyf:=(FcV.cmp_lin.zero _ _).1 hc
   rw [hc] at he;subst hyf;simp only [T_,true_or,decide_true] at hinv2;rw [<-hinv2];refine rS_ Tryz.func80 ?_;simp only [go_sem,seval,hlt2,j5 hyj,o6]
   repeat' (first
    | ((refine he.calls rfl ?_)<;>(try simp only [go_sem,seval,hlt2,j5 hyj,o6]))
    | fail)
  ·have hyf:¬f=y:=fun e=>hc ((FcV.cmp_lin.zero _ _).2 e.symm)
   simp only [T_,hyf,false_or] at hinv2;refine rS_ Tryz.func80 ?_;simp only [go_sem,seval,hlt2,j5 hyj,o6,hc]
   repeat' (first
    | (simp (disch:=omega) only [j6])
    | (refine hnext2 () _ hinv2 A7)
    | ((refine he.calls rfl ?_)<;>(try simp only [go_sem,seval,hlt2,j5 hyj,o6,hc]))
    | fail)
   all_goals exact absurd (by assumption) hc
 ·simp only [List.not_mem_nil,decide_false] at hinv2
  rw [<-hinv2];refine rS_ Tryz.func80 ?_;simp only [go_sem,seval]
theorem aL0 (l:List FcV) (f:FcV) (ha:an8 FcV.cmp l) (hl:l.length<=1000000):Gives Tryz.prog 117 [.sl (l.map fcE),.agg (fcE f)] (.d (.sl ((ap4 FcV.cmp l f).map fcE))):=by
 have hmx:maxLen=9223372036854775807:=rfl;have hmap:∀x:List FcV,(x.map fcE).length=x.length:=fun x=>g_ _;obtain ⟨RES,hRES⟩:∃RES,ap4 FcV.cmp l f=RES:=⟨_,rfl⟩;have hFe:=o6 f;rw [hRES,hFe];refine aE_ Tryz.func117 ?_;refine rS_ Tryz.func117 ?_;simp only [go_sem,seval,hmap];refine AW.lp [0,3] (fun k:Nat=>[(5,.d (.int .i64 (k:Int)))]) (fun H _=>H) (fun k=>k<=l.length/\∀i y,k<=i->l[i]? = some y->¬y.cmp f<0) (fun k=>k) l.length ⟨q_ _,fun i y hi hy=>by have:=(h_.1 hy).1;omega⟩ A7 ?_;intro k hk hnk;obtain ⟨k1,k2⟩:=hk;have stop:(∀i y,i<k->l[i]? = some y->y.cmp f<0)->ap4 FcV.cmp l f=if aF6 FcV.cmp l k f then l else l.take k++f :: l.drop k:=fun h=>bo9 FcV.cmp_lin l f k ha k1 h k2
 by_cases hkz:k=0
 ·have n1:¬(0:Int)<(k:Int):=by omega
  have hst:=stop (fun i y hi=>by omega);clear stop hnk;rw [hRES] at hst;have hks:(0:Int)<=(k:Int):=by omega
  cases hlk:l[k]? with
  | none =>
   have hkl:k=l.length:=by have:=S_.1 hlk;omega
   have m1:¬(k:Int)<(l.length:Int):=by omega
   have hq:aF6 FcV.cmp l k f=false:=by unfold aF6;rw [hlk]
   rw [hq,if_neg (by simp)] at hst;rw [hst];refine rS_ Tryz.func117 ?_;simp only [go_sem,seval,n1,hmap,m1,hks];skip
   repeat' (first
    | ((refine ⟨sd,?_⟩)<;>(try simp only [go_sem,seval,n1,hmap,m1,hks]))
    | fail)
   all_goals simp [hFe,H_,I_]
  | some z =>
   have m1:(k:Int)<(l.length:Int):=by have:=(h_.1 hlk).1;omega
   have hz:=X7 z f;by_cases hzf:z.cmp f=0
   ·have hq:aF6 FcV.cmp l k f=true:=by unfold aF6;rw [hlk];simp [hzf]
    rw [hq,if_pos rfl] at hst;rw [hzf] at hz;rw [hst];refine rS_ Tryz.func117 ?_;simp only [go_sem,seval,n1,hmap,m1,hks,j5 hlk,o6];skip
    repeat' (first
     | ((refine hz.callQ rfl ?_)<;>(try simp only [go_sem,seval,n1,hmap,m1,hks,j5 hlk,o6]))
     | fail)
   ·have hq:aF6 FcV.cmp l k f=false:=by unfold aF6;rw [hlk];simp [hzf]
    rw [hq,if_neg (by simp)] at hst;rw [hst];refine rS_ Tryz.func117 ?_;simp only [go_sem,seval,n1,hmap,m1,hks,j5 hlk,o6,hzf];skip
    repeat' (first
     | ((first
      | (refine hz.callQ rfl ?_)
      | (refine ⟨sd,?_⟩))<;>(try simp only [go_sem,seval,n1,hmap,m1,hks,j5 hlk,o6,hzf]))
     | fail)
    all_goals first | (exact absurd (by assumption) hzf) | skip
    all_goals simp [hFe,H_,I_]
 ·obtain ⟨y,hy⟩:∃y,l[k - 1]? = some y:=⟨_,n_ (by omega)⟩
  have n1:(0:Int)<(k:Int):=by omega
  have w1:IntKind.i64.wrap ((k:Int) - 1)=((k - 1:Nat):Int):=by rw [j6 (by omega) (by omega)];omega
  have n2:((k - 1:Nat):Int)<(l.length:Int):=by omega
  have he:=X7 y f;by_cases hc:y.cmp f<0
  ·have hc':¬(0:Int)<=y.cmp f:=by omega
   have hst:=stop (fun i z hi hz=>by
    by_cases e:i=k - 1
    ·subst e;rw [hz] at hy;cases hy;exact hc
    ·exact FcV.cmp_lin.tr _ _ _ (aT5 ha (show i<k - 1 by omega) hz hy) hc)
   clear stop hnk;rw [hRES] at hst;have hks:(0:Int)<=(k:Int):=by omega
   cases hlk:l[k]? with
   | none =>
    have hkl:k=l.length:=by have:=S_.1 hlk;omega
    have m1:¬(k:Int)<(l.length:Int):=by omega
    have hq:aF6 FcV.cmp l k f=false:=by unfold aF6;rw [hlk]
    rw [hq,if_neg (by simp)] at hst;rw [hst];refine rS_ Tryz.func117 ?_;simp only [go_sem,seval,n1,w1,n2,j5 hy,hmap,o6,hc,hc',m1,hks]
    repeat' (first
     | ((first
      | (refine he.callQ rfl ?_)
      | (refine ⟨sd,?_⟩))<;>(try simp only [go_sem,seval,n1,w1,n2,j5 hy,hmap,o6,hc,hc',m1,hks]))
     | fail)
    all_goals simp [hFe,H_,I_]
   | some z =>
    have m1:(k:Int)<(l.length:Int):=by have:=(h_.1 hlk).1;omega
    have hz:=X7 z f;by_cases hzf:z.cmp f=0
    ·have hq:aF6 FcV.cmp l k f=true:=by unfold aF6;rw [hlk];simp [hzf]
     rw [hq,if_pos rfl] at hst;rw [hzf] at hz;rw [hst];refine rS_ Tryz.func117 ?_;simp only [go_sem,seval,n1,w1,n2,j5 hy,hmap,o6,hc,hc',m1,hks,j5 hlk,o6]
     repeat' (first
      | ((first
       | (refine he.callQ rfl ?_)
       | (refine hz.callQ rfl ?_))<;>(try simp only [go_sem,seval,n1,w1,n2,j5 hy,hmap,o6,hc,hc',m1,hks,j5 hlk,o6]))
      | fail)
    ·have hq:aF6 FcV.cmp l k f=false:=by unfold aF6;rw [hlk];simp [hzf]
     rw [hq,if_neg (by simp)] at hst;rw [hst];refine rS_ Tryz.func117 ?_;simp only [go_sem,seval,n1,w1,n2,j5 hy,hmap,o6,hc,hc',m1,hks,j5 hlk,o6,hzf]
     repeat' (first
      | ((first
       | (refine he.callQ rfl ?_)
       | (refine hz.callQ rfl ?_)
       | (refine ⟨sd,?_⟩))<;>(try simp only [go_sem,seval,n1,w1,n2,j5 hy,hmap,o6,hc,hc',m1,hks,j5 hlk,o6,hzf]))
      | fail)
     all_goals first | (exact absurd (by assumption) hzf) | skip
     all_goals simp [hFe,H_,I_]
  ·have hc':(0:Int)<=y.cmp f:=by omega
   refine rS_ Tryz.func117 ?_;simp only [go_sem,seval,n1,w1,n2,j5 hy,hmap,o6,hc,hc']
   repeat' (first
    | ((refine he.callQ rfl ?_)<;>(try simp only [go_sem,seval,n1,w1,n2,j5 hy,hmap,o6,hc,hc']))
    | fail)
   refine hnk (k - 1) _ ⟨by omega,fun i z hi hz=>?_⟩ (by omega) A7;by_cases e:i=k - 1
   ·subst e;rw [hz] at hy;cases hy;exact hc
   ·exact k2 i z (by omega) hz
theorem au0 (r:RV) (F G:List FcV) (hF:F.length<=9000000) (hG:G.length<=9000000):Gives Tryz.prog 50 [.agg (rvE r),.sl (F.map fcE),.sl (G.map fcE)] (.d (.bool (r.fires F G))):=by
 obtain ⟨K,hK⟩:∃K,r.fires F G=K:=⟨_,rfl⟩;rw [hK,A8];unfold RV.fires at hK;refine aE_ Tryz.func50 ?_;refine rS_ Tryz.func50 ?_;simp only [go_sem,seval];refine AW.rng r.pos [1,2,3,12,13] 14 12 (fun _:Unit=>[]) (fun H _=>H) (fun q _=>((q.all fun f=>decide (f∈F)) && r.neg.all fun f=>!decide (f∈G))=K) () rfl (by simp) hK A7 (fun j y q b hyj hdr2 hlt2 hm2 hinv2 hnext2=>?_) (fun b hinv2=>?_)
 ·have he:=ah9 F y hF
  rw [o6] at he;rw [c_] at hinv2;generalize decide (y∈F)=b2 at he hinv2;cases b2 with
  | true =>
   rw [t_] at hinv2;refine rS_ Tryz.func50 ?_;simp only [go_sem,seval,hlt2,j5 hyj,o6]
   repeat' (first
    | (simp (disch:=omega) only [j6])
    | (refine hnext2 () _ hinv2 A7)
    | ((refine he.calls rfl ?_)<;>(try simp only [go_sem,seval,hlt2,j5 hyj,o6]))
    | fail)
  | false =>
   simp only [B_] at hinv2;rw [<-hinv2];refine rS_ Tryz.func50 ?_;simp only [go_sem,seval,hlt2,j5 hyj,o6]
   repeat' (first
    | ((refine he.calls rfl ?_)<;>(try simp only [go_sem,seval,hlt2,j5 hyj,o6]))
    | fail)
 ·rw [e_,t_] at hinv2
  refine rS_ Tryz.func50 ?_;simp only [go_sem,seval];refine AW.rng r.neg [2,24,25] 26 24 (fun _:Unit=>[]) (fun H _=>H) (fun q _=>(q.all fun f=>!decide (f∈G))=K) () rfl (by simp) hinv2 A7 (fun j y q b hyj hdr2 hlt2 hm2 hinv3 hnext2=>?_) (fun b hinv3=>?_)
  ·have he:=ah9 G y hG
   rw [o6] at he;rw [c_] at hinv3;generalize decide (y∈G)=b2 at he hinv3;cases b2 with
   | false =>
    rw [Bool.not_false,t_] at hinv3;refine rS_ Tryz.func50 ?_;simp only [go_sem,seval,hlt2,j5 hyj,o6]
    repeat' (first
     | (simp (disch:=omega) only [j6])
     | (refine hnext2 () _ hinv3 A7)
     | ((refine he.calls rfl ?_)<;>(try simp only [go_sem,seval,hlt2,j5 hyj,o6]))
     | fail)
   | true =>
    simp only [Bool.not_true,B_] at hinv3;rw [<-hinv3];refine rS_ Tryz.func50 ?_;simp only [go_sem,seval,hlt2,j5 hyj,o6]
    repeat' (first
     | ((refine he.calls rfl ?_)<;>(try simp only [go_sem,seval,hlt2,j5 hyj,o6]))
     | fail)
  ·rw [e_] at hinv3
   rw [<-hinv3];refine rS_ Tryz.func50 ?_;simp only [go_sem,seval]
theorem bd0 (rs:List RV) (F G:List FcV) (hF:F.length<=9000000) (hG:G.length<=9000000) (hr:rs.length<=1000000):Gives Tryz.prog 76 [.sl (rs.map rvE),.sl (F.map fcE),.sl (G.map fcE)] (.d (.sl ((ab5 rs F G).map fcE))):=by
 obtain ⟨RES,hRES⟩:∃RES,ab5 rs F G=RES:=⟨_,rfl⟩;rw [hRES];refine aE_ Tryz.func76 ?_;refine rS_ Tryz.func76 ?_;simp only [go_sem,seval];refine AW.nilG 7 rfl ?_;refine AW.rng rs [1,2,11,12] 13 11 (fun L:List FcV=>[(7,.d (.sl (L.map fcE)))]) (fun H _=>H) (fun r L=>∃d,rs=d++r/\L=ao0 FcV.cmp ((d.filter (RV.fires F G)).map RV.head)) [] rfl (by simp) ⟨[],rfl,rfl⟩ A7 (fun i x r L hxi hdr hlt hm hinv hnext=>?_) (fun L hinv=>?_)
 ·obtain ⟨d,d1,d2⟩:=hinv
  have hLl:L.length<=1000000:=by
   have h0:=aJ1 (c:=FcV.cmp) ((d.filter (RV.fires F G)).map RV.head);rw [<-d2,g_] at h0;have h1:=E_ (RV.fires F G) d;have h2:=congrArg List.length d1;simp at h2;omega
  have hLa:an8 FcV.cmp L:=by rw [d2];exact ar5 FcV.cmp_lin _
  have hfr:=au0 x F G hF hG;have hin:=aL0 L x.head hLa hLl;rw [o6] at hin;rw [A8] at hfr;have hnext:=fun (L':List FcV) s' (h:L'=(if x.fires F G=true then ap4 FcV.cmp L x.head else L))=>hnext L' s' ⟨d++[x],by rw [d1];simp,by rw [h,d2,List.filter_append,z_];unfold ao0;rw [List.foldl_append];cases hq:x.fires F G<;>simp [hq]⟩;clear d1 d2;generalize x.fires F G=b at *;cases b with
  | true =>
   refine rS_ Tryz.func76 ?_;simp only [go_sem,seval,hlt,j5 hxi,A8]
   repeat' (first
    | (simp (disch:=omega) only [j6])
    | ((first
     | (refine hfr.calls rfl ?_)
     | (refine hin.calls rfl ?_))<;>(try simp only [go_sem,seval,hlt,j5 hxi,A8]))
    | fail)
   refine hnext (ap4 FcV.cmp L x.head) _ rfl A7
  | false =>
   refine rS_ Tryz.func76 ?_;simp only [go_sem,seval,hlt,j5 hxi,A8]
   repeat' (first
    | (simp (disch:=omega) only [j6])
    | ((refine hfr.calls rfl ?_)<;>(try simp only [go_sem,seval,hlt,j5 hxi,A8]))
    | fail)
   refine hnext L _ rfl A7
 ·obtain ⟨d,d1,d2⟩:=hinv
  rw [a_] at d1;subst d1;rw [show RES=L from by rw [<-hRES,d2];rfl];refine rS_ Tryz.func76 ?_;simp only [go_sem,seval]
theorem aV6 {u:List V} {x:Rl} {i:Int} {c:List Gl} {r:RV}:∀m k,r∈ba4 u x i c k m->∃w,ah0 u c (H8 u (x.arity+x.locals).toNat w)=true/\r=aV8 x i c (H8 u (x.arity+x.locals).toNat w)
 | 0,k,h=>by simp [ba4] at h
 | m+1,k,h=>by
  rw [bk4] at h;rcases O_.1 h with h | h
  ·unfold rvK at h
   split at h
   ·rename_i hf
    simp at h;exact ⟨k,hf,h⟩
   ·simp at h
  ·exact aV6 m (k+1) h
theorem aV7 {u:List V} {x:Rl} {n:Nat} {r:RV}:∀(cs:List (List Gl)) (i:Int),r∈aJ5 u x n i cs->∃c,c∈cs/\∃j w,ah0 u c (H8 u (x.arity+x.locals).toNat w)=true/\r=aV8 x j c (H8 u (x.arity+x.locals).toNat w)
 | [],i,h=>by simp [aJ5] at h
 | c :: cs,i,h=>by
  rw [bk5] at h;rcases O_.1 h with h | h
  ·obtain ⟨w,h1,h2⟩:=aV6 _ _ h
   exact ⟨c,by simp,i,w,h1,h2⟩
  ·obtain ⟨c',h1,h2⟩:=aV7 cs (i+1) h
   exact ⟨c',by simp [h1],h2⟩
theorem av2 {u:List V} {r:RV}:∀rels:List Rl,r∈Pg.gnd u rels->∃x,x∈rels/\∃c,c∈x.body.clsS/\∃j w,ah0 u c (H8 u (x.arity+x.locals).toNat w)=true/\r=aV8 x j c (H8 u (x.arity+x.locals).toNat w)
 | [],h=>by simp [Pg.gnd] at h
 | x :: xs,h=>by
  rw [show Pg.gnd u (x :: xs)=aJ5 u x (x.ways u) 0 x.body.clsS++Pg.gnd u xs from rfl] at h;rcases O_.1 h with h | h
  ·obtain ⟨c,h1,h2⟩:=aV7 _ _ h
   exact ⟨x,by simp,c,h1,h2⟩
  ·obtain ⟨y,h1,h2⟩:=av2 xs h
   exact ⟨y,by simp [h1],h2⟩
theorem av0 {p:Pg} {u:List V} {rs:List RV} (h:p.gr u=some rs):rs=Pg.gnd u p.rels/\rs.length<=2000:=by
 unfold Pg.gr at h;split at h
 ·rename_i h2
  obtain rfl:=Option.some.inj h;exact ⟨rfl,h2.2⟩
 ·cases h
def Fc.toV (f:Fc):FcV:=(f.rel,f.args.map Tm.V)
def csC (o:Option (List FcV)):C:=match o with | some l=>.tup [.d (.sl (l.map fcE)),.d (.bool true)] | none=>.tup [.d (.sl []),.d (.bool false)]
theorem bX3:csC none=.tup [.d (.sl []),.d (.bool false)]:=rfl
theorem bX2 (l:List FcV):csC (some l)=.tup [.d (.sl (l.map fcE)),.d (.bool true)]:=rfl
theorem aC3 {l:List (List D)} {x:List D} (h:x∈l):wtL x<=wtR l:=by
 have:=G7 l x h;omega
theorem bE3 (l:List (List D)):l.length<=wtR l:=by
 have:=D9 l 0;simp [Y7] at this;omega
theorem aE4 {u:List Tm} (h:wtR (u.map Tm.enc)<=1048576):(∀t,t∈u->wtL t.enc<=1048576)/\u.length<=9000000:=
 ⟨fun t ht=>N_ (aC3 (x_.2 ⟨t,ht,rfl⟩)) h,by have:=bE3 (u.map Tm.enc);simp at this;omega⟩
theorem aW6 {p:Pg}:∀{l:List Rl},p.okL l=true->∀j x,l[j]? = some x->p.relOk (p.rels.length - (l.length - j)) x=true
 | [],_,j,x,h=>by simp at h
 | r :: q,ho,0,x,h=>by
  simp only [Pg.okL,f_] at ho;simp at h;subst h;exact ho.1
 | r :: q,ho,j+1,x,h=>by
  simp only [Pg.okL,f_] at ho;have:=aW6 ho.2 j x (by simpa using h);simpa using this
theorem bq5 {p:Pg} (hp:X6 p=true) {i:Nat} {x:Rl} (h:p.rels[i]? = some x):p.find x.name=(i:Int):=by
 unfold X6 at hp;rw [f_] at hp;have h1:=aW6 hp.2 i x h;have hi:=(h_.1 h).1;rw [show p.rels.length - (p.rels.length - i)=i by omega] at h1;unfold Pg.relOk at h1;simp only [f_,decide_eq_true_eq] at h1;exact h1.1.1.1.1.1.1.1
theorem aU6 {f:Fc} (h:f.args.all L9=true):f.enc=fcE (Fc.toV f):=by
 rw [Fc.enc_eq,o6];unfold Fc.toV;dsimp only;rw [y_,List.map_congr_left (g:=V.enc∘Tm.V) (fun t ht=>Tm.enc_V (i_.1 h t ht))]
theorem bv4 {p:Pg} {u:List V} {rs:List RV} (hp:X6 p=true) (hu:Uni u) (hg:p.gr u=some rs) {f:Fc} (hf:f.args.all L9=true) {k:Nat} (h:Fc.toV f∈stg rs k):p.factFits f=true:=by
 cases k with
 | zero=>simp [stg] at h
 | succ k =>
  obtain ⟨r,h1,_,h3⟩:=ah7.1 h;obtain ⟨rfl,_⟩:=av0 hg;obtain ⟨x,hx,c,_,j,w,_,rfl⟩:=av2 _ h1;obtain ⟨z1,z2,z3,z4⟩:=Pg.dims hp hx;obtain ⟨i,hi⟩:=List.getElem?_of_mem hx;have hfs:=bq5 hp hi;have hvl:=Y3 u (x.arity+x.locals).toNat w;have hvm:=Y2 hu.pos (x.arity+x.locals).toNat w;have e1:x.name=f.rel:=congrArg Prod.fst h3;have e2:(H8 u (x.arity+x.locals).toNat w).take x.arity.toNat=f.args.map Tm.V:=congrArg Prod.snd h3;have e3:p.find f.rel=(i:Int):=by rw [<-e1];exact hfs
  rw [Pg.factFits_at (r:=x) (by rw [e3];omega) (by rw [e3];simpa using hi),f_,decide_eq_true_eq,i_];refine ⟨?_,fun t ht=>?_⟩
  ·have:=congrArg List.length e2
   simp only [List.length_take,g_,hvl] at this;omega
  ·have hok:=i_.1 hf t ht
   have hm:t.V∈(H8 u (x.arity+x.locals).toNat w).take x.arity.toNat:=by rw [e2];exact x_.2 ⟨t,ht,rfl⟩
   have hv:=hu.gr _ (hvm _ (F_ hm));unfold Tm.ground;rw [hok,Tm.vars_V hok,hv];rfl
theorem bH0 {p:Pg} {u:List V} {rs:List RV} (h:p.all false=true) (hg:p.gr u=some rs):cj6 rs:=fun r hr=>by
 obtain ⟨rfl,_⟩:=av0 hg;obtain ⟨x,hx,c,hc,j,w,_,rfl⟩:=av2 _ hr;unfold Pg.all at h;rw [f_] at h;have ho:=i_.1 h.2 x hx;unfold Gl.only at ho;show z8 _ c=[];unfold z8;have:c.filter (fun g=>decide (g.kind=10))=[]:=List.filter_eq_nil_iff.2 fun g hgc=>by
  have h1:=i_.1 ho g (aG3 hc hgc);unfold Gl.onlyK at h1;simp only [f_,decide_eq_true_eq] at h1;simpa using h1.1
 rw [this];rfl
theorem bD2 {rs:List RV} {f:FcV} {i:Nat} (h1:i<=top rs) (h2:f∈stg rs i) (h3:∀j,j<i->f∉stg rs j):hgt rs f=(i:Int):=by
 unfold hgt;rw [if_pos (bC5 rs h1 f h2)];obtain ⟨k1,k2,k3⟩:=ag9 (p:=fun k=>decide (f∈stg rs k)) (n:=top rs+1);generalize ax2 (fun k=>decide (f∈stg rs k)) (top rs+1)=k at k1 k2 k3;rcases Nat.lt_trichotomy k i with e | e | e
 ·exact absurd (of_decide_eq_true (k3 (by omega))) (h3 k e)
 ·rw [e]
 ·have:=k2 i e;simp [h2] at this
theorem bD1 {rs:List RV} {f:FcV} (h:f∉stg rs (top rs)):hgt rs f=-1:=by unfold hgt;rw [if_neg h]
def bH1 (p:Pg) (u:List Tm):Option (List RV):=if p.all false=true/\S9 u=true then p.gr (u.map Tm.V) else none
theorem ao1 (p:Pg) (u:List Tm) (hw:wtL p.enc<=1048576) (hwu:∀t,t∈u->wtL t.enc<=1048576) (hlu:u.length<=9000000):Gives Tryz.prog 28 [.agg p.enc,.sl (u.map Tm.enc)] (grC (bH1 p u)):=by
 have ha:=ax8 p hw;have hb:=ax7 u hwu hlu;unfold bH1;by_cases h1:p.all false=true
 ·by_cases h2:S9 u=true
  ·rw [h1] at ha
   rw [h2] at hb;rw [if_pos ⟨h1,h2⟩];obtain ⟨hu,he⟩:=Uni.of h2;have hp:X6 p=true:=by unfold Pg.all at h1;rw [f_] at h1;exact h1.1
   have hee:u.map Tm.enc=(u.map Tm.V).map V.enc:=by rw [<-K8,<-he]
   have hgr:=ay0 p (u.map Tm.V) hp hw hu;rw [hee] at hb |-;generalize p.gr (u.map Tm.V)=O at *;cases O<;>· (
    first | rw [I1] at hgr |- | rw [ai3] at hgr |-
    refine aE_ Tryz.func28 ?_;refine rS_ Tryz.func28 ?_;simp only [go_sem,seval]
    repeat' (first
     | ((first
      | (refine ha.calls rfl ?_)
      | (refine hb.calls rfl ?_)
      | (refine hgr.calls rfl ?_))<;>(try simp only [go_sem,seval]))
     | fail)
    skip)
  ·rw [if_neg (fun h=>h2 h.2),I1]
   simp only [u_] at h2;rw [h1] at ha;rw [h2] at hb;refine aE_ Tryz.func28 ?_;refine rS_ Tryz.func28 ?_;simp only [go_sem,seval]
   repeat' (first
    | ((first
     | (refine ha.calls rfl ?_)
     | (refine hb.calls rfl ?_))<;>(try simp only [go_sem,seval]))
    | fail)
 ·rw [if_neg (fun h=>h1 h.1),I1]
  simp only [u_] at h1;rw [h1] at ha;refine aE_ Tryz.func28 ?_;refine rS_ Tryz.func28 ?_;simp only [go_sem,seval]
  repeat' (first
   | ((refine ha.calls rfl ?_)<;>(try simp only [go_sem,seval]))
   | fail)
theorem af4 (rs:List RV) (f:FcV) (hr:rs.length<=2000000):Gives Tryz.prog 31 [.sl (ag8 rs (top rs+1)),.agg (fcE f)] (.d (.int .i64 (hgt rs f))):=by
 obtain ⟨K,hK⟩:∃K,hgt rs f=K:=⟨_,rfl⟩;rw [hK,o6];obtain ⟨t1,_,_⟩:=O9 rs;refine aE_ Tryz.func31 ?_;refine rS_ Tryz.func31 ?_;simp only [go_sem,seval];refine AW.lp [3,7,8] (fun i:Nat=>[(9,.d (.int .i64 (i:Int)))]) (fun H _=>H) (fun i=>i<=top rs+1/\∀j,j<i->f∉stg rs j) (fun i=>top rs+1 - i) 0 ⟨p_ _,fun j hj=>by omega⟩ A7 ?_;intro i hi hni;obtain ⟨i1,i2⟩:=hi;by_cases hit:i<top rs+1
 ·have n1:(i:Int)<(top rs:Int)+1:=by omega
  have hat:=ae9 rs hit;have hsl:=V6 rs i;have w1:IntKind.i64.wrap ((i:Int)+1)=(i:Int)+1:=j6 (by omega) (by omega);by_cases hf:f∈stg rs i
  ·rw [bD2 (by omega) hf i2] at hK
   subst hK;have he:=Y0 (stg rs i) f (by omega) (Y9 rs i);rw [decide_eq_true hf,o6] at he;refine rS_ Tryz.func31 ?_;simp only [go_sem,seval,n1,j5 hat]
   repeat' (first
    | ((refine he.calls rfl ?_)<;>(try simp only [go_sem,seval,n1,j5 hat]))
    | fail)
  ·have he:=Y0 (stg rs i) f (by omega) (Y9 rs i)
   rw [decide_eq_false hf,o6] at he;refine rS_ Tryz.func31 ?_;simp only [go_sem,seval,n1,j5 hat]
   repeat' (first
    | ((refine he.calls rfl ?_)<;>(try simp only [go_sem,seval,n1,j5 hat,w1]))
    | fail)
   refine hni (i+1) _ ⟨by omega,fun j hj=>?_⟩ (by omega) A7;rcases M_ j i with e | e
   ·exact i2 j e
   ·rw [show j=i by omega];exact hf
 ·have n1:¬(i:Int)<(top rs:Int)+1:=by omega
  rw [bD1 (i2 _ (by omega))] at hK;subst hK;refine rS_ Tryz.func31 ?_;simp only [go_sem,seval,n1]
theorem am6 (rs:List RV) (f:FcV) (hr:rs.length<=2000000):Gives Tryz.prog 48 [.sl (ag8 rs (top rs+1)),.agg (fcE f)] (.d (.int .i64 (hgt rs f))):=by
 obtain ⟨K,hK⟩:∃K,hgt rs f=K:=⟨_,rfl⟩;rw [hK,o6];obtain ⟨t1,_,_⟩:=O9 rs;refine aE_ Tryz.func48 ?_;refine rS_ Tryz.func48 ?_;simp only [go_sem,seval];refine AW.lp [3,7,8] (fun i:Nat=>[(9,.d (.int .i64 (i:Int)))]) (fun H _=>H) (fun i=>i<=top rs+1/\∀j,j<i->f∉stg rs j) (fun i=>top rs+1 - i) 0 ⟨p_ _,fun j hj=>by omega⟩ A7 ?_;intro i hi hni;obtain ⟨i1,i2⟩:=hi;by_cases hit:i<top rs+1
 ·have n1:(i:Int)<(top rs:Int)+1:=by omega
  have hat:=ae9 rs hit;have hsl:=V6 rs i;have w1:IntKind.i64.wrap ((i:Int)+1)=(i:Int)+1:=j6 (by omega) (by omega);by_cases hf:f∈stg rs i
  ·rw [bD2 (by omega) hf i2] at hK
   subst hK;have he:=ah9 (stg rs i) f (by omega);rw [decide_eq_true hf,o6] at he;refine rS_ Tryz.func48 ?_;simp only [go_sem,seval,n1,j5 hat]
   repeat' (first
    | ((refine he.calls rfl ?_)<;>(try simp only [go_sem,seval,n1,j5 hat]))
    | fail)
  ·have he:=ah9 (stg rs i) f (by omega)
   rw [decide_eq_false hf,o6] at he;refine rS_ Tryz.func48 ?_;simp only [go_sem,seval,n1,j5 hat]
   repeat' (first
    | ((refine he.calls rfl ?_)<;>(try simp only [go_sem,seval,n1,j5 hat,w1]))
    | fail)
   refine hni (i+1) _ ⟨by omega,fun j hj=>?_⟩ (by omega) A7;rcases M_ j i with e | e
   ·exact i2 j e
   ·rw [show j=i by omega];exact hf
 ·have n1:¬(i:Int)<(top rs:Int)+1:=by omega
  rw [bD1 (i2 _ (by omega))] at hK;subst hK;refine rS_ Tryz.func48 ?_;simp only [go_sem,seval,n1]
theorem aK9 (rs:List RV) (hr:rs.length<=1000000):Gives Tryz.prog 45 [.sl (rs.map rvE)] (.d (.sl (ag8 rs (top rs+1)))):=by
 have hmx:maxLen=9223372036854775807:=rfl;obtain ⟨t1,t2,t3⟩:=O9 rs;obtain ⟨RES,hRES⟩:∃RES,ag8 rs (top rs+1)=RES:=⟨_,rfl⟩;rw [hRES];refine aE_ Tryz.func45 ?_;refine l7 Tryz.func45 mixed 3 _ _ (by kernel_rfl) ?_;simp only [go_sem,seval,run.eq_1];refine bt0 ?_;simp only [go_sem,seval]
 repeat' (first
  | ((refine E9 (fun Bz=>?_))<;>(try simp only [go_sem,seval]))
  | fail)
 refine AW.treeB 0 rfl (by simp [D.flat]) ?_;refine bE2 0 rfl ?_;refine rS_ Tryz.func45 ?_;simp only [go_sem,seval];refine AW.lp [0] (fun k:Nat=>[(3,.own 0 k)]) (fun _ k=>[.grow k 1 99 (ag8 rs (k+1))]) (fun k=>k<=top rs) (fun k=>top rs - k) 0 (p_ _) (by refine ⟨by simp [mkS,aV2],by simp [mkS,aV2],by simp only [mkS,c_,e_,O.refsLt,C.refsLt,C.refsLt1,l8];first | done | rfl | (simp;done),?_⟩;simp [mkS,Abs.get,C.refsLtT,C.refsLt,C.refsLt1]) ?_;intro k hk hnk;have w1:IntKind.i64.wrap ((k:Int)+1 - 1)=(k:Int):=by rw [j6 (by omega) (by omega)];omega
 have n1:(k:Int)<(k:Int)+1:=by omega
 have hat:=ae9 rs (i:=k) (m:=k+1) (by omega);have hl1:=V6 rs k;have hl2:=V6 rs (k+1);have hc:Gives Tryz.prog 76 [.sl (rs.map rvE),.sl ((stg rs k).map fcE),.sl []] (.d (.sl ((stg rs (k+1)).map fcE))):=bd0 rs (stg rs k) [] (by omega) (by simp) hr;have hmap:∀x:List FcV,(x.map fcE).length=x.length:=fun x=>g_ _;have heq:=az0 (rs:=rs) (k:=k);by_cases hs:stg rs (k+1)=stg rs k
 ·have hkt:k=top rs:=bC2 hs (fun j hj=>t3 j (by omega))
  have n2:((stg rs (k+1)).length:Int)=((stg rs k).length:Int):=by rw [heq.2 hs]
  rw [<-hkt] at hRES;rw [<-hRES];refine rS_ Tryz.func45 ?_;simp only [go_sem,seval,w1,n1,j5 hat,hmap]
  repeat' (first
   | ((refine hc.calls rfl ?_)<;>(try simp only [go_sem,seval,w1,n1,j5 hat,n2,hmap]))
   | fail)
 ·have n2:¬((stg rs (k+1)).length:Int)=((stg rs k).length:Int):=fun h=>hs (heq.1 (by omega))
  have hkt:k<top rs:=by
   rcases M_ k (top rs) with h | h
   ·exact h
   ·rw [show k=top rs by omega] at hs;exact absurd t2 hs
  refine rS_ Tryz.func45 ?_;simp only [go_sem,seval,w1,n1,j5 hat,hmap]
  repeat' (first
   | ((first
    | (refine hc.calls rfl ?_)
    | (refine ⟨sd,?_⟩))<;>(try simp only [go_sem,seval,w1,n1,j5 hat,n2,hmap]))
   | fail)
  all_goals first | (exact absurd (by assumption) n2) | skip
  refine hnk (k+1) _ (by omega) (by omega) (by refine ⟨by simp [mkS,aV1],by simp [mkS,aV1],by simp only [mkS,c_,e_,O.refsLt,C.refsLt,C.refsLt1,l8];first | done | rfl | (simp;done),?_⟩;simp [mkS,Abs.get,C.refsLtT,C.refsLt,C.refsLt1])
def cl5 (o:Option (List RV)):C:=match o with | some rs=>.tup [.d (.sl (rs.map rvE)),.d (.sl (ag8 rs (top rs+1))),.d (.bool true)] | none=>.tup [.d (.sl []),.d (.sl []),.d (.bool false)]
theorem aN3 (rs:List RV):cl5 (some rs)=.tup [.d (.sl (rs.map rvE)),.d (.sl (ag8 rs (top rs+1))),.d (.bool true)]:=rfl
theorem aj1:cl5 none=.tup [.d (.sl []),.d (.sl []),.d (.bool false)]:=rfl
theorem aY9 {p:Pg} (h:p.all false=true):X6 p=true:=by unfold Pg.all at h;rw [f_] at h;exact h.1
theorem bn6 (p:Pg) (u:List Tm) (hw:wtL p.enc<=1048576) (hwu:∀t,t∈u->wtL t.enc<=1048576) (hlu:u.length<=9000000):Gives Tryz.prog 23 [.agg p.enc,.sl (u.map Tm.enc)] (cl5 (bH1 p u)):=by
 have ha:=ax4 p hw;have hgr:=ar8 p u hw hwu hlu;have hpo:bH1 p u=if p.all false=true then Pg.grO p u else none:=by
  unfold bH1 Pg.grO;by_cases h1:p.all false=true
  ·by_cases h2:S9 u=true
   ·rw [if_pos ⟨h1,h2⟩,if_pos h1,if_pos ⟨aY9 h1,h2⟩]
   ·rw [if_neg (fun h=>h2 h.2),if_pos h1,if_neg (fun h=>h2 h.2)]
  ·rw [if_neg (fun h=>h1 h.1),if_neg h1]
 rw [hpo];by_cases h1:p.all false=true
 ·rw [if_pos h1]
  rw [h1] at ha;have hrl:∀rs,Pg.grO p u=some rs->rs.length<=2000:=fun rs h=>by
   unfold Pg.grO at h;split at h
   ·exact (av0 h).2
   ·cases h
  generalize Pg.grO p u=O at *;cases O with
  | none =>
   rw [I1] at hgr;rw [aj1];refine aE_ Tryz.func23 ?_;refine rS_ Tryz.func23 ?_;simp only [go_sem,seval]
   repeat' (first
    | ((first
     | (refine ha.calls rfl ?_)
     | (refine hgr.calls rfl ?_))<;>(try simp only [go_sem,seval]))
    | fail)
  | some rs =>
   have hst:=aK9 rs (by have:=hrl rs rfl;omega);rw [ai3] at hgr;rw [aN3];generalize ag8 rs (top rs+1)=SD at *;refine aE_ Tryz.func23 ?_;refine rS_ Tryz.func23 ?_;simp only [go_sem,seval]
   repeat' (first
    | ((first
     | (refine ha.calls rfl ?_)
     | (refine hgr.calls rfl ?_)
     | (refine hst.calls rfl ?_))<;>(try simp only [go_sem,seval]))
    | fail)
 ·rw [if_neg h1,aj1]
  simp only [u_] at h1;rw [h1] at ha;refine aE_ Tryz.func23 ?_;refine rS_ Tryz.func23 ?_;simp only [go_sem,seval]
  repeat' (first
   | ((refine ha.calls rfl ?_)<;>(try simp only [go_sem,seval]))
   | fail)
theorem bJ9 {p:Pg} {f:Fc} (h:p.factFits f=true):f.args.all L9=true:=by
 unfold Pg.factFits at h;split at h
 ·simp only [f_] at h
  exact i_.2 fun t ht=>F8 (i_.1 h.2 t ht)
 ·cases h
def pvC (o:Option Pf):C:=match o with | some pr=>.tup [.d (.agg pr.enc),.d (.bool true)] | none=>.tup [.d (.agg [.str [],.int .i64 0,.sl [],.sl []]),.d (.bool false)]
theorem M7:pvC none=.tup [.d (.agg [.str [],.int .i64 0,.sl [],.sl []]),.d (.bool false)]:=rfl
theorem ao9 (pr:Pf):pvC (some pr)=.tup [.d (.agg pr.enc),.d (.bool true)]:=rfl
theorem aQ6 (rs:List RV) (hr:rs.length<=2000) (hv:bM8 rs):∀(n:Nat) (f:FcV) (m:Int),(f∈stg rs (top rs)->hN rs f<=n)->-1000000<=m->m<=200->Gives Tryz.prog 25 [.sl (rs.map rvE),.sl (ag8 rs (top rs+1)),.agg (fcE f),.int .i64 m] (pvC (aY5 rs n f m)):=by
 intro n;induction n with
 | zero =>
  intro f m hf hm0 hm1;have hno:f∉stg rs (top rs):=fun h=>by obtain ⟨j,_,h2,_⟩:=I9 h;have:=hf h;omega
  have hh:=am6 rs f (by omega);rw [au6 hno,o6] at hh;rw [aY5,M7,o6];refine aE_ Tryz.func25 ?_;refine rS_ Tryz.func25 ?_;simp only [go_sem,seval]
  repeat' (first
   | ((refine hh.calls rfl ?_)<;>(try simp only [go_sem,seval]))
   | fail)
 | succ n ih =>
  intro f m hf hm0 hm1;have hmx:maxLen=9223372036854775807:=rfl;have t1:=(O9 rs).1;have hh:=am6 rs f (by omega);by_cases hin:f∈stg rs (top rs)
  ·obtain ⟨j,h1,h2,h3,h4,h5⟩:=I9 hin
   obtain ⟨r,r1,r2,r3,r4⟩:=Z6 hin;have hj1:((j+1:Nat):Int)=(j:Int)+1:=by omega
   rw [h1,hj1,o6] at hh;by_cases hm:m<1
   ·rw [aY5,if_pos (.inr hm),M7,o6]
    have n1:¬(j:Int)+1<1:=by omega
    refine aE_ Tryz.func25 ?_;refine rS_ Tryz.func25 ?_;simp only [go_sem,seval,n1,hm]
    repeat' (first
     | ((refine hh.calls rfl ?_)<;>(try simp only [go_sem,seval,n1,hm]))
     | fail)
   ·obtain ⟨RES,hRES⟩:∃x,aY5 rs (n+1) f m=x:=⟨_,rfl⟩
    rw [hRES];rw [aY5,if_neg (by rw [h1];omega),r1] at hRES;dsimp only at hRES;rw [bl1] at r1;have hN1:hN rs f - 1=j:=by omega
    have n1:¬(j:Int)+1<1:=by omega
    have hat:=ae9 rs (i:=j) (m:=top rs+1) (by omega);have hsl:=V6 rs j;have w1:IntKind.i64.wrap ((j:Int)+1 - 1)=(j:Int):=by rw [j6 (by omega) (by omega)];omega
    have n2:(j:Int)<(top rs:Int)+1:=by omega
    rw [o6];refine aE_ Tryz.func25 ?_;refine rS_ Tryz.func25 ?_;simp only [go_sem,seval,n1,hm]
    repeat' (first
     | ((refine hh.calls rfl ?_)<;>(try simp only [go_sem,seval,n1,hm]))
     | fail)
    refine AW.rng rs [0,1,3,6,8,10,29,30] 31 29 (fun _:Unit=>[]) (fun H _=>H) (fun q _=>q.find? (rlP rs f)=some r) () rfl (by simp) r1 A7 (fun i x q b hxi hdr hlt hml hinv hnext=>?_) (fun b hinv=>by cases hinv);have hRE:=A8 x;have hcm:Gives Tryz.prog 49 [.agg [.str x.head.1,.sl (x.head.2.map V.enc)],.agg [.str f.1,.sl (f.2.map V.enc)]] (.d (.int .i64 (x.head.cmp f))):=X7 x.head f;have hfi:=au0 x (stg rs j) [] (by omega) (by simp);rw [bq3,hRE] at hfi;rw [P_] at hinv;by_cases hc:x.head.cmp f=0
    ·have hxf:=(FcV.cmp_lin.zero _ _).1 hc
     rw [hc] at hcm;cases hfp:(x.pos.all fun k=>decide (k∈stg rs j)) with
     | true =>
      have hP:rlP rs f x=true:=by unfold rlP;rw [hN1,hfp,hxf];simp
      rw [hP] at hinv;obtain rfl:=Option.some.inj hinv;rw [hfp] at hfi;have hvx:=hv x r2;have hcp:=U8 x.values hvx.1;refine l7 Tryz.func25 mixed 15 _ _ (by kernel_rfl) ?_;simp only [go_sem,seval,run.eq_1,hlt,j5 hxi,A8,w1,n2,j5 hat]
      repeat' (first
       | ((first
        | (refine hcm.callQ rfl ?_)
        | (refine hfi.callQ rfl ?_))<;>(try simp only [go_sem,seval,hlt,j5 hxi,A8,w1,n2,j5 hat,run.eq_1]))
       | fail)
      obtain ⟨KB,hKB⟩:∃y,aE8 (aY5 rs n) x.pos (m - 1) []=y:=⟨_,rfl⟩;have hwm:IntKind.i64.wrap (m - 1)=m - 1:=j6 (by omega) (by omega);have hpl:=hvx.2.2.1;have hfn:=hf hin;refine AW.drawA mixed #[true,true,true,true,true,true,true,true,true,false] [(0,.box [.d (.str f.1),.d (.sl (f.2.map V.enc))]),(2,.box [.d (.str x.head.1),.d (.sl (x.head.2.map V.enc)),.d (.int .i64 x.clause),.d (.sl (x.values.map V.enc)),.d (.sl (x.pos.map fcE)),.d (.sl (x.neg.map fcE))])] [] [0,1,2,3,4,5,8,6,7] [9] (some (8,13,34,[.string ⟨#[]⟩,.int .i64 0,.slice none 0 0,.slice none 0 0])) (by kernel_rfl) bM6 (by simp [x8]) ?_;simp only [go_sem,seval]
      repeat' (first
       | ((refine hcp.calls rfl ?_)<;>(try simp only [go_sem,seval]))
       | fail)
      refine AW.adoptGB 3 3 4 34 (by decide) rfl rfl ?_;refine rS_ Tryz.func25 ?_;simp only [go_sem,seval,hwm];refine AW.rng x.pos [0,1,8,13,61,62] 63 61 (fun u:Int×List Pf=>[(14,.d (.int .i64 u.1))]) (fun _ u=>[.box [.d (.str f.1),.d (.sl (f.2.map V.enc))],.box [.d (.str []),.d (.int .i64 0),.nil0,.nil0],.box [.d (.str x.head.1),.d (.sl (x.head.2.map V.enc)),.d (.int .i64 x.clause),.d (.sl (x.values.map V.enc)),.d (.sl (x.pos.map fcE)),.d (.sl (x.neg.map fcE))],.box [.d (.str f.1),.d (.int .i64 x.clause),.d (.sl (x.values.map V.enc)),.own 4 u.2.length],.grow u.2.length 4 34 (u.2.map Pf.enc)]) (fun s u=>0<=u.1/\u.1<=200/\u.2.length+s.length=x.pos.length/\aE8 (aY5 rs n) s u.1 u.2=KB/\∀k,k∈s->k∈x.pos) (m - 1,[]) rfl (by simp) ⟨by dsimp only;omega,by dsimp only;omega,by simp,hKB,fun k h=>h⟩ A7 (fun i2 y s u hyi hds hl2 hm2 hinv2 hnext2=>?_) (fun u hinv2=>?_)
      ·obtain ⟨left,K⟩:=u
       obtain ⟨q1,q2,q3,q4,q5⟩:=hinv2;dsimp only at q1 q2 q3 q4 hnext2 |-;simp only [d_] at q3;have hy:=r4 y (q5 y (by simp));have hrec:=ih y left (fun _=>by omega) (by omega) q2;have hbe:=aT3 rs n y left hy.1 (by omega) q2;have hwt:=bl8 hv.w n y hy.1 (by omega);rw [aE8,hbe] at q4;rw [hbe,o6] at hrec;have hnx:=fun l2 K' s'=>hnext2 (l2,K') s';clear hnext2;by_cases hcl:((prT rs n y).cnt:Int)<=left
       ·rw [if_pos hcl] at q4 hrec
        dsimp only at q4;generalize prT rs n y=t at *;have h4:=(Pf.count_spec t 200).2.2.1 (by omega);have hco:=aQ5 t 200 (by omega) (by omega) (by omega);rw [h4] at hco q4;rw [Pf.enc_eq t] at hco;rw [ao9,Pf.enc_eq t] at hrec;have hcp:=Pf.cnt_pos t;have hws:IntKind.i64.wrap (left - (t.cnt:Int))=left - (t.cnt:Int):=j6 (by omega) (by omega);refine rS_ Tryz.func25 ?_;simp only [go_sem,seval,hl2,j5 hyi,o6]
        repeat' (first
         | (simp (disch:=omega) only [j6])
         | ((first
          | (refine hrec.calls rfl ?_)
          | (refine hco.calls rfl ?_)
          | (refine ⟨sd,?_⟩))<;>(try simp only [go_sem,seval,hl2,j5 hyi,o6,hws]))
         | fail)
        refine hnx (left - t.cnt) (K++[t]) _ ⟨by omega,by omega,by simp;omega,q4,fun k h=>q5 k (by simp [h])⟩ (by refine ⟨by simp [mkS,Pf.enc_eq t],by simp [mkS,Pf.enc_eq t],by simp only [mkS,c_,e_,O.refsLt,C.refsLt,C.refsLt1,l8];first | done | rfl | (simp;done),?_⟩;simp [mkS,Abs.get,C.refsLtT,C.refsLt,C.refsLt1])
       ·rw [if_neg hcl] at q4 hrec
        dsimp only at q4;rw [<-q4] at hKB;rw [hKB] at hRES;dsimp only at hRES;rw [M7] at hrec;rw [<-hRES,M7];refine rS_ Tryz.func25 ?_;simp only [go_sem,seval,hl2,j5 hyi,o6]
        repeat' (first
         | ((refine hrec.calls rfl ?_)<;>(try simp only [go_sem,seval,hl2,j5 hyi,o6]))
         | fail)
      ·obtain ⟨left,K⟩:=u
       obtain ⟨_,_,_,q4,_⟩:=hinv2;dsimp only at q4 |-;rw [aE8] at q4;rw [hKB,<-q4] at hRES;dsimp only at hRES;have hvm:(x.values.map V.tm).map Tm.enc=x.values.map V.enc:=by rw [y_];rfl
       rw [<-hRES,ao9,Pf.enc_eq];simp only [Pf.rel,Pf.clause,Pf.values,Pf.kids,hvm];refine rS_ Tryz.func25 ?_;simp only [go_sem,seval]
     | false =>
      have hP:rlP rs f x=false:=by unfold rlP;rw [hN1,hfp];simp
      rw [hP] at hinv;rw [hfp] at hfi;refine rS_ Tryz.func25 ?_;simp only [go_sem,seval,hlt,j5 hxi,A8,w1,n2,j5 hat]
      repeat' (first
       | (simp (disch:=omega) only [j6])
       | ((first
        | (refine hcm.callQ rfl ?_)
        | (refine hfi.callQ rfl ?_))<;>(try simp only [go_sem,seval,hlt,j5 hxi,A8,w1,n2,j5 hat]))
       | fail)
      refine hnext () _ hinv A7
    ·have hP:rlP rs f x=false:=by
      unfold rlP;have:¬x.head=f:=fun e=>hc ((FcV.cmp_lin.zero _ _).2 e);simp [this]
     rw [hP] at hinv;refine rS_ Tryz.func25 ?_;simp only [go_sem,seval,hlt,j5 hxi,A8,w1,n2,j5 hat,hc]
     repeat' (first
      | ((refine D5 (fun hq=>?_) (fun hq=>?_))<;>(try simp only [go_sem,seval,hlt,j5 hxi,A8,w1,n2,j5 hat,hc,hq]))
      | (simp (disch:=omega) only [j6])
      | ((refine hcm.callQ rfl ?_)<;>(try simp only [go_sem,seval,hlt,j5 hxi,A8,w1,n2,j5 hat,hc]))
      | fail)
     all_goals first | (exact absurd (by assumption) hc) | skip
     refine hnext () _ hinv A7
  ·rw [au6 hin,o6] at hh
   rw [aY5,if_pos (.inl (by rw [au6 hin];omega)),M7,o6];refine aE_ Tryz.func25 ?_;refine rS_ Tryz.func25 ?_;simp only [go_sem,seval]
   repeat' (first
    | ((refine hh.calls rfl ?_)<;>(try simp only [go_sem,seval]))
    | fail)
set_option maxHeartbeats 4000000
theorem an1 (l:List (List UInt8)) (by_:List UInt8) (hb:(ac0 by_ l).length<=1000000000):Gives Tryz.prog 143 [.sl (aN4 l),.str by_] (.d (.str (ac0 by_ l))):=by
 have hmx:maxLen=9223372036854775807:=rfl;refine aE_ Tryz.func143 ?_;refine rS_ Tryz.func143 ?_;simp only [go_sem,seval,G5];refine AW.adopt 5 1 5 (by decide) rfl ?_;refine AW.rng l [1,9,10] 11 9 (fun p:Nat×List UInt8=>[(5,.own 0 p.1)]) (fun _ p=>[.grow p.1 1 5 (bytesD p.2)]) (fun r p=>bh2 by_ l r p.2) (0,[]) rfl (by simp [aN4]) ⟨fun _=>rfl,fun h=>by simp at h⟩ (by refine ⟨by simp [mkS,bytesD],by simp [mkS,bytesD],by simp only [mkS,c_,e_,O.refsLt,C.refsLt,C.refsLt1,l8];first | done | rfl | (simp;done),?_⟩;simp [mkS,Abs.get,C.refsLtT,C.refsLt,C.refsLt1]) (fun i x r p hxi hdr hlt hm hinv hnext=>?_) (fun p hinv=>?_)
 ·obtain ⟨q,acc⟩:=p
  dsimp only at hinv |-;obtain ⟨j1,j2⟩:=aA5 hdr hinv;have j3:=bo5 hdr hinv;by_cases hi:0<i
  ·rw [if_pos hi] at j3
   have hi':(0:Int)<i:=by omega
   refine rS_ Tryz.func143 ?_;simp only [go_sem,seval,hlt,hi',j5 (bj6 hxi),G5,ad9,H7]
   repeat' (first
    | (simp (disch:=omega) only [j6])
    | (refine hnext (q+1+1,acc++by_++x) _ (j2 hi) I4)
    | ((refine ⟨sd,?_⟩)<;>(try simp only [go_sem,seval,hlt,hi',ad9,H7]))
    | fail)
  ·rw [if_neg hi] at j3
   obtain ⟨rfl,j4⟩:=j1 (by omega);have hi':¬(0:Int)<i:=by omega
   refine rS_ Tryz.func143 ?_;simp only [go_sem,seval,hlt,hi',j5 (bj6 hxi),G5,ad9,H7]
   repeat' (first
    | (simp (disch:=omega) only [j6])
    | (refine hnext (q+1,x) _ j4 I4)
    | ((refine ⟨sd,?_⟩)<;>(try simp only [go_sem,seval,hlt,hi',ad9,H7]))
    | fail)
 ·rw [<-bo6 hinv]
  refine rS_ Tryz.func143 ?_;simp only [go_sem,seval,ae4,bg2]
open Go.RowKit Go.Abs
theorem bs6 (b:Nat) (w:World) (h0:w.cell? ⟨b,0,none⟩=some (.pointer none)) (hsh:w.shape? b=some (201,2)) (hfz:w.frozen? ⟨b,0,none⟩=false) :
  Calls Tryz.prog 189 #[.pointer (some ⟨b,0,none⟩)] w fun e w'=>e=.returned (.tuple #[])/\w'=w.setCell ⟨b,0,none⟩ (.pointer (some ⟨b,0,none⟩)):=by
 obtain ⟨j,hj,hjs⟩:=D_.1 (show (Tryz.prog.info? 201).map (·.size)=some 2 by kernel_rfl);go_enter Tryz.func189,Tryz.ntmps189
 go_wp2
 rw [Lib.run_to_unsafe w ⟨b,0,none⟩ Tryz.underlying199 Tryz.underlying187 hj (by rw [hjs];decide) hsh (Nat.zero_lt_succ 1)];simp only [Result.andThen];rw [Oper.upon_value];go_wp2
 rw [run_callFunc_extern Tryz.func203 (by kernel_rfl) (by kernel_rfl) (by kernel_rfl) (e:=Extern.AbiNoEscape.same) (by kernel_rfl)];rw [Lib.run_noEscape];simp only [Result.andThen];rw [Oper.upon_value];go_wp2
 rw [Lib.run_from_unsafe w ⟨b,0,none⟩ Tryz.underlying187 Tryz.underlying199 hj hsh (by kernel_rfl)];simp only [Result.andThen];rw [Oper.upon_value];go_wp2
 go_end0
 exact ⟨rfl,rfl⟩
theorem bB3 (b:Nat) (w:World) (h0:w.cell? ⟨b,0,none⟩=some (.pointer (some ⟨b,0,none⟩))) :
  Calls Tryz.prog 189 #[.pointer (some ⟨b,0,none⟩)] w fun e w'=>e=.returned (.tuple #[])/\w'=w:=by
 obtain ⟨j,hj,hjs⟩:=D_.1 (show (Tryz.prog.info? 201).map (·.size)=some 2 by kernel_rfl);go_enter Tryz.func189,Tryz.ntmps189
 go_wp2
 rw [Lib.run_neq_ptr_same w _ Tryz.underlying199 hj];go_wp2
 go_end0
 exact ⟨rfl,rfl⟩
theorem O1 (b:Nat) (p v:Value) (bs l:List UInt8) (w:World) (hp:p=.pointer none\/p=.pointer (some ⟨b,0,none⟩))
  (hb:w.heap[b]? = some (.cells #[p,v] 201 (0,0))) (hv:aT7 w 5 v bs) (hne:ownB v≠some b) (hm:bs.length+l.length<=maxLen) (hby:(bs.length+l.length) * 1<=140737488355328) :
  Calls Tryz.prog 184 #[.pointer (some ⟨b,0,none⟩),.string ⟨l.toArray⟩] w fun e w'=>e=.returned (.tuple #[.int .i64 l.length,.nilIface]) /\
   ∃v' w2,w'=w2.setCell ⟨b,1,none⟩ v'/\w2.heap[b]? = some (.cells #[.pointer (some ⟨b,0,none⟩),v] 201 (0,0))/\aT7 w2 5 v' (bs++l) /\
    w2.os=w.os/\w2.tape=w.tape/\w2.output=w.output/\w.heap.size<=w2.heap.size/\(∀k,k<w.heap.size->k≠b->ownB v≠some k->w2.heap[k]? = w.heap[k]?) /\
    (∀k,ownB v'=some k->ownB v=some k\/w.heap.size<=k):=by
 have hcc:Calls Tryz.prog 189 #[.pointer (some ⟨b,0,none⟩)] w fun e w1=>e=.returned (.tuple #[])/\w1.heap[b]? = some (.cells #[.pointer (some ⟨b,0,none⟩),v] 201 (0,0)) /\
   (∀k,k≠b->w1.heap[k]? = w.heap[k]?)/\w1.heap.size=w.heap.size/\w1.os=w.os/\w1.tape=w.tape/\w1.output=w.output:=by
  have c0:w.cell? ⟨b,0,none⟩=some p:=by rw [Lib.cell_of_heap hb];rfl
  rcases hp with rfl | rfl
  ·refine (bs6 b w c0 (by simp [World.shape?,hb]) (Lib.frozen_of_heap hb 0)).mono ?_
   rintro e w' ⟨rfl,rfl⟩;exact ⟨rfl,by rw [heap_setCell_same _ _ _ _ _ _ hb];rfl,fun k hk=>heap_setCell_other _ _ _ _ hk,by simp,rfl,rfl,rfl⟩
  ·refine (bB3 b w c0).mono ?_
   rintro e w' ⟨rfl,rfl⟩;exact ⟨rfl,hb,fun _ _=>rfl,rfl,rfl,rfl,rfl⟩
 go_enter Tryz.func184,Tryz.ntmps184
 go_wp2_with (go_at_call 189;refine hcc.mono ?_)
 rintro e w1 ⟨rfl,hbk,hk1,hs1,ho1,ht1,hq1⟩;have hv1:aT7 w1 5 v bs:=hv.same fun k hk=>hk1 k (fun e=>hne (by rw [<-e];exact hk));have c0:w1.cell? ⟨b,0,none⟩=some (.pointer (some ⟨b,0,none⟩)):=by rw [Lib.cell_of_heap hbk];rfl
 have c1:w1.cell? ⟨b,1,none⟩=some v:=by rw [Lib.cell_of_heap hbk];rfl
 go_wp2_with (at_builtin;refine aC4 rfl _ _ 114 9 rfl (by kernel_rfl) (by kernel_rfl) rfl hv1 rfl hm hby ?_)
 intro v' w2 hr hA;have hlt:b<w1.heap.size:=(Array.getElem?_eq_some_iff.1 hbk).1;have hb2:w2.heap[b]? = some (.cells #[.pointer (some ⟨b,0,none⟩),v] 201 (0,0)):=by
  rw [hA.blk b hlt hne];exact hbk
 have d0:w2.cell? ⟨b,0,none⟩=some (.pointer (some ⟨b,0,none⟩)):=by rw [Lib.cell_of_heap hb2];rfl
 have d1:w2.cell? ⟨b,1,none⟩=some v:=by rw [Lib.cell_of_heap hb2];rfl
 have f1:w2.frozen? ⟨b,1,none⟩=false:=Lib.frozen_of_heap hb2 1;obtain ⟨ao,n',cap,rfl⟩:∃ao n' cap,v'=.slice ao n' cap:=by
  rcases hr with ⟨a,hv,_⟩ | ⟨g,cap,cur,hv,_⟩
  ·exact ⟨_,_,_,hv⟩
  ·exact ⟨_,_,_,hv⟩
 go_wp2
 go_ret2
 refine ⟨by simp,_,w2,rfl,hb2,hr,hA.os.trans ho1,hA.tape.trans ht1,hA.output.trans hq1,by rw [<-hs1];exact hA.size,fun k hk hkb hkv=>(hA.blk k (by rw [hs1];exact hk) hkv).trans (hk1 k hkb),fun k hk=>?_⟩;rcases hA.new k hk with h | h
 ·exact .inl h
 ·exact .inr (by rw [<-hs1];exact h)
theorem bg3 (b g cap:Nat) (p:Value) (cur:Array Value) (l:List UInt8) (w:World)
  (hb:w.heap[b]? = some (.cells #[p,.slice (some ⟨g,0,none⟩) l.length cap] 201 (0,0))) (hg:w.heap[g]? = some (.cells cur 5 (0,0)))
  (h0:l≠[]) (hc:l.length<=cap) (hm:cap<=maxLen) (hs:cur.size=cap) (ht:∀(j:Nat) (x:UInt8),l[j]? = some x->cur[j]? = some (.int .u8 x.toNat)) :
  Calls Tryz.prog 166 #[.pointer (some ⟨b,0,none⟩)] w fun e w'=>e=.returned (.string ⟨l.toArray⟩)/\w'=w.drew.freeze ⟨g,0,none⟩ l.length:=by
 have hl0:l.length≠0:=by simpa using h0
 have c1:w.drew.cell? ⟨b,1,none⟩=some (.slice (some ⟨g,0,none⟩) l.length cap):=by
  have:w.drew.heap[b]? = some (.cells #[p,.slice (some ⟨g,0,none⟩) l.length cap] 201 (0,0)):=hb;rw [Lib.cell_of_heap this];rfl
 have hg':w.drew.heap[g]? = some (.cells cur 5 (0,0)):=hg;have hSD:∀ts ty,(Builtin.unsafeSliceData_ ts ty #[.slice (some ⟨g,0,none⟩) l.length cap]).run Tryz.prog w.drew=.ok (.pointer (some ⟨g,0,none⟩)) w.drew:=
  fun _ _=>Lib.run_unsafeSliceData_row _ _ _ _ _ _ (by omega)
 have hUS:(Builtin.unsafeString_ #[216,3] 9 #[.pointer (some ⟨g,0,none⟩),.int .i64 l.length]).run Tryz.prog w.drew=.ok (.string ⟨l.toArray⟩) (w.drew.freeze ⟨g,0,none⟩ l.length):=by
  refine Lib.run_unsafeString_row w.drew 216 3 9 5 Tryz.underlying216 (by kernel_rfl) g cur.size (by simp [World.shape?,hg']) l h0 (by omega) (by unfold maxLen at hm;omega) ?_;intro j x hx;rw [Abs.Addr.add_mk,Nat.zero_add,Lib.cell_of_heap hg'];exact ht j x hx
 have mixed:Tryz.prog.follows .mixedOrders=true:=by kernel_rfl
 go_enter Tryz.func166,Tryz.ntmps166
 go_wp2
 go_region_o
 all_goals (go_wp2;go_ret;exact ⟨rfl,rfl⟩)
def ae1:O:=.tab 0 (Lib.pow10Tab.map fun z=>Value.int .u64 z)
@[go_sem ↓ 10000] theorem ar4 (m:Nat):ae1.refsLt m=true:=rfl
theorem bI4 (n:Int) (h0:-1000000000<=n) (h1:n<=1000000000):ACalls Tryz.prog 190 [.d (.int .i64 n)] [ae1] (fun c H'=>c=.d (.str (dec n))/\H'=[ae1]):=
 bd9 (P:=Tryz.prog) (tx:=dec) (fun n a b w h=>Tryz.strconv_Itoa n a b w h) (by kernel_rfl) (by decide) n (by omega) (by omega)
theorem X9 (n:Int) (h0:-1000000000<=n) (h1:n<=1000000000):ACalls Tryz.prog 185 [.d (.int .i64 n)] [ae1] (fun c H'=>c=.d (.str (dec n))/\H'=[ae1]):=by
 refine aE_ Tryz.func185 ?_;refine rS_ Tryz.func185 ?_;simp only [go_sem,seval]
 repeat' (first
  | ((refine (bI4 n h0 h1).mono ?_<;>(rintro c H' ⟨rfl,rfl⟩))<;>(try simp only [go_sem,seval]))
  | fail)
theorem bb4 (m:Nat) (cs:List D) (T:Nat) (bs:List UInt8):[ae1,.box (cs.map .d),.bld T 5 bs].all (O.refsLt m)=true:=by
 show (ae1.refsLt m && ((cs.map C.d).all (C.refsLt m) && (true && true)))=true;rw [l8,ar4];rfl
theorem bR0 (m:Nat) (cs ds:List D) (T:Nat) (bs:List UInt8):[ae1,.box (cs.map .d),.bld T 5 bs,.box (ds.map .d)].all (O.refsLt m)=true:=by
 show (ae1.refsLt m && ((cs.map C.d).all (C.refsLt m) && (true && ((ds.map C.d).all (C.refsLt m) && true))))=true;rw [l8,l8,ar4];rfl
theorem aH3:∀(k:Nat) (v:V),v.size<=k->k<=5000->v.fine=true->∀(cs:List D) (bs:List UInt8),bs.length+v.txt.length<=1000000000 ->
  ACalls Tryz.prog 165 [.ptr 2 0,.d (.agg v.enc)] [ae1,.box (cs.map .d),.bld 201 5 bs] (fun c H'=>c=.tup []/\H'=[ae1,.box (cs.map .d),.bld 201 5 (bs++v.txt)]):=by
 intro k;induction k with
 | zero=>intro v h;have:=v.size_pos;omega
 | succ k ih =>
  intro v hs hk hf cs bs hbs;have hmx:maxLen=9223372036854775807:=rfl;cases v with
  | nil =>
   refine aE_ Tryz.func165 ?_;refine rS_ Tryz.func165 ?_;simp only [go_sem,seval,l8,V.enc_nil]
   repeat' (first
    | ((refine O3 O1 rfl (by first | omega | (simp;omega)) (by first | omega | (simp;omega)) ?_)<;>(try simp only [go_sem,seval,l8,V.enc_nil]))
    | fail)
   all_goals rfl
  | var n =>
   have hf':0<=n/\n<=100000:=by simpa [V.fine] using hf
   have hl:=al3 (n:=n) (by omega) (by omega);refine aE_ Tryz.func165 ?_;refine rS_ Tryz.func165 ?_;simp only [go_sem,seval,l8,V.enc_var]
   repeat' (first
    | ((first
     | (refine O3 O1 rfl (by first | omega | (simp;omega)) (by first | omega | (simp;omega)) ?_)
     | (refine (X9 n (by omega) (by omega)).frame (X:=[_,_,_]) rfl rfl ?_<;>(rintro c H' ⟨rfl,rfl⟩ _))
     | (refine ⟨sd,?_⟩))<;>(try simp only [go_sem,seval,l8,V.enc_var]))
    | fail)
   all_goals rfl
  | sym s =>
   have:=J4 (s:=s) hf;refine aE_ Tryz.func165 ?_;refine rS_ Tryz.func165 ?_;simp only [go_sem,seval,l8,V.enc_sym]
   repeat' (first
    | ((refine O3 O1 rfl (by first | omega | (simp;omega)) (by first | omega | (simp;omega)) ?_)<;>(try simp only [go_sem,seval,l8,V.enc_sym]))
    | fail)
   all_goals rfl
  | num n =>
   have hf':-1000000000<=n/\n<=1000000000:=by simpa [V.fine] using hf
   have hl:=al3 (n:=n) (by omega) (by omega);refine aE_ Tryz.func165 ?_;refine rS_ Tryz.func165 ?_;simp only [go_sem,seval,l8,V.enc_num]
   repeat' (first
    | ((first
     | (refine O3 O1 rfl (by first | omega | (simp;omega)) (by first | omega | (simp;omega)) ?_)
     | (refine (X9 n (by omega) (by omega)).frame (X:=[_,_,_]) rfl rfl ?_<;>(rintro c H' ⟨rfl,rfl⟩ _)))<;>(try simp only [go_sem,seval,l8,V.enc_num]))
    | fail)
   all_goals rfl
  | pair a b =>
   have hN:=(V.txs_len _ hf).1;have hf2:a.fine=true/\b.fine=true:=by simpa [V.fine] using hf
   have hsz:a.size+b.size<k+1:=by simp only [V.size] at hs;omega
   have htx:=V.txt_pair a b;simp only [V.size] at hN hs;generalize (V.pair a b).txt=N at hN htx hbs |-;have hb:=b.size_pos;have hla:=congrArg List.length htx;simp only [d_,k_] at hla;refine aE_ Tryz.func165 ?_;refine rS_ Tryz.func165 ?_;simp only [go_sem,seval,l8,V.enc_pair]
   repeat' (first
    | ((first
     | (refine O3 O1 rfl (by first | omega | (simp;omega)) (by first | omega | (simp;omega)) ?_)
     | (refine (ih a (by omega) (by omega) hf2.1 _ _ (by first | omega | (simp;omega))).frame (X:=[_]) rfl (bb4 _ _ _ _) ?_<;>(rintro c H' ⟨rfl,rfl⟩ _)))<;>(try simp only [go_sem,seval,l8,V.enc_pair]))
    | fail)
   refine AW.lp [0,3] (fun _:V×List UInt8=>[]) (fun _ p=>[ae1,.box (cs.map .d),.bld 201 5 p.2,.box (p.1.enc.map .d)]) (fun p=>p.1.fine=true/\p.1.size<=b.size/\p.2++p.1.tl=bs++N) (fun p=>p.1.size) (b,bs++40 :: a.txt) ⟨hf2.2,q_ _,by rw [htx];simp⟩ (by refine ⟨by simp [mkS],by simp [mkS],by exact bR0 _ _ _ _ _,?_⟩;simp [mkS,Abs.get,C.refsLtT,C.refsLt,C.refsLt1]) ?_;rintro ⟨u,acc⟩ ⟨i1,i2,i3⟩ hnext;dsimp only at i1 i2 i3 hnext |-;have hla2:=congrArg List.length i3;simp only [k_] at hla2;cases u with
   | pair x y =>
    have hf3:x.fine=true/\y.fine=true:=by simpa [V.fine] using i1
    have hs3:x.size+y.size+1<=b.size:=by simp only [V.size] at i2;omega
    have:=y.size_pos;rw [V.tl_pair] at i3 hla2;simp only [d_,k_] at hla2;refine rS_ Tryz.func165 ?_;simp only [go_sem,seval,l8,V.enc_pair]
    repeat' (first
     | (refine hnext (y,acc++[32]++x.txt) _ ⟨hf3.2,by dsimp only;omega,by rw [<-i3];simp⟩ (by simp only [V.size];omega) (by refine ⟨by simp [mkS],by simp [mkS],by exact bR0 _ _ _ _ _,?_⟩;simp [mkS,Abs.get,C.refsLtT,C.refsLt,C.refsLt1]))
     | ((first
      | (refine O3 O1 rfl (by first | omega | (simp;omega)) (by first | omega | (simp;omega)) ?_)
      | (refine (ih x (by omega) (by omega) hf3.1 _ _ (by first | omega | (simp;omega))).frame (X:=[_]) rfl (bb4 _ _ _ _) ?_<;>(rintro c H' ⟨rfl,rfl⟩ _)))<;>(try simp only [go_sem,seval,l8,V.enc_pair]))
     | fail)
   | nil =>
    rw [V.tl_nil] at i3 hla2;simp only [d_,k_,A_] at hla2;refine rS_ Tryz.func165 ?_;simp only [go_sem,seval,l8,V.enc_nil]
    repeat' (first
     | ((refine O3 O1 rfl (by first | omega | (simp;omega)) (by first | omega | (simp;omega)) ?_)<;>(try simp only [go_sem,seval,l8,V.enc_nil]))
     | fail)
    all_goals (rw [<-i3])
   | _ =>
    rw [V.tl_atom (by simp [V.kind]) (by simp [V.kind])] at i3 hla2;simp only [d_,k_,A_] at hla2;refine rS_ Tryz.func165 ?_;simp only [go_sem,seval,l8,V.enc_var,V.enc_sym,V.enc_num]
    repeat' (first
     | ((first
      | (refine O3 O1 rfl (by first | omega | (simp;omega)) (by first | omega | (simp;omega)) ?_)
      | (refine (ih (.var _) (by simp only [V.size] at *;omega) (by omega) i1 _ _ (by first | omega | (simp;omega))).frame (X:=[_]) rfl (bb4 _ _ _ _) ?_<;>(rintro c H' ⟨rfl,rfl⟩ _))
      | (refine (ih (.sym _) (by simp only [V.size] at *;omega) (by omega) i1 _ _ (by first | omega | (simp;omega))).frame (X:=[_]) rfl (bb4 _ _ _ _) ?_<;>(rintro c H' ⟨rfl,rfl⟩ _))
      | (refine (ih (.num _) (by simp only [V.size] at *;omega) (by omega) i1 _ _ (by first | omega | (simp;omega))).frame (X:=[_]) rfl (bb4 _ _ _ _) ?_<;>(rintro c H' ⟨rfl,rfl⟩ _)))<;>(try simp only [go_sem,seval,l8,V.enc_var,V.enc_sym,V.enc_num]))
     | fail)
    all_goals (rw [<-i3];simp)
theorem aj4 (t:Tm) (hw:wtL t.enc<=1048576):ACalls Tryz.prog 142 [.d (.agg t.enc)] [ae1] (fun c H'=>c=.d (.str (if L9 t=true then t.V.txt else []))/\H'=[ae1]):=by
 refine aE_ Tryz.func142 ?_;refine l7 Tryz.func142 mixed 8 _ _ (by kernel_rfl) ?_;simp only [go_sem,seval,run.eq_1]
 repeat' (first
  | ((refine D5 (fun hq=>?_) (fun hq=>?_))<;>(try simp only [go_sem,seval,run.eq_1,hq]))
  | ((refine (ad6 _ sd).calls rfl ?_)<;>(try simp only [go_sem,seval,run.eq_1]))
  | fail)
 ·refine rS_ Tryz.func142 ?_
  simp only [go_sem,seval]
 obtain ⟨v,rfl,hv⟩:=aD0 (t:=t) (by simp_all);have hv2:v.fine=true/\v.size<=5000:=by simpa [V.ok] using hv
 have hN:=V.txt_len hv;have hne:=V.txt_ne hv2.1;have hV:v.tm.V=v:=by simp [Tm.V,V.v?_tm v hv2.1]
 rw [hV];refine AW.newBld 5 rfl rfl rfl rfl (by decide) rfl rfl (by decide) ?_ ?_
 ·simp only [go_sem,seval]
 simp only [go_sem,seval];refine rS_ Tryz.func142 ?_;simp only [go_sem,seval,l8]
 repeat' (first
  | ((first
   | (refine (aH3 5000 v hv2.2 (by decide) hv2.1 _ _ (by simp;omega)).frame (X:=[]) rfl (bb4 _ _ _ _) ?_<;>(rintro c H' ⟨rfl,rfl⟩ _))
   | (refine bg4 bg3 rfl hne ?_))<;>(try simp only [go_sem,seval,l8]))
  | fail)
theorem bp2 {k:Int} {Hd:List UInt8} (h0:2<=k) (h1:k<=10) (h9:k≠9) (hd:Hd=ax9 k) :
  (ag2 [(D.int .i64 2,D.str [61]),(.int .i64 3,.str [47,61]),(.int .i64 4,.str [115,121,109,98,111,108]),(.int .i64 5,.str [110,117,109,98,101,114]),(.int .i64 6,.str [97,98,115,101,110,116]),(.int .i64 7,.str [97,110,100]),(.int .i64 8,.str [111,114]),(.int .i64 10,.str [110,111,116])] (.int .i64 k)).getD (.str [])=.str Hd:=by
 have:k=2\/k=3\/k=4\/k=5\/k=6\/k=7\/k=8\/k=10:=by omega
 subst hd;rcases this with rfl | rfl | rfl | rfl | rfl | rfl | rfl | rfl<;>simp [ag2,kEq,ax9]
theorem am1 (m:Nat) (cs:List D) (sk:Bool) (es:List (D×D)) (q z e:Nat) (xs:List (List D)):[ae1,.box (cs.map .d),.map sk es,.buf q z e xs].all (O.refsLt m)=true:=by
 show (ae1.refsLt m && ((cs.map C.d).all (C.refsLt m) && (true && (true && true))))=true;rw [l8,ar4];rfl
theorem aR6:∀g:Gl,g.shape=true->g.cnt<=80->wtL g.enc<=1048576->ACalls Tryz.prog 101 [.d (.agg g.enc)] [ae1] (fun c H'=>c=.d (.str g.txt)/\H'=[ae1]):=by
 intro g;induction g using Gl.ind' with
 | h g ih =>
  intro hs hc hw;have hmx:maxLen=9223372036854775807:=rfl;have hs':=hs;rw [Gl.shape_eq] at hs';simp only [f_] at hs';obtain ⟨⟨h1,h2⟩,h3⟩:=hs';obtain ⟨f1,f2,f3,f4,f5,f6⟩:=Gl.form_sizes h1;have hhl:=au9 g.kind;have htl:=Gl.txt_len g hs;rw [Gl.txt_eq] at htl |-;by_cases hk:g.kind<=1
  ·rw [if_pos hk,f1 (by omega)]
   by_cases hk0:g.kind=0
   ·refine aE_ Tryz.func101 ?_
    refine rS_ Tryz.func101 ?_;simp only [go_sem,seval,hk0];all_goals rfl
   ·have hk1:g.kind=1:=by omega
    refine aE_ Tryz.func101 ?_;refine rS_ Tryz.func101 ?_;simp only [go_sem,seval,hk1];all_goals rfl
  rw [if_neg hk] at htl |-;simp only [d_,k_,A_] at htl;have hjl:(ac0 [32] g.words).length<=1000000000:=by omega
  obtain ⟨Hd,hHd⟩:∃Hd,Hd=ax9 g.kind++g.name:=⟨_,rfl⟩;have hwd:g.words=Hd :: (g.terms.map (fun t=>t.V.txt)++g.goals.map Gl.txt):=by rw [hHd];rfl
  refine aE_ Tryz.func101 ?_;have hk0:¬g.kind=0:=by omega
  have hk1:¬g.kind=1:=by omega
  by_cases h9:g.kind=9
  ·have hnm:g.name=Hd:=by rw [hHd,h9];rfl
   refine l7 Tryz.func101 mixed 20 _ _ (by kernel_rfl) ?_;simp only [go_sem,seval,run.eq_1,h9,hnm];refine AW.regL ?_;simp only [go_sem,seval]
   repeat' (first
    | ((refine E9 (fun Bz=>?_))<;>(try simp only [go_sem,seval]))
    | fail)
   refine AW.treeB 3 rfl (by simp [D.flat]) ?_;refine rS_ Tryz.func101 ?_;simp only [go_sem,seval];refine AW.rng g.terms [1,27,28] 29 27 (fun p:Nat×List (List UInt8)=>[(4,.own 3 p.1)]) (fun H p=>H.take 3++[.buf p.1 1 9 (aN4 p.2)]) (fun r p=>p.2++r.map (fun t=>t.V.txt)=Hd :: g.terms.map (fun t=>t.V.txt)) (0,[Hd]) rfl (by simp) (by simp) (by refine ⟨by simp [mkS,U4],by simp [mkS,U4],am1 _ _ _ _ _ _ _ _,?_⟩;simp [mkS,Abs.get,C.refsLtT,C.refsLt,C.refsLt1]) (fun i x r p hxi hdr hlt hm hinv hnext=>?_) (fun p hinv=>?_)
   ·obtain ⟨q,acc⟩:=p
    dsimp only at hinv |-;have hxm:=b_ hxi;have hok:=i_.1 h2 x hxm;have hxw:=Gl.wt_terms hxm;have hft:=aj4 x (by omega);rw [if_pos hok] at hft;have hal:=congrArg List.length hinv;simp only [k_,g_,d_] at hal;refine rS_ Tryz.func101 ?_;simp only [go_sem,seval,hlt,j5 hxi,G5]
    repeat' (first
     | (simp (disch:=omega) only [j6])
     | ((refine hft.frame (X:=[_,_,_,_]) rfl rfl ?_<;>(rintro c H' ⟨rfl,rfl⟩ _))<;>(try simp only [go_sem,seval,hlt]))
     | fail)
    refine ⟨by simp only [G5];omega,by simp only [G5];omega,hnext (q+1,acc++[x.V.txt]) _ (by rw [<-hinv,m_];simp) (by refine ⟨by simp [mkS],by simp [mkS,Y8,U4],am1 _ _ _ _ _ _ _ _,?_⟩;simp [mkS,Abs.get,C.refsLtT,C.refsLt,C.refsLt1])⟩
   obtain ⟨q,acc⟩:=p;simp only [l_,a_] at hinv;subst hinv;refine rS_ Tryz.func101 ?_;simp only [go_sem,seval];refine AW.rng g.goals [40,41] 42 40 (fun p:Nat×List (List UInt8)=>[(4,.own 3 p.1)]) (fun H p=>H.take 3++[.buf p.1 1 9 (aN4 p.2)]) (fun r p=>p.2++r.map Gl.txt=g.words) (q,Hd :: g.terms.map (fun t=>t.V.txt)) rfl (by simp) (by rw [hwd];simp) (by refine ⟨by simp [mkS],by simp [mkS],am1 _ _ _ _ _ _ _ _,?_⟩;simp [mkS,Abs.get,C.refsLtT,C.refsLt,C.refsLt1]) (fun i x r p hxi hdr hlt hm hinv hnext=>?_) (fun p hinv=>?_)
   ·obtain ⟨q2,acc⟩:=p
    dsimp only at hinv |-;have hx:=b_ hxi;have hxs:=i_.1 h3 x hx;have hxw:=Gl.wt_goals hx;have hxc:=Gl.cnt_mem hx;have hrec:=ih x hx hxs (by omega) (by omega);have hal:=congrArg List.length hinv;rw [hwd] at hal;simp only [k_,g_,d_] at hal;refine rS_ Tryz.func101 ?_;simp only [go_sem,seval,hlt,j5 hxi,G5]
    repeat' (first
     | (simp (disch:=omega) only [j6])
     | ((refine hrec.frame (X:=[_,_,_,_]) rfl rfl ?_<;>(rintro c H' ⟨rfl,rfl⟩ _))<;>(try simp only [go_sem,seval,hlt]))
     | fail)
    refine ⟨by simp only [G5];omega,by simp only [G5];omega,hnext (q2+1,acc++[x.txt]) _ (by rw [<-hinv,m_];simp) (by refine ⟨by simp [mkS],by simp [mkS,Y8,U4],am1 _ _ _ _ _ _ _ _,?_⟩;simp [mkS,Abs.get,C.refsLtT,C.refsLt,C.refsLt1])⟩
   obtain ⟨q2,acc⟩:=p;simp only [l_,a_] at hinv;subst hinv;refine l7 Tryz.func101 mixed 6 _ _ (by kernel_rfl) ?_;simp only [go_sem,seval,run.eq_1];refine AW.freezeB 4 3 rfl rfl ?_;refine rS_ Tryz.func101 ?_;simp only [go_sem,seval]
   repeat' (first
    | ((first
     | (refine (an1 g.words [32] hjl).calls rfl ?_)
     | (refine ⟨sd,?_⟩))<;>(try simp only [go_sem,seval]))
    | fail)
   all_goals (rw [hmx];omega)
  ·have hmg:=bp2 (k:=g.kind) (Hd:=Hd) (by omega) (by omega) h9 (by rw [hHd,f1 h9,a_])
   refine l7 Tryz.func101 mixed 20 _ _ (by kernel_rfl) ?_;simp only [go_sem,seval,run.eq_1,↓hmg,hk0,hk1,h9];refine AW.regL ?_;simp only [go_sem,seval]
   repeat' (first
    | ((refine E9 (fun Bz=>?_))<;>(try simp only [go_sem,seval]))
    | fail)
   refine AW.treeB 3 rfl (by simp [D.flat]) ?_;refine rS_ Tryz.func101 ?_;simp only [go_sem,seval];refine AW.rng g.terms [1,27,28] 29 27 (fun p:Nat×List (List UInt8)=>[(4,.own 3 p.1)]) (fun H p=>H.take 3++[.buf p.1 1 9 (aN4 p.2)]) (fun r p=>p.2++r.map (fun t=>t.V.txt)=Hd :: g.terms.map (fun t=>t.V.txt)) (0,[Hd]) rfl (by simp) (by simp) (by refine ⟨by simp [mkS,U4],by simp [mkS,U4],am1 _ _ _ _ _ _ _ _,?_⟩;simp [mkS,Abs.get,C.refsLtT,C.refsLt,C.refsLt1]) (fun i x r p hxi hdr hlt hm hinv hnext=>?_) (fun p hinv=>?_)
   ·obtain ⟨q,acc⟩:=p
    dsimp only at hinv |-;have hxm:=b_ hxi;have hok:=i_.1 h2 x hxm;have hxw:=Gl.wt_terms hxm;have hft:=aj4 x (by omega);rw [if_pos hok] at hft;have hal:=congrArg List.length hinv;simp only [k_,g_,d_] at hal;refine rS_ Tryz.func101 ?_;simp only [go_sem,seval,hlt,j5 hxi,G5]
    repeat' (first
     | (simp (disch:=omega) only [j6])
     | ((refine hft.frame (X:=[_,_,_,_]) rfl rfl ?_<;>(rintro c H' ⟨rfl,rfl⟩ _))<;>(try simp only [go_sem,seval,hlt]))
     | fail)
    refine ⟨by simp only [G5];omega,by simp only [G5];omega,hnext (q+1,acc++[x.V.txt]) _ (by rw [<-hinv,m_];simp) (by refine ⟨by simp [mkS],by simp [mkS,Y8,U4],am1 _ _ _ _ _ _ _ _,?_⟩;simp [mkS,Abs.get,C.refsLtT,C.refsLt,C.refsLt1])⟩
   obtain ⟨q,acc⟩:=p;simp only [l_,a_] at hinv;subst hinv;refine rS_ Tryz.func101 ?_;simp only [go_sem,seval];refine AW.rng g.goals [40,41] 42 40 (fun p:Nat×List (List UInt8)=>[(4,.own 3 p.1)]) (fun H p=>H.take 3++[.buf p.1 1 9 (aN4 p.2)]) (fun r p=>p.2++r.map Gl.txt=g.words) (q,Hd :: g.terms.map (fun t=>t.V.txt)) rfl (by simp) (by rw [hwd];simp) (by refine ⟨by simp [mkS],by simp [mkS],am1 _ _ _ _ _ _ _ _,?_⟩;simp [mkS,Abs.get,C.refsLtT,C.refsLt,C.refsLt1]) (fun i x r p hxi hdr hlt hm hinv hnext=>?_) (fun p hinv=>?_)
   ·obtain ⟨q2,acc⟩:=p
    dsimp only at hinv |-;have hx:=b_ hxi;have hxs:=i_.1 h3 x hx;have hxw:=Gl.wt_goals hx;have hxc:=Gl.cnt_mem hx;have hrec:=ih x hx hxs (by omega) (by omega);have hal:=congrArg List.length hinv;rw [hwd] at hal;simp only [k_,g_,d_] at hal;refine rS_ Tryz.func101 ?_;simp only [go_sem,seval,hlt,j5 hxi,G5]
    repeat' (first
     | (simp (disch:=omega) only [j6])
     | ((refine hrec.frame (X:=[_,_,_,_]) rfl rfl ?_<;>(rintro c H' ⟨rfl,rfl⟩ _))<;>(try simp only [go_sem,seval,hlt]))
     | fail)
    refine ⟨by simp only [G5];omega,by simp only [G5];omega,hnext (q2+1,acc++[x.txt]) _ (by rw [<-hinv,m_];simp) (by refine ⟨by simp [mkS],by simp [mkS,Y8,U4],am1 _ _ _ _ _ _ _ _,?_⟩;simp [mkS,Abs.get,C.refsLtT,C.refsLt,C.refsLt1])⟩
   obtain ⟨q2,acc⟩:=p;simp only [l_,a_] at hinv;subst hinv;refine l7 Tryz.func101 mixed 6 _ _ (by kernel_rfl) ?_;simp only [go_sem,seval,run.eq_1];refine AW.freezeB 4 3 rfl rfl ?_;refine rS_ Tryz.func101 ?_;simp only [go_sem,seval]
   repeat' (first
    | ((first
     | (refine (an1 g.words [32] hjl).calls rfl ?_)
     | (refine ⟨sd,?_⟩))<;>(try simp only [go_sem,seval]))
    | fail)
   all_goals (rw [hmx];omega)
theorem ai2 (f:Fc) (hw:wtL f.enc<=1048576):ACalls Tryz.prog 61 [.d (.agg f.enc)] [ae1] (fun c H'=>c=.d (.str (Fc.txt f))/\H'=[ae1]):=by
 have ha:=bL4 f.gl.vars;have ht:Fc.txt f=if aa4 f.gl=true/\f.gl.vars=[] then f.gl.txt else []:=rfl
 have hw':wtL f.gl.enc<=1048576:=by rw [ck4];exact hw
 have ho:=be3 f.gl (by omega);rw [bp8] at ho;generalize Fc.txt f=N at ht |-;by_cases hg:aa4 f.gl=true
 ·rw [hg] at ho
  have hv:=av1 f.gl (Y1 hg) (by omega);have hc:f.gl.cnt<=80:=by unfold aa4 at hg;simp at hg;exact hg.1
  have hx:=aR6 f.gl (Y1 hg) hc hw';rw [bp8] at hv hx;by_cases h0:f.gl.vars=[]
  ·rw [if_pos ⟨hg,h0⟩] at ht
   rw [ha.2 h0] at hv;subst ht;refine aE_ Tryz.func61 ?_;refine rS_ Tryz.func61 ?_;simp only [go_sem,seval,Fc.enc_eq]
   repeat' (first
    | ((first
     | (refine ho.calls rfl ?_)
     | (refine hv.calls rfl ?_)
     | (refine hx.frame (X:=[_,_]) rfl rfl ?_<;>(rintro c H' ⟨rfl,rfl⟩ _)))<;>(try simp only [go_sem,seval,Fc.enc_eq]))
    | fail)
  ·rw [if_neg (fun h=>h0 h.2)] at ht
   have hl:0<(O7 f.gl.vars).length:=List.length_pos_iff.2 (fun e=>h0 (ha.1 e));subst ht;refine aE_ Tryz.func61 ?_;refine rS_ Tryz.func61 ?_;simp only [go_sem,seval,Fc.enc_eq]
   repeat' (first
    | ((refine D5 (fun hq=>?_) (fun hq=>?_))<;>(try simp only [go_sem,seval,Fc.enc_eq,X8,hq]))
    | ((first
     | (refine ho.calls rfl ?_)
     | (refine hv.calls rfl ?_))<;>(try simp only [go_sem,seval,Fc.enc_eq,X8]))
    | fail)
   all_goals (exfalso;omega)
 ·simp only [u_] at hg
  rw [hg] at ho;rw [if_neg (fun h=>by rw [hg] at h;cases h.1)] at ht;subst ht;refine aE_ Tryz.func61 ?_;refine rS_ Tryz.func61 ?_;simp only [go_sem,seval,Fc.enc_eq]
  repeat' (first
   | ((refine ho.calls rfl ?_)<;>(try simp only [go_sem,seval,Fc.enc_eq]))
   | fail)
set_option maxHeartbeats 8000000
theorem aW3 {p:Pg} (hp:X6 p=true) {x:Rl} (hx:x∈p.rels):U0 x.name=true:=by
 unfold X6 at hp;rw [f_] at hp;obtain ⟨i,h⟩:=ak3 hp.2 x hx;unfold Pg.relOk at h;simp only [f_] at h;exact h.1.1.1.1.1.1.2
theorem aL4 {s:List UInt8} (h:U0 s=true):s.length<=12:=by
 have:E8 s=true:=by unfold U0 at h;simp at h;exact h.2
 have:=J4 this;omega
theorem aR7 {p:Pg} {u:List V} {rs:List RV} (hp:X6 p=true) (hu:Uni u) (hg:p.gr u=some rs):bM8 rs:=fun r hr=>by
 obtain ⟨rfl,_⟩:=av0 hg;obtain ⟨x,hx,c,hc,j,w,_,rfl⟩:=av2 _ hr;obtain ⟨z1,z2,z3,z4⟩:=Pg.dims hp hx;have hvl:=Y3 u (x.arity+x.locals).toNat w;have hcl:=(Gl.clsS_row x.body c hc).1;have hsh:=Pg.body_inst hp hx (m:=(x.arity+x.locals).toNat) (by omega);have hct:=hsh.2.2.2.2.2;refine ⟨uniwts hu _ (fun v hv=>Y2 hu.pos _ _ v hv) (by show (H8 u _ w).length<=12;omega),aL4 (aW3 hp hx),?_,by show (H8 u _ w).length<=12;omega⟩;have:=al4 (l9 (H8 u (x.arity+x.locals).toNat w)) c;show (C9 _ c).length<=60;omega
theorem bu2 {p:Pg} {u:List V} {rs:List RV} (hp:X6 p=true) (hu:Uni u) (hg:p.gr u=some rs) {k:Nat}:∀f,f∈stg rs k->f.good:=fun f h=>by
 cases k with
 | zero=>simp [stg] at h
 | succ k =>
  obtain ⟨r,h1,_,h3⟩:=ah7.1 h;obtain ⟨rfl,_⟩:=av0 hg;obtain ⟨x,hx,c,_,j,w,_,rfl⟩:=av2 _ h1;obtain ⟨z1,z2,z3,z4⟩:=Pg.dims hp hx;have hm:∀v,v∈(H8 u (x.arity+x.locals).toNat w).take x.arity.toNat->v∈u:=fun v hv=>Y2 hu.pos _ _ v (F_ hv);rw [<-h3];refine ⟨aW3 hp hx,?_,fun v hv=>hu.ok v (hm v hv),fun v hv=>hu.gr v (hm v hv)⟩;show ((H8 u (x.arity+x.locals).toNat w).take x.arity.toNat).length<=4;rw [List.length_take];omega
theorem bJ6 {f:FcV} (h:f.good):wtL (fcE f)<=1048576:=by
 rw [o6];have h1:=aP6 f.2 (i_.2 h.ok);have h2:=aL4 h.rel;have h3:=h.len;simp only [wtL,D.wt];omega
theorem bD9 {p:Pg} (h:p.all false=true):X6 p=true:=by unfold Pg.all at h;rw [f_] at h;exact h.1
def xO (rs:List RV) (x:C):O:=.box [.d (.sl (rs.map rvE)),.d (.sl (ag8 rs (top rs+1))),x]
theorem bK0 (rs:List RV) (hr:rs.length<=2000) (es:List (D×D)) (f:FcV) (hin:f∈stg rs (top rs)) (r:RV) (hrl:rlF rs f=some r):ACalls Tryz.prog 62 [.ptr 0 0,.d (.agg (fcE f))] [xO rs (.map 1),.map true es] (fun c H'=>c=.d (.agg (rvE r))/\H'=[xO rs (.map 1),.map true es]):=by
 have hmx:maxLen=9223372036854775807:=rfl;have t1:=(O9 rs).1;have hh:=af4 rs f (by omega);obtain ⟨j,h1,h2,h3,h4,h5⟩:=I9 hin;have hj1:((j+1:Nat):Int)=(j:Int)+1:=by omega
 rw [h1,hj1,o6] at hh;rw [bl1] at hrl;have hN1:hN rs f - 1=j:=by omega
 have hat:=ae9 rs (i:=j) (m:=top rs+1) (by omega);have hsl:=V6 rs j;have hhf:∀k:FcV,Gives Tryz.prog 60 [.sl ((stg rs j).map fcE),.agg [.str k.1,.sl (k.2.map V.enc)]] (.d (.bool (decide (k∈stg rs j)))):=fun k=>by
  have h:=Y0 (stg rs j) k (by omega) (Y9 rs j);rw [o6] at h;exact h
 have w1:IntKind.i64.wrap ((j:Int)+1 - 1)=(j:Int):=by rw [j6 (by omega) (by omega)];omega
 have n2:(j:Int)<(top rs:Int)+1:=by omega
 unfold xO;obtain ⟨RE,hRE⟩:∃y,rvE r=y:=⟨_,rfl⟩;rw [o6,hRE];refine aE_ Tryz.func62 ?_;refine rS_ Tryz.func62 ?_;simp only [go_sem,seval]
 repeat' (first
  | ((refine hh.callQ rfl ?_)<;>(try simp only [go_sem,seval]))
  | fail)
 refine AW.rng rs [0,3,4,5,20,21] 22 20 (fun _:Unit=>[]) (fun H _=>H) (fun q _=>q.find? (rlP rs f)=some r) () rfl (by simp) hrl A7 (fun i x q b hxi hdr hlt hml hinv hnext=>?_) (fun b hinv=>by cases hinv);have hcm:Gives Tryz.prog 96 [.agg [.str x.head.1,.sl (x.head.2.map V.enc)],.agg [.str f.1,.sl (f.2.map V.enc)]] (.d (.int .i64 (x.head.cmp f))):=by
  have h:=Q6 x.head f;rw [o6,o6] at h;exact h
 rw [P_] at hinv;by_cases hc:x.head.cmp f=0
 ·have hxf:=(FcV.cmp_lin.zero _ _).1 hc
  rw [hc] at hcm;refine rS_ Tryz.func62 ?_;simp only [go_sem,seval,hlt,j5 hxi,A8]
  repeat' (first
   | ((refine hcm.calls rfl ?_)<;>(try simp only [go_sem,seval,hlt,j5 hxi,A8]))
   | fail)
  refine AW.rng x.pos [0,3,4,5,7,20,21,22,32,33] 34 32 (fun b:Bool=>[(8,.d (.bool b))]) (fun H _=>H) (fun s b=>(b && s.all fun k=>decide (k∈stg rs j))=x.pos.all fun k=>decide (k∈stg rs j)) true rfl (by simp) (by simp) A7 (fun i2 y s b hyi hds hl2 hm2 hinv2 hnext2=>?_) (fun b hinv2=>?_)
  ·have hhy:=hhf y
   rw [c_] at hinv2;cases b with
   | false =>
    refine rS_ Tryz.func62 ?_;simp only [go_sem,seval,hl2,j5 hyi,o6,w1,n2,j5 hat]
    repeat' (first
     | (simp (disch:=omega) only [j6])
     | fail)
    refine hnext2 false _ (by simpa using hinv2) A7
   | true =>
    refine rS_ Tryz.func62 ?_;simp only [go_sem,seval,hl2,j5 hyi,o6,w1,n2,j5 hat]
    repeat' (first
     | (simp (disch:=omega) only [j6])
     | ((refine hhy.callQ rfl ?_)<;>(try simp only [go_sem,seval,hl2,j5 hyi,o6,w1,n2,j5 hat]))
     | fail)
    refine hnext2 (decide (y∈stg rs j)) _ (by rw [<-hinv2];simp) A7
  ·rw [e_,U_] at hinv2
   cases b with
   | true =>
    have hP:rlP rs f x=true:=by unfold rlP;rw [hN1,<-hinv2,hxf];simp
    rw [hP] at hinv;obtain rfl:=Option.some.inj hinv;refine rS_ Tryz.func62 ?_;simp only [go_sem,seval,A8]
    repeat' (first
     | (exact (by rw [<-hRE,A8]))
     | fail)
   | false =>
    have hP:rlP rs f x=false:=by unfold rlP;rw [hN1,<-hinv2];simp
    rw [hP] at hinv;refine rS_ Tryz.func62 ?_;simp only [go_sem,seval]
    repeat' (first
     | (simp (disch:=omega) only [j6])
     | fail)
    refine hnext () _ hinv A7
 ·have hP:rlP rs f x=false:=by
   unfold rlP;have:¬x.head=f:=fun e=>hc ((FcV.cmp_lin.zero _ _).2 e);simp [this]
  rw [hP] at hinv;refine rS_ Tryz.func62 ?_;simp only [go_sem,seval,hlt,j5 hxi,A8,hc]
  repeat' (first
   | ((refine D5 (fun hq=>?_) (fun hq=>?_))<;>(try simp only [go_sem,seval,hlt,j5 hxi,A8,hc,hq]))
   | (simp (disch:=omega) only [j6])
   | ((refine hcm.calls rfl ?_)<;>(try simp only [go_sem,seval,hlt,j5 hxi,A8,hc]))
   | fail)
  all_goals first | (exact absurd (by assumption) hc) | skip
  refine hnext () _ hinv A7
theorem bz4 (rs:List RV) (hr:rs.length<=2000) (f:FcV) (hin:f∈stg rs (top rs)) (r:RV) (hrl:rlF rs f=some r):ACalls Tryz.prog 62 [.ptr 0 0,.d (.agg (fcE f))] [xO rs (.d .any)] (fun c H'=>c=.d (.agg (rvE r))/\H'=[xO rs (.d .any)]):=by
 have hmx:maxLen=9223372036854775807:=rfl;have t1:=(O9 rs).1;have hh:=af4 rs f (by omega);obtain ⟨j,h1,h2,h3,h4,h5⟩:=I9 hin;have hj1:((j+1:Nat):Int)=(j:Int)+1:=by omega
 rw [h1,hj1,o6] at hh;rw [bl1] at hrl;have hN1:hN rs f - 1=j:=by omega
 have hat:=ae9 rs (i:=j) (m:=top rs+1) (by omega);have hsl:=V6 rs j;have hhf:∀k:FcV,Gives Tryz.prog 60 [.sl ((stg rs j).map fcE),.agg [.str k.1,.sl (k.2.map V.enc)]] (.d (.bool (decide (k∈stg rs j)))):=fun k=>by
  have h:=Y0 (stg rs j) k (by omega) (Y9 rs j);rw [o6] at h;exact h
 have w1:IntKind.i64.wrap ((j:Int)+1 - 1)=(j:Int):=by rw [j6 (by omega) (by omega)];omega
 have n2:(j:Int)<(top rs:Int)+1:=by omega
 unfold xO;obtain ⟨RE,hRE⟩:∃y,rvE r=y:=⟨_,rfl⟩;rw [o6,hRE];refine aE_ Tryz.func62 ?_;refine rS_ Tryz.func62 ?_;simp only [go_sem,seval]
 repeat' (first
  | ((refine hh.callQ rfl ?_)<;>(try simp only [go_sem,seval]))
  | fail)
 refine AW.rng rs [0,3,4,5,20,21] 22 20 (fun _:Unit=>[]) (fun H _=>H) (fun q _=>q.find? (rlP rs f)=some r) () rfl (by simp) hrl A7 (fun i x q b hxi hdr hlt hml hinv hnext=>?_) (fun b hinv=>by cases hinv);have hcm:Gives Tryz.prog 96 [.agg [.str x.head.1,.sl (x.head.2.map V.enc)],.agg [.str f.1,.sl (f.2.map V.enc)]] (.d (.int .i64 (x.head.cmp f))):=by
  have h:=Q6 x.head f;rw [o6,o6] at h;exact h
 rw [P_] at hinv;by_cases hc:x.head.cmp f=0
 ·have hxf:=(FcV.cmp_lin.zero _ _).1 hc
  rw [hc] at hcm;refine rS_ Tryz.func62 ?_;simp only [go_sem,seval,hlt,j5 hxi,A8]
  repeat' (first
   | ((refine hcm.calls rfl ?_)<;>(try simp only [go_sem,seval,hlt,j5 hxi,A8]))
   | fail)
  refine AW.rng x.pos [0,3,4,5,7,20,21,22,32,33] 34 32 (fun b:Bool=>[(8,.d (.bool b))]) (fun H _=>H) (fun s b=>(b && s.all fun k=>decide (k∈stg rs j))=x.pos.all fun k=>decide (k∈stg rs j)) true rfl (by simp) (by simp) A7 (fun i2 y s b hyi hds hl2 hm2 hinv2 hnext2=>?_) (fun b hinv2=>?_)
  ·have hhy:=hhf y
   rw [c_] at hinv2;cases b with
   | false =>
    refine rS_ Tryz.func62 ?_;simp only [go_sem,seval,hl2,j5 hyi,o6,w1,n2,j5 hat]
    repeat' (first
     | (simp (disch:=omega) only [j6])
     | fail)
    refine hnext2 false _ (by simpa using hinv2) A7
   | true =>
    refine rS_ Tryz.func62 ?_;simp only [go_sem,seval,hl2,j5 hyi,o6,w1,n2,j5 hat]
    repeat' (first
     | (simp (disch:=omega) only [j6])
     | ((refine hhy.callQ rfl ?_)<;>(try simp only [go_sem,seval,hl2,j5 hyi,o6,w1,n2,j5 hat]))
     | fail)
    refine hnext2 (decide (y∈stg rs j)) _ (by rw [<-hinv2];simp) A7
  ·rw [e_,U_] at hinv2
   cases b with
   | true =>
    have hP:rlP rs f x=true:=by unfold rlP;rw [hN1,<-hinv2,hxf];simp
    rw [hP] at hinv;obtain rfl:=Option.some.inj hinv;refine rS_ Tryz.func62 ?_;simp only [go_sem,seval,A8]
    repeat' (first
     | (exact (by rw [<-hRE,A8]))
     | fail)
   | false =>
    have hP:rlP rs f x=false:=by unfold rlP;rw [hN1,<-hinv2];simp
    rw [hP] at hinv;refine rS_ Tryz.func62 ?_;simp only [go_sem,seval]
    repeat' (first
     | (simp (disch:=omega) only [j6])
     | fail)
    refine hnext () _ hinv A7
 ·have hP:rlP rs f x=false:=by
   unfold rlP;have:¬x.head=f:=fun e=>hc ((FcV.cmp_lin.zero _ _).2 e);simp [this]
  rw [hP] at hinv;refine rS_ Tryz.func62 ?_;simp only [go_sem,seval,hlt,j5 hxi,A8,hc]
  repeat' (first
   | ((refine D5 (fun hq=>?_) (fun hq=>?_))<;>(try simp only [go_sem,seval,hlt,j5 hxi,A8,hc,hq]))
   | (simp (disch:=omega) only [j6])
   | ((refine hcm.calls rfl ?_)<;>(try simp only [go_sem,seval,hlt,j5 hxi,A8,hc]))
   | fail)
  all_goals first | (exact absurd (by assumption) hc) | skip
  refine hnext () _ hinv A7
theorem bQ3 (rs:List RV) (hr:rs.length<=2000) (hv:bM8 rs) (hgd:∀f,f∈stg rs (top rs)->f.good):∀(n:Nat) (f:FcV) (es:List (D×D)),f∈stg rs (top rs)->hN rs f<=n->MI rs es->ACalls Tryz.prog 32 [.ptr 0 0,.d (.agg (fcE f))] [xO rs (.map 1),.map true es,ae1] (fun c H'=>c=.d (.int .i64 (szF rs f))/\∃es',MI rs es'/\H'=[xO rs (.map 1),.map true es',ae1]):=by
 intro n;induction n with
 | zero=>intro f es hf h;obtain ⟨j,_,h2,_⟩:=I9 hf;omega
 | succ n ih =>
  intro f es hf hn hm;have hmx:maxLen=9223372036854775807:=rfl;obtain ⟨r,r1,r2,r3,r4⟩:=Z6 hf;have hgf:=bJ6 (hgd f hf);have hft:=ai2 f.fc hgf;have hfi:=bK0 rs hr es f hf r r1;have hsz:=bG1 hf r1;have hset:=fun es' (h:MI rs es')=>bU5 h hgd hf;have hmf:=hm f hf;have hfE:f.fc.enc=[.str f.1,.sl (f.2.map V.enc)]:=o6 f;have hpl:=(hv r r2).2.2.1;obtain ⟨KEY,hKEY⟩:∃x,Fc.txt f.fc=x:=⟨_,rfl⟩;obtain ⟨SZ,hSZ⟩:∃x,szF rs f=x:=⟨_,rfl⟩;rw [hKEY] at hft hmf hset;rw [hSZ] at hmf hsz hset;rw [hSZ];rw [hfE] at hft;rw [A8,o6] at hfi;rw [o6];unfold xO at hfi ih |-;cases hmg:ag2 es (.str KEY) with
  | some v =>
   obtain rfl:=hmf v hmg;refine aE_ Tryz.func32 ?_;refine rS_ Tryz.func32 ?_;simp only [go_sem,seval,hmg,v_,w_]
   repeat' (first
    | ((first
     | (refine (ACalls.emb hft [2] rfl rfl rfl (by decide) rfl ?_)<;>(rintro c H' ⟨rfl,rfl⟩ _;refine ⟨rfl,rfl,?_⟩))
     | (refine ⟨by assumption,?_⟩))<;>(try simp only [go_sem,seval,hmg,v_,w_]))
    | assumption)
  | none =>
   refine aE_ Tryz.func32 ?_;refine rS_ Tryz.func32 ?_;simp only [go_sem,seval,hmg,v_,w_]
   repeat' (first
    | ((first
     | (refine (ACalls.emb hft [2] rfl rfl rfl (by decide) rfl ?_)<;>(rintro c H' ⟨rfl,rfl⟩ _;refine ⟨rfl,rfl,?_⟩))
     | (refine (hfi.frame (X:=[_,_]) rfl rfl ?_)<;>(rintro c H' ⟨rfl,rfl⟩ _)))<;>(try simp only [go_sem,seval,hmg,v_,w_]))
    | fail)
   refine AW.rng r.pos [0,5,27,28] 29 27 (fun u:Nat×List (D×D)=>[(8,.d (.int .i64 (u.1:Int)))]) (fun _ u=>[.box [.d (.sl (rs.map rvE)),.d (.sl (ag8 rs (top rs+1))),.map 1],.map true u.2,ae1,.box [.d (.str f.1),.d (.sl (f.2.map V.enc))]]) (fun s u=>u.1<=201/\MI rs u.2/\s.foldl (fun a k=>min (a+szF rs k) 201) u.1=SZ/\∀k,k∈s->k∈r.pos) (1,es) rfl (by simp) ⟨by omega,hm,hsz.symm,fun k h=>h⟩ A7 (fun i x s u hxi hdr hlt hml hinv hnext=>?_) (fun u hinv=>?_)
   ·obtain ⟨a,es2⟩:=u
    obtain ⟨i1,i2,i3,i4⟩:=hinv;dsimp only at i1 i2 i3 hnext |-;have hx:=r4 x (i4 x (by simp));have hrec:=ih x es2 hx.1 (by omega) i2;have hs2:=aU8 rs x;rw [o6] at hrec;rw [List.foldl_cons] at i3;have wa:IntKind.i64.wrap ((a:Int)+(szF rs x:Int))=(a:Int)+(szF rs x:Int):=j6 (by omega) (by omega);have hmn:(if (201:Int)<(a:Int)+(szF rs x:Int) then (201:Int) else (a:Int)+(szF rs x:Int))=((min (a+szF rs x) 201:Nat):Int):=by split<;>omega
    generalize szF rs x=sx at *;refine rS_ Tryz.func32 ?_;simp only [go_sem,seval,hlt,j5 hxi,o6]
    repeat' (first
     | (simp (disch:=omega) only [j6])
     | ((refine (hrec.frame (X:=[_,_]) rfl rfl ?_)<;>(rintro c H' ⟨rfl,es3,hm3,rfl⟩ _))<;>(try simp only [go_sem,seval,hlt,j5 hxi,o6,wa,hmn]))
     | fail)
    refine hnext (min (a+sx) 201,es3) _ ⟨by dsimp only;omega,by assumption,i3,fun k h=>i4 k (by simp [h])⟩ A7
   ·obtain ⟨a,es2⟩:=u
    obtain ⟨i1,i2,i3,i4⟩:=hinv;dsimp only at i1 i2 i3 |-;rw [List.foldl_nil] at i3;subst i3;refine rS_ Tryz.func32 ?_;simp only [go_sem,seval]
    repeat' (first
     | (exact ⟨_,hset es2 i2,rfl⟩)
     | fail)
def buR (t:Pf) (X:O) (c:C) (H:List O):Prop:=∃e B e' B',c=.agg [.d (.str t.rel),.d (.int .i64 t.clause),.own 0 1,.own 1 1]/\H=[.tree 1 4 e (t.values.map Tm.enc) B none,.tree 1 4 e' (t.kids.map Pf.enc) B' none,X]
theorem bK6 (rs:List RV) (hr:rs.length<=2000) (hv:bM8 rs):∀(n:Nat) (f:FcV),f∈stg rs (top rs)->hN rs f<=n->ACalls Tryz.prog 33 [.ptr 2 0,.d (.agg (fcE f))] [.hole,.hole,xO rs (.d .any)] (buR (prF rs f) (xO rs (.d .any))):=by
 intro n;induction n with
 | zero=>intro f hf h;obtain ⟨j,_,h2,_⟩:=I9 hf;omega
 | succ n ih =>
  intro f hf hn;have hmx:maxLen=9223372036854775807:=rfl;obtain ⟨r,r1,r2,r3,r4⟩:=Z6 hf;have hfi:=bz4 rs hr f hf r r1;have hpl:=(hv r r2).2.2.1;have hvl:=(hv r r2).2.2.2;have hcp:=aS7 r.values (by omega);unfold cl3 at hcp;have hvm:(r.values.map V.tm).map Tm.enc=r.values.map V.enc:=by rw [y_];rfl
  rw [bl9 hf r1];rw [A8,o6] at hfi;rw [o6];unfold xO at hfi ih |-;refine aE_ Tryz.func33 ?_;refine l7 Tryz.func33 mixed 5 _ _ (by kernel_rfl) ?_;simp only [go_sem,seval,run.eq_1]
  repeat' (first
   | ((refine (ACalls.emb hfi [2] rfl rfl rfl (by decide) rfl ?_)<;>(rintro c H' ⟨rfl,rfl⟩ _;refine ⟨rfl,rfl,?_⟩))<;>(try simp only [go_sem,seval,run.eq_1]))
   | fail)
  refine AW.drawA mixed #[true,true,true,true,true,true,true,true,true,false] [(3,.box [.d (.str f.1),.d (.sl (f.2.map V.enc))]),(5,.box [.d (.str r.head.1),.d (.sl (r.head.2.map V.enc)),.d (.int .i64 r.clause),.d (.sl (r.values.map V.enc)),.d (.sl (r.pos.map fcE)),.d (.sl (r.neg.map fcE))])] [] [0,1,2,3,4,5,8,6,7] [9] (some (8,6,34,[.string ⟨#[]⟩,.int .i64 0,.slice none 0 0,.slice none 0 0])) (by kernel_rfl) bM6 (by simp [x8]) ?_;simp only [go_sem,seval]
  repeat' (first
   | ((refine ACalls.fresh (ds:=[.sl (r.values.map V.enc)]) (m:=1) hcp [0] rfl rfl (by simp) (by simp) ?_<;>(rintro c H' ⟨rfl,e1,B1,rfl⟩ _;refine ⟨rfl,rfl,?_⟩))<;>(try simp only [go_sem,seval]))
   | fail)
  refine AW.adoptTB 6 3 4 34 (by decide) rfl rfl ?_;refine rS_ Tryz.func33 ?_;simp only [go_sem,seval];refine AW.rng r.pos [0,4,6,21,22] 23 21 (fun u:List Pf×(Nat->Prop)=>[]) (fun _ u=>[.tree 1 4 e1 (r.values.map V.enc) B1 none,.hole,.box [.d (.sl (rs.map rvE)),.d (.sl (ag8 rs (top rs+1))),.d .any],.box [.d (.str f.1),.d (.sl (f.2.map V.enc))],.box [.d (.str []),.d (.int .i64 0),.nil0,.nil0],.box [.d (.str r.head.1),.d (.sl (r.head.2.map V.enc)),.d (.int .i64 r.clause),.d (.sl (r.values.map V.enc)),.d (.sl (r.pos.map fcE)),.d (.sl (r.neg.map fcE))],.box [.d (.str f.1),.d (.int .i64 r.clause),.own 0 1,.own 7 u.1.length],.tree u.1.length 4 34 (u.1.map Pf.enc) u.2 none]) (fun s u=>u.1++s.map (prF rs)=r.pos.map (prF rs)/\∀k,k∈s->k∈r.pos) ([],fun _=>False) rfl (by simp) ⟨rfl,fun k h=>h⟩ A7 (fun i x s u hxi hdr hlt hml hinv hnext=>?_) (fun u hinv=>?_)
  ·obtain ⟨K,B⟩:=u
   obtain ⟨i1,i2⟩:=hinv;dsimp only at i1 hnext |-;have hx:=r4 x (i2 x (by simp));have hrec:=ih x hx.1 (by omega);have hKl:K.length+(s.length+1)=r.pos.length:=by have:=congrArg List.length i1;simpa using this
   unfold buR at hrec;rw [o6] at hrec;refine AW.hole ?_;refine AW.hole ?_;refine l7 Tryz.func33 mixed 9 _ _ (by kernel_rfl) ?_;simp only [go_sem,seval,run.eq_1,hlt,j5 hxi,o6];refine AW.drawA mixed #[true,true,true,true,true,true,true,false,false] [(6,.box [.d (.str f.1),.d (.int .i64 r.clause),.own 0 1,.own 7 K.length]),(10,.box [.d (.str x.1),.d (.sl (x.2.map V.enc))])] [] [0,1,2,3,4,5,6] [7,8] none (by kernel_rfl) trivial (by simp [x8]) ?_;simp only [go_sem,seval]
   repeat' (first
    | ((first
     | (refine (ACalls.emb hrec [8,9,2] rfl rfl rfl (by decide) rfl ?_)<;>(rintro c H' ⟨e2,B2,e3,B3,rfl,rfl⟩ _;refine ⟨rfl,rfl,?_⟩))
     | (refine E9 (fun Bz=>?_))
     | (refine ⟨sd,?_⟩))<;>(try simp only [go_sem,seval]))
    | fail)
   refine rS_ Tryz.func33 ?_;simp only [go_sem,seval];try simp (disch:=omega) only [j6]
   refine hnext (K++[prF rs x],Bz) _ ⟨by rw [<-i1];simp,fun k h=>i2 k (by simp [h])⟩ (by refine ⟨by simp [mkS,Pf.enc_eq (prF rs x)],by simp [mkS,Pf.enc_eq (prF rs x)],by simp only [mkS,c_,e_,O.refsLt,C.refsLt,C.refsLt1,l8];first | done | rfl | (simp;done),?_⟩;simp [mkS,Abs.get,C.refsLtT,C.refsLt,C.refsLt1])
  ·obtain ⟨K,B⟩:=u
   obtain ⟨i1,_⟩:=hinv;simp only [l_,a_] at i1;subst i1;refine l7 Tryz.func33 mixed 7 _ _ (by kernel_rfl) ?_;simp only [go_sem,seval,run.eq_1];refine AW.placeB 4 3 7 1 rfl rfl rfl rfl (by decide) ?_;refine rS_ Tryz.func33 ?_;simp only [go_sem,seval]
   repeat' (first
    | (exact ⟨_,_,_,_,rfl,by rw [show (Pf.mk f.1 r.clause (r.values.map V.tm) (r.pos.map (prF rs))).values=r.values.map V.tm from rfl,hvm];rfl⟩)
    | fail)
def bx2 (p:Pg) (u:List Tm) (f:Fc):Option Pf:=if p.all false=true/\S9 u=true/\f.args.all L9=true then (match p.gr (u.map Tm.V) with | some rs=>bw9 rs (Fc.toV f) | none=>none) else none
def pvR (o:Option Pf) (c:C) (H:List O):Prop:=match o with
 | some t=>∃e B e' B',c=.tup [.agg [.d (.str t.rel),.d (.int .i64 t.clause),.own 0 1,.own 1 1],.d (.bool true)]/\H=[.tree 1 4 e (t.values.map Tm.enc) B none,.tree 1 4 e' (t.kids.map Pf.enc) B' none,ae1]
 | none=>c=.tup [.d (.agg [.str [],.int .i64 0,.sl [],.sl []]),.d (.bool false)]/\H=[.hole,.hole,ae1]
theorem by7 (p:Pg) (u:List Tm) (f:Fc) (hw:wtL p.enc<=1048576) (hwu:wtR (u.map Tm.enc)<=1048576) (hwf:wtL f.enc<=1048576):ACalls Tryz.prog 11 [.d (.agg p.enc),.d (.sl (u.map Tm.enc)),.d (.agg f.enc)] [.hole,.hole,ae1] (pvR (bx2 p u f)):=by
 have hpr:=ao1 p u hw (aE4 hwu).1 (aE4 hwu).2;have hfa:wtR (f.args.map Tm.enc)<=1048576:=by rw [Fc.enc_eq] at hwf;simp only [wtL,D.wt] at hwf;omega
 have hto:=Z8 f.args (fun t ht=>by have:=aC3 (x_.2 ⟨t,ht,rfl⟩:t.enc∈f.args.map Tm.enc);omega);obtain ⟨K,hK⟩:∃K,bx2 p u f=K:=⟨_,rfl⟩;rw [hK];unfold bx2 at hK;unfold bH1 at hpr;by_cases h12:p.all false=true/\S9 u=true
 ·rw [if_pos h12] at hpr
  obtain ⟨hu,he⟩:=Uni.of h12.2;cases hg:p.gr (u.map Tm.V) with
  | none =>
   rw [hg] at hK;have hK':K=none:=by rw [<-hK];split<;>rfl
   rw [hg,I1] at hpr;rw [hK',Fc.enc_eq];refine aE_ Tryz.func11 ?_;refine rS_ Tryz.func11 ?_;simp only [go_sem,seval]
   repeat' (first
    | (exact ⟨rfl,rfl⟩)
    | ((refine hpr.calls rfl ?_)<;>(try simp only [go_sem,seval]))
    | fail)
  | some rs =>
   rw [hg,ai3] at hpr;by_cases hq:f.args.all L9=true
   ·rw [if_pos ⟨h12.1,h12.2,hq⟩,hg] at hK
    dsimp only at hK;rw [hq] at hto;obtain ⟨_,hrl⟩:=av0 hg;have hpO:=bD9 h12.1;have hgd:=fun f hf=>bu2 hpO hu hg (k:=top rs) f hf;have hrr:=aR7 hpO hu hg;have hst:=bj7 rs (by omega) (bH0 h12.1 hg);have hht:=af4 rs (Fc.toV f) (by omega);have hfe:=aU6 hq;have hfe2:=hfe;rw [Fc.enc_eq] at hfe2;rw [<-hfe,Fc.enc_eq] at hht;rw [Fc.enc_eq];by_cases hin:Fc.toV f∈stg rs (top rs)
    ·have hsz:=bQ3 rs hrl hrr hgd (hN rs (Fc.toV f)) (Fc.toV f) [] hin (q_ _) (bU6 rs)
     have hbu:=bK6 rs hrl hrr (hN rs (Fc.toV f)) (Fc.toV f) hin (q_ _);rw [<-hfe2] at hsz hbu;obtain ⟨j,h1,_⟩:=I9 hin;rw [h1] at hht;have hj1:((j+1:Nat):Int)=(j:Int)+1:=by omega
     rw [hj1] at hht;have n0:¬(j:Int)+1<0:=by omega
     have hsf:=aU8 rs (Fc.toV f);unfold xO at hsz hbu;have hmv:∀es2,List.map (O.rn fun i=>[7,6,2].getD i 0) [.box [.d (.sl (rs.map rvE)),.d (.sl (ag8 rs (top rs+1))),.map 1],.map true es2,ae1]=[.box [.d (.sl (rs.map rvE)),.d (.sl (ag8 rs (top rs+1))),.map 6],.map true es2,ae1]:=fun _=>rfl;generalize ag8 rs (top rs+1)=SD at *;generalize szF rs (Fc.toV f)=sz at *;refine aE_ Tryz.func11 ?_;refine l7 Tryz.func11 mixed 13 _ _ (by kernel_rfl) ?_;simp only [go_sem,seval,run.eq_1]
     repeat' (first
      | ((first
       | (refine hpr.calls rfl ?_)
       | (refine hto.calls rfl ?_)
       | (refine hst.calls rfl ?_))<;>(try simp only [go_sem,seval,run.eq_1]))
      | fail)
     by_cases hcn:(prF rs (Fc.toV f)).cnt<=200
     ·have n3:¬(200:Int)<(sz:Int):=by omega
      have hK':K=some (prF rs (Fc.toV f)):=by rw [<-hK];unfold bw9;rw [if_pos ⟨hin,hcn⟩]
      rw [hK'];refine AW.drawA mixed #[true,true,true,true,true,true,true,true,true,true,true,true,true] [(4,.box [.d (.str f.rel),.d (.sl (f.args.map Tm.enc))]),(7,.box [.d (.sl (rs.map rvE)),.d (.sl SD),.map 6])] [] [0,4,1,2,3,5,6,7,8,9,10,11,12] [] none (by kernel_rfl) trivial (by simp [x8]) ?_;simp only [go_sem,seval]
      repeat' (first
       | ((first
        | (refine hht.calls rfl ?_)
        | (refine (ACalls.embR hsz [7,6,2] rfl rfl rfl (by decide) rfl ?_)<;>(rintro c H' ⟨rfl,es2,hm2,rfl⟩ _;refine ⟨rfl,rfl,?_⟩;rw [hmv es2])))<;>(try simp only [go_sem,seval,n0,n3]))
       | fail)
      refine AW.anyCell 7 2 rfl rfl ?_;refine rS_ Tryz.func11 ?_;simp only [go_sem,seval,n3]
      repeat' (first
       | (exact ⟨_,_,_,_,rfl,rfl⟩)
       | ((refine (ACalls.emb hbu [0,1,7] rfl rfl rfl (by decide) rfl ?_)<;>(rintro c H' ⟨e1,B1,e2,B2,rfl,rfl⟩ _;refine ⟨rfl,rfl,?_⟩))<;>(try simp only [go_sem,seval]))
       | fail)
     ·have n3:(200:Int)<(sz:Int):=by omega
      have hK':K=none:=by rw [<-hK];unfold bw9;rw [if_neg (fun h=>hcn h.2)]
      rw [hK'];refine AW.drawA mixed #[true,true,true,true,true,true,true,true,true,true,true,true,true] [(4,.box [.d (.str f.rel),.d (.sl (f.args.map Tm.enc))]),(7,.box [.d (.sl (rs.map rvE)),.d (.sl SD),.map 6])] [] [0,4,1,2,3,5,6,7,8,9,10,11,12] [] none (by kernel_rfl) trivial (by simp [x8]) ?_;simp only [go_sem,seval]
      repeat' (first
       | ((first
        | (refine hht.calls rfl ?_)
        | (refine (ACalls.embR hsz [7,6,2] rfl rfl rfl (by decide) rfl ?_)<;>(rintro c H' ⟨rfl,es2,hm2,rfl⟩ _;refine ⟨rfl,rfl,?_⟩;rw [hmv es2])))<;>(try simp only [go_sem,seval,n0,n3]))
       | fail)
      refine rS_ Tryz.func11 ?_;simp only [go_sem,seval,n0,n3]
      repeat' (first
       | (exact ⟨rfl,rfl⟩)
       | fail)
    ·rw [au6 hin] at hht
     have hK':K=none:=by rw [<-hK];unfold bw9;rw [if_neg (fun h=>hin h.1)]
     rw [hK'];generalize ag8 rs (top rs+1)=SD at *;refine aE_ Tryz.func11 ?_;refine rS_ Tryz.func11 ?_;simp only [go_sem,seval]
     repeat' (first
      | (exact ⟨rfl,rfl⟩)
      | ((first
       | (refine hpr.calls rfl ?_)
       | (refine hto.calls rfl ?_)
       | (refine hst.calls rfl ?_)
       | (refine hht.callQ rfl ?_))<;>(try simp only [go_sem,seval]))
      | fail)
   ·rw [if_neg (fun h=>hq h.2.2)] at hK
    simp only [u_] at hq;rw [hq] at hto;rw [<-hK,Fc.enc_eq];refine aE_ Tryz.func11 ?_;refine rS_ Tryz.func11 ?_;simp only [go_sem,seval]
    repeat' (first
     | (exact ⟨rfl,rfl⟩)
     | ((first
      | (refine hpr.calls rfl ?_)
      | (refine hto.calls rfl ?_))<;>(try simp only [go_sem,seval]))
     | fail)
 ·rw [if_neg h12,I1] at hpr
  rw [if_neg (fun h=>h12 ⟨h.1,h.2.1⟩)] at hK;rw [<-hK,Fc.enc_eq];refine aE_ Tryz.func11 ?_;refine rS_ Tryz.func11 ?_;simp only [go_sem,seval]
  repeat' (first
   | (exact ⟨rfl,rfl⟩)
   | ((refine hpr.calls rfl ?_)<;>(try simp only [go_sem,seval]))
   | fail)
theorem bk3 (p:Pg) (u:List Tm) (f:Fc) (hw:wtL p.enc<=1048576) (hwu:wtR (u.map Tm.enc)<=1048576) (hwf:wtL f.enc<=1048576):Gives Tryz.prog 7 [.agg p.enc,.sl (u.map Tm.enc),.agg f.enc] (pvC (bx2 p u f)):=by
 have hal:=bn6 p u hw (aE4 hwu).1 (aE4 hwu).2;have hfo:=ba3 p f hw hwf;obtain ⟨K,hK⟩:∃K,bx2 p u f=K:=⟨_,rfl⟩;rw [hK];unfold bx2 at hK;unfold bH1 at hal;by_cases h12:p.all false=true/\S9 u=true
 ·rw [if_pos h12] at hal
  rw [aY9 h12.1,t_] at hfo;obtain ⟨hu,he⟩:=Uni.of h12.2;cases hg:p.gr (u.map Tm.V) with
  | none =>
   rw [hg] at hK;have hK':K=none:=by rw [<-hK];split<;>rfl
   rw [hg,aj1] at hal;rw [Fc.enc_eq] at hfo;rw [hK',M7,Fc.enc_eq];refine aE_ Tryz.func7 ?_;refine rS_ Tryz.func7 ?_;simp only [go_sem,seval]
   repeat' (first
    | ((refine hal.calls rfl ?_)<;>(try simp only [go_sem,seval]))
    | fail)
  | some rs =>
   rw [hg,aN3] at hal;obtain ⟨_,hrl⟩:=av0 hg;have hrr:=aR7 (aY9 h12.1) hu hg;cases hq:p.factFits f with
   | true =>
    have hok:=bJ9 hq;rw [if_pos ⟨h12.1,h12.2,hok⟩,hg] at hK;dsimp only at hK;rw [hq] at hfo;have hbl:=aQ6 rs (by omega) hrr (top rs) (Fc.toV f) 200 (fun h=>by obtain ⟨j,_,h2,h3,_⟩:=I9 h;omega) (by omega) (by omega);rw [bA8,hK,<-aU6 hok] at hbl;rw [Fc.enc_eq] at hbl hfo |-;generalize ag8 rs (top rs+1)=SD at *;cases K with
    | none =>
     rw [M7] at hbl |-;refine aE_ Tryz.func7 ?_;refine rS_ Tryz.func7 ?_;simp only [go_sem,seval]
     repeat' (first
      | ((first
       | (refine hal.calls rfl ?_)
       | (refine hfo.calls rfl ?_)
       | (refine hbl.calls rfl ?_))<;>(try simp only [go_sem,seval]))
      | fail)
    | some t =>
     rw [ao9,Pf.enc_eq] at hbl |-;refine aE_ Tryz.func7 ?_;refine rS_ Tryz.func7 ?_;simp only [go_sem,seval]
     repeat' (first
      | ((first
       | (refine hal.calls rfl ?_)
       | (refine hfo.calls rfl ?_)
       | (refine hbl.calls rfl ?_))<;>(try simp only [go_sem,seval]))
      | fail)
   | false =>
    have hK':K=none:=by
     rw [<-hK,hg];split
     ·rename_i h3
      dsimp only;unfold bw9;rw [if_neg];intro h4;rw [bv4 (aY9 h12.1) hu hg h3.2.2 h4.1] at hq;cases hq
     ·rfl
    rw [hq] at hfo;rw [Fc.enc_eq] at hfo;rw [hK',M7,Fc.enc_eq];generalize ag8 rs (top rs+1)=SD at *;refine aE_ Tryz.func7 ?_;refine rS_ Tryz.func7 ?_;simp only [go_sem,seval]
    repeat' (first
     | ((first
      | (refine hal.calls rfl ?_)
      | (refine hfo.calls rfl ?_))<;>(try simp only [go_sem,seval]))
     | fail)
 ·rw [if_neg h12,aj1] at hal
  rw [if_neg (fun h=>h12 ⟨h.1,h.2.1⟩)] at hK;rw [Fc.enc_eq] at hfo;rw [<-hK,M7,Fc.enc_eq];generalize (X6 p && p.factFits f)=b at *;refine aE_ Tryz.func7 ?_;refine rS_ Tryz.func7 ?_;simp only [go_sem,seval]
  repeat' (first
   | ((refine hal.calls rfl ?_)<;>(try simp only [go_sem,seval]))
   | fail)
set_option maxHeartbeats 4000000
theorem Z7 (k:Int):Gives Tryz.prog 65 [.sl [],.int .i64 k] (.d (.int .i64 k)):=by
 have z0:((0:Nat):Int)=0:=rfl;refine aE_ Tryz.func65 ?_;refine rS_ Tryz.func65 ?_;simp only [go_sem,seval]
 repeat' (first
  | ((refine AW.loop ?_<;>(refine rS_ Tryz.func65 ?_))<;>(try simp only [go_sem,seval,z0]))
  | fail)
 all_goals (exfalso;simp at *)
def mGT (l:List Gl):Prop:=∀(k:Int) (q e:Nat) (B:Nat->Prop),0<=k->k+Gl.mcnts l<=1000000000 ->
 ACalls Tryz.prog 65 [.own 0 q,.d (.int .i64 k)] [.tree q 4 e (l.map Gl.enc) B none] fun c H'=>c=.d (.int .i64 (k+Gl.mcnts l))/\∃B',H'=[.tree q 4 e ((Gl.mrks k l).map Gl.enc) B' none]
theorem at6 (l:List Gl) (ih:∀x,x∈l->mGT x.goals):mGT l:=by
 intro k q e B h0 h1;have hlm:=Gl.len_mcnts l;refine aE_ Tryz.func65 ?_;refine rS_ Tryz.func65 ?_;simp only [go_sem,seval];refine AW.lp [0] (fun p:Nat×(Nat->Prop)=>[(5,.d (.int .i64 p.1)),(1,.d (.int .i64 (k+Gl.mcnts (l.take p.1))))]) (fun _ p=>[.tree q 4 e ((Gl.mrks k (l.take p.1)++l.drop p.1).map Gl.enc) p.2 none]) (fun p=>p.1<=l.length) (fun p=>l.length - p.1) (0,B) (p_ _) (by refine ⟨by simp [mkS],by simp [mkS,Gl.mrks],by simp [mkS,O.refsLt],?_⟩;simp [mkS,Abs.get,C.refsLtT,C.refsLt,C.refsLt1,Gl.mcnts]) ?_;rintro ⟨i,B1⟩ hi hnext;dsimp only at hi hnext |-;by_cases h:i<l.length
 ·have hlt:(i:Int)<(l.length:Int):=by omega
  have hd:l.drop i=l[i] :: l.drop (i+1):=List.drop_eq_getElem_cons h;have hll:((Gl.mrks k (l.take i)).map Gl.enc++l[i].enc :: (l.drop (i+1)).map Gl.enc).length=l.length:=by simp [Gl.mrks_len];omega
  have hai:((Gl.mrks k (l.take i)).map Gl.enc).length=i:=by simp [Gl.mrks_len];omega
  have hnxt:l.take (i+1)=l.take i++[l[i]]:=by rw [K_,n_ h];rfl
  have hcn:Gl.mcnts (l.take (i+1))=Gl.mcnts (l.take i)+l[i].mcnt:=by rw [hnxt,Gl.mcnts_app];simp [Gl.mcnts]
  have hcl:Gl.mcnts l=Gl.mcnts (l.take i)+(l[i].mcnt+Gl.mcnts (l.drop (i+1))):=by
   conv=>lhs;rw [<-List.take_append_drop i l,hd,Gl.mcnts_app]
   simp [Gl.mcnts]
  have hix:=ih l[i] (List.getElem_mem _);have hmr:Gl.mrks k (l.take (i+1))=Gl.mrks k (l.take i)++[l[i].mrk (k+Gl.mcnts (l.take i))]:=by rw [hnxt,Gl.mrks_app];simp [Gl.mrks]
  have hmc:=Gl.mcnt_eq l[i];rw [hd,z_,m_];have hnx:=fun B' s'=>hnext (i+1,B') s' h (by dsimp only;omega);clear hnext;simp only [hmr,hcn,z_,m_,l_,Gl.mrk_eq] at hnx;generalize hx:l[i]=x at *;generalize hA:(Gl.mrks k (l.take i)).map Gl.enc=A at *;generalize hZ:(l.drop (i+1)).map Gl.enc=Z at *;generalize hk:k+(Gl.mcnts (l.take i):Int)=kk at *;have s1:=fun (y:List D)=>N8 (x:=x.enc) (y:=y) (r:=Z) hai;have s2:=fun (y y':List D)=>N8 (x:=y) (y:=y') (r:=Z) hai;have g1:=fun (y:List D)=>ap7 (x:=y) (r:=Z) hai;have xe:=Gl.enc_eq x;rw [xe] at hll |-;have zk4:∀zk:Nat,x.goals.map Gl.enc≠[]->(∀j,j∈x.goals->4=zk)->zk=4:=fun zk hne hz=>by
   cases ha:x.goals with
   | nil=>simp [ha] at hne
   | cons a r=>exact (hz a (by simp [ha])).symm
  have hrow:∀ts ks,(Gl.mk kk (T9 (kk+1)) ts ks).enc=[.int .i64 kk,.str (T9 (kk+1)),.sl (ts.map Tm.enc),.sl (ks.map Gl.enc)]:=fun ts ks=>by
   rw [Gl.enc_eq];rfl
  have zt4:∀zk:Nat,x.terms.map Tm.enc≠[]->(∀j,j∈x.terms->4=zk)->zk=4:=fun zk hne hz=>by
   cases ha:x.terms with
   | nil=>simp [ha] at hne
   | cons a r=>exact (hz a (by simp [ha])).symm
  simp only [hrow,j_,List.cons_append,r_] at hnx;have g2:=fun (y:List D) (Q:List D->Prop)=>j5 (g1 y) Q;refine l7 Tryz.func65 mixed 17 _ _ (by kernel_rfl) ?_;simp only [go_sem,seval,run.eq_1,hlt,hll,s2,g1,g2]
  repeat' (first
   | (refine H6 (fun hk0=>?_) (fun hk1 zk e' B2 B3 hzk=>?_)<;>(try simp only [go_sem,seval,hlt,hll,s2,g1,g2,run.eq_1]))
   | (simp (disch:=omega) only [j6])
   | ((first
    | (refine E9 (fun Bz=>?_))
    | (refine (Q8 _).calls rfl ?_)
    | (refine (M4 _ sd sd).calls rfl ?_)
    | (refine ⟨sd,?_⟩))<;>(try simp only [go_sem,seval,hlt,hll,s2,g1,g2,run.eq_1]))
   | fail)
  ·have ha:x.terms=[]:=by simpa using hk0
   have hm0:Tm.mcnts x.terms=0:=by rw [ha];rfl
   have e1:kk+1+1=kk+2+((0:Nat):Int):=by omega
   rw [ha] at hnx |-;refine rS_ Tryz.func65 ?_;simp only [go_sem,seval,hlt,hll,s2,g1,g2]
   repeat' (first
    | (refine H6 (fun hk0=>?_) (fun hk1 zk e' B2 B3 hzk=>?_)<;>(try simp only [go_sem,seval,hlt,hll,s2,g1,g2]))
    | (simp (disch:=omega) only [j6])
    | ((first
     | (refine (Z7 _).calls rfl ?_)
     | (refine ⟨sd,?_⟩))<;>(try simp only [go_sem,seval,hlt,hll,s2,g1,g2]))
    | fail)
   ·have hb:x.goals=[]:=by simpa using hk0
    have hn0:Gl.mcnts x.goals=0:=by rw [hb];rfl
    rw [hb] at hnx |-;refine hnx Bz _ ?_;refine ⟨by simp [mkS],by simp [mkS,Gl.mrks,Tm.mrks,Tm.mcnts,show kk+1+1=kk+2 by omega],by simp [mkS,O.refsLt],?_⟩;simp [mkS,Abs.get,C.refsLtT,C.refsLt,C.refsLt1];omega
   ·obtain rfl:=zk4 zk hk1 hzk
    refine (hix (kk+1+1) 0 e' B3 (by omega) (by omega)).at1 rfl 1 rfl rfl ?_;rintro c o' ⟨rfl,B4,ho⟩;cases ho;refine ⟨rfl,rfl,?_⟩;simp only [go_sem,seval,C.at1];try simp (disch:=omega) only [j6]
    try simp only [go_sem,seval,C.at1]
    refine AW.rejoin 0 1 rfl rfl (by decide) (fun B5=>?_);simp only [go_sem,seval,g1,s2];refine hnx B5 _ ?_;refine ⟨by simp [mkS],by simp [mkS,Gl.mrks,Tm.mrks,Tm.mcnts,show kk+1+1=kk+2 by omega],by simp [mkS,O.refsLt],?_⟩;simp [mkS,Abs.get,C.refsLtT,C.refsLt,C.refsLt1];omega
  ·obtain rfl:=zt4 zk hk1 hzk
   have e1:kk+1+1+(Tm.mcnts x.terms:Int)=kk+2+(Tm.mcnts x.terms:Int):=by omega
   have e2:kk+1+1=kk+2:=by omega
   refine (ak6 x.terms (kk+1+1) 0 e' B3 (by omega) (by omega)).at1 rfl 1 rfl rfl ?_;rintro c o' ⟨rfl,B4,ho⟩;cases ho;refine ⟨rfl,rfl,?_⟩;simp only [go_sem,seval,C.at1,run.eq_1];refine AW.rejoin 0 1 rfl rfl (by decide) (fun B5=>?_);simp only [go_sem,seval,g1,s2];refine rS_ Tryz.func65 ?_;simp only [go_sem,seval,hlt,hll,s2,g1,g2]
   repeat' (first
    | (refine H6 (fun hk0=>?_) (fun hk1 zk e' B2 B3 hzk=>?_)<;>(try simp only [go_sem,seval,hlt,hll,s2,g1,g2]))
    | (simp (disch:=omega) only [j6])
    | ((first
     | (refine (Z7 _).calls rfl ?_)
     | (refine ⟨sd,?_⟩))<;>(try simp only [go_sem,seval,hlt,hll,s2,g1,g2]))
    | fail)
   ·have hb:x.goals=[]:=by simpa using hk0
    have hn0:Gl.mcnts x.goals=0:=by rw [hb];rfl
    rw [hb] at hnx |-;refine hnx B5 _ ?_;refine ⟨by simp [mkS],by simp [mkS,Gl.mrks,Tm.mrks,e2],by simp [mkS,O.refsLt],?_⟩;simp [mkS,Abs.get,C.refsLtT,C.refsLt,C.refsLt1];omega
   ·obtain rfl:=zk4 zk hk1 hzk
    refine (hix (kk+1+1+(Tm.mcnts x.terms:Int)) 0 e' B3 (by omega) (by omega)).at1 rfl 2 rfl rfl ?_;rintro c o' ⟨rfl,B4,ho⟩;cases ho;refine ⟨rfl,rfl,?_⟩;simp only [go_sem,seval,C.at1];try simp (disch:=omega) only [j6]
    try simp only [go_sem,seval,C.at1]
    refine AW.rejoin 0 2 rfl rfl (by decide) (fun B5=>?_);simp only [go_sem,seval,g1,s2];refine hnx B5 _ ?_;refine ⟨by simp [mkS],by simp [mkS,Gl.mrks,Tm.mrks,e2],by simp [mkS,O.refsLt],?_⟩;simp [mkS,Abs.get,C.refsLtT,C.refsLt,C.refsLt1];omega
 ·obtain rfl:i=l.length:=by omega
  refine rS_ Tryz.func65 ?_;simp only [go_sem,seval,Gl.mrks_len,List.take_length,List.drop_length]
  repeat' (first
   | (exact ⟨_,rfl⟩)
   | fail)
theorem bn1:∀t:Gl,mGT t.goals:=by
 intro t;induction t using Gl.ind' with
 | h t ih=>exact at6 t.goals ih
theorem bn2 (l:List Gl):mGT l:=at6 l (fun x _=>bn1 x)
end Go.Proofs.YtancdeoodnpimaaGreatDoor
