import Derived.Test.YtancdeoodnpimaaGreatDoorJ13
import Derived.Lib.ItoaLen
import Derived.Lib.AtoiAllCases
open List renaming getElem?_eq_getElem->a_,length_cons->c_,mem_cons->d_,map_cons->e_,getElem?_cons_succ->g_,length_append->h_,mem_of_getElem?->i_,cons_append->j_,pairwise_cons->k_,all_eq_true->l_,sum_cons->m_,getElem?_eq_some_iff->o_,drop_eq_getElem_cons->p_,mem_map->q_,getD_eq_getElem?_getD->r_,length_map->s_,take_succ_cons->t_,mem_append->u_,length_nil->v_,mem_flatMap->x_,getElem_mem->y_,append_assoc->z_,take_append_drop->A_,nil_append->C_,take_add_one->D_,map_nil->E_,take_length->F_,map_append->I_,foldl_cons->J_,append_nil->K_,map_map->L_,all_cons->N_,length_eq_zero_iff->O_,length_filter_le->Q_,dropWhile_cons->R_,flatMap_cons->S_,eq_nil_of_length_eq_zero->U_,takeWhile_append_of_pos->W_,take_zero->X_,nodup_iff_pairwise_ne->Y_,mem_range->Z_,getElem?_append_right->aa_,getElem?_append_left->ab_,eq_of_mem_replicate->ad_,drop_eq_nil_of_le->ae_,getElem?_eq_none->af_
open Bool renaming and_eq_true->b_,or_eq_false_iff->G_,or_eq_true->P_,and_eq_false_imp->ag_
open Int renaming toNat_natCast->f_,not_lt->M_,tdiv_eq_ediv_of_nonneg->ac_
open Nat renaming le_refl->n_,lt_succ_self->w_,lt_or_ge->B_,zero_le->H_,zero_add->T_,add_mul->V_
namespace Go.Proofs.YtancdeoodnpimaaGreatDoor
open Go.Abs
set_option maxRecDepth 100000
set_option maxHeartbeats 4000000
set_option linter.unusedSimpArgs false
set_option linter.unusedVariables false
theorem cj9:leaves Tryz.prog 6 57=some [.int .i64,.int .i64,.str,.sl 57]:=by kernel_rfl
theorem by3 {x:List D} (h:Sh Tryz.prog 57 x):∃a0 a1 a2 a3,x=[.int .i64 a0,.int .i64 a1,.str a2,.sl a3]/\(Lit.int .i64 a0).wf=true/\(Lit.int .i64 a1).wf=true/\a2.length<=maxLen/\(a3.length<=maxLen/\∀x,x∈a3->Sh Tryz.prog 57 x):=by
 obtain ⟨ls,h1,h2,h3⟩:=h;rw [cj9] at h1;cases h1;match x,h2,h3 with
 | [c0,c1,c2,c3],_,h3 =>
  have g0:=h3 0 _ _ rfl rfl;have g1:=h3 1 _ _ rfl rfl;have g2:=h3 2 _ _ rfl rfl;have g3:=h3 3 _ _ rfl rfl;obtain ⟨b0,rfl,q0⟩:=g0.int_inv;obtain ⟨b1,rfl,q1⟩:=g1.int_inv;obtain ⟨b2,rfl,q2⟩:=g2.str_inv;obtain ⟨b3,rfl,q3⟩:=g3.elems;exact ⟨_,_,_,_,rfl,q0,q1,q2,q3⟩
theorem sz5 (xs:List (List D)) (hm:xs.length<=maxLen) (hx:∀x,x∈xs->x.length=4/\∀n:Int,0<=n->n<=1048576->Gives Tryz.prog 22 [.agg x,.int .i64 n] (.d (.int .i64 (szr n (wtL x)))))
  (n:Int) (h0:0<=n) (h1:n<=1048576):Gives Tryz.prog 5 [.sl xs,.int .i64 n] (.d (.int .i64 (szr n (wtR xs)))):=by
 have hm':(xs.length:Int)<=9223372036854775807:=by simp only [maxLen] at hm;omega
 have hs:=ao7 xs;have hs0:=D9 xs 0;simp only [Y7] at hs0;refine aE_ Tryz.func5 ?_;refine l7 Tryz.func5 mixed 100 _ _ (by kernel_rfl) ?_;simp only [go_sem,seval];rw [j6 (by omega) (by omega)];refine y7 (fun h=>?_) (fun h=>?_)
 ·simp only [decide_eq_true_eq] at h
  simp only [go_sem,seval];rw [I6 (by omega)]
 simp only [decide_eq_false_iff_not,M_] at h;simp only [go_sem,seval];refine AW.loop_ind (fun i:Nat=>⟨[(5,.d (.int .i64 i)),(0,.d (.sl xs)),(1,.d (.int .i64 (n - xs.length - Y7 xs i))),(4,.d (.int .i64 0))],[]⟩) (fun i=>i<=xs.length/\(Y7 xs i:Int)<=n - xs.length) (fun i=>xs.length - i) 0 ⟨by omega,by simp only [Y7];omega⟩ ?_ ?_
 ·refine aj3.of (by simp) rfl ?_
  simp [Abs.get,Y7,C.refsLtT,C.refsLt,C.refsLt1]
 ·intro i hi hnext
  obtain ⟨hi1,hi2⟩:=hi;refine l7 Tryz.func5 mixed 100 _ _ (by kernel_rfl) ?_;simp only [go_sem,seval];refine y7 (fun h=>?_) (fun h=>?_)
  ·simp only [decide_eq_true_eq] at h
   have hi:i<xs.length:=by omega
   obtain ⟨x,hxi⟩:∃x,xs[i]? = some x:=⟨_,a_ hi⟩;have hsum:=aO6 hxi;have hle:=D9 xs (i+1);obtain ⟨e1,e2⟩:=hx x (i_ hxi);simp only [go_sem,seval,f_,hxi,j5 hxi,e1];repeat refine And.intro (by omega) ?_
   refine (e2 _ (by omega) (by omega)).calls rfl ?_;simp only [go_sem,seval];refine y7 (fun h=>?_) (fun h=>?_)
   ·simp only [decide_eq_true_eq] at h
    have hg:=ag7 h;simp only [go_sem,seval];rw [I6 (by omega)]
   ·simp only [decide_eq_false_iff_not] at h
    have hg:=aa3 h;rw [F4 hg];simp only [go_sem,seval];rw [j6 (by omega) (by omega)];refine hnext (i+1) _ ⟨by omega,by omega⟩ (by omega) ?_;refine aj3.of (by simp) rfl ?_;simp [Abs.get,C.refsLtT,C.refsLt,C.refsLt1];omega
  ·simp only [decide_eq_false_iff_not] at h
   have:i=xs.length:=by omega
   subst this;simp only [go_sem,seval];rw [F4 (by omega)];all_goals (congr 2<;>omega)
theorem cz0 (a0:Int) (a1:Int) (a2:List UInt8) (a3:List (List D)) (h2:a2.length<=maxLen) (h3:∀n:Int,0<=n->n<=1048576->Gives Tryz.prog 5 [.sl a3,.int .i64 n] (.d (.int .i64 (szr n (wtR a3)))))
  (n:Int) (g0:0<=n) (g1:n<=1048576):Gives Tryz.prog 22 [.agg [.int .i64 a0,.int .i64 a1,.str a2,.sl a3],.int .i64 n] (.d (.int .i64 (szr n (wtL [.int .i64 a0,.int .i64 a1,.str a2,.sl a3])))):=by
 have hw:wtL [.int .i64 a0,.int .i64 a1,.str a2,.sl a3]=a2.length+wtR a3:=by simp only [wtL,D.wt]<;>omega
 simp only [maxLen] at h2;rw [hw];refine aE_ Tryz.func22 ?_;refine l7 Tryz.func22 mixed 100 _ _ (by kernel_rfl) ?_;simp only [go_sem,seval];rw [j6 (by omega) (by omega)];refine y7 (fun h=>?_) (fun h=>?_)
 ·simp only [decide_eq_true_eq] at h
  simp only [go_sem,seval];rw [I6 (by omega)]
 simp only [decide_eq_false_iff_not,M_] at h;simp only [go_sem,seval];refine (h3 _ (by omega) (by omega)).calls rfl ?_;simp only [go_sem,seval];refine y7 (fun h=>?_) (fun h=>?_)
 ·simp only [decide_eq_true_eq] at h
  have hg:=ag7 h;simp only [go_sem,seval];rw [I6 (by omega)]
 simp only [decide_eq_false_iff_not] at h;have hg:=aa3 h;rw [F4 hg];clear h;simp only [go_sem,seval];all_goals rw [F4 (by omega)]
 all_goals (congr 2<;>omega)
theorem to9 (xs:List (List D)) (hl:xs.length<=1048576) (hx:∀x,x∈xs->x.length=4/\Gives Tryz.prog 27 [.agg x] (.d (.agg x))):Gives Tryz.prog 9 [.sl xs] (.d (.sl xs)):=by
 refine aE_ Tryz.func9 ?_;refine l7 Tryz.func9 mixed 100 _ _ (by kernel_rfl) ?_;simp only [go_sem,seval,f_];repeat refine And.intro (by first | omega | (simp only [maxLen];omega)) ?_
 refine AW.loop_ind (fun i:Nat=>⟨[(4,.d (.int .i64 i)),(0,.d (.sl xs)),(3,.rsl 0 xs.length),(2,.nil0)],[.row 4 66 (xs.take i++List.replicate (xs.length - i) [.int .i64 0,.int .i64 0,.str [],.sl []])]⟩) (fun i=>i<=xs.length) (fun i=>xs.length - i) 0 (by omega) ?_ ?_
 ·refine aj3.of (by simp) rfl ?_
  simp [Abs.get,C.refsLtT,C.refsLt,C.refsLt1]
 ·intro i hi hnext
  by_cases h:i<xs.length
  ·obtain ⟨x,hxi⟩:∃x,xs[i]? = some x:=⟨_,a_ h⟩
   obtain ⟨e1,e2⟩:=hx x (i_ hxi);have hlt:((i:Int)<(xs.length:Int))=True:=by simp;omega
   refine l7 Tryz.func9 mixed 100 _ _ (by kernel_rfl) ?_;simp only [go_sem,seval,f_,hlt,hxi,j5 hxi,e1];repeat refine And.intro (by omega) ?_
   refine e2.calls rfl ?_;simp only [go_sem,seval,f_,hlt,hxi,j5 hxi,e1];repeat refine And.intro (by first | omega | (simp;omega) | (simp_all;done)) ?_
   rw [j6 (by omega) (by omega)];first | rw [row_step (k:=4) hxi (by rfl)] | rw [as1 hxi (by rfl)]
   refine hnext (i+1) _ (by omega) (by omega) ?_;refine aj3.of (by simp) rfl ?_;simp [Abs.get,C.refsLtT,C.refsLt,C.refsLt1]
  ·have hlt:((i:Int)<(xs.length:Int))=False:=by simp;omega
   refine l7 Tryz.func9 mixed 6 _ _ (by kernel_rfl) ?_;simp only [go_sem,seval,f_,hlt];obtain rfl:i=xs.length:=by omega
   rw [aj9];refine AW.freeze 3 0 rfl rfl rfl ?_;refine l7 Tryz.func9 mixed 100 _ _ (by kernel_rfl) ?_;simp only [go_sem,seval]
theorem cy2 (a0:Int) (a1:Int) (a2:List UInt8) (a3:List (List D)) (h3:Gives Tryz.prog 9 [.sl a3] (.d (.sl a3))):Gives Tryz.prog 27 [.agg [.int .i64 a0,.int .i64 a1,.str a2,.sl a3]] (.d (.agg [.int .i64 a0,.int .i64 a1,.str a2,.sl a3])):=by
 refine aE_ Tryz.func27 ?_;refine l7 Tryz.func27 mixed 100 _ _ (by kernel_rfl) ?_;simp only [go_sem,seval];refine h3.calls rfl ?_;simp only [go_sem,seval]
theorem bX1 (xs:List (List D)) (hm:xs.length<=maxLen) (hx:∀x,x∈xs->x.length=4/\Gives Tryz.prog 36 [.agg x,.agg x] (.d (.bool true))):Gives Tryz.prog 14 [.sl xs,.sl xs] (.d (.bool true)):=by
 have hm':(xs.length:Int)<=9223372036854775807:=by simp only [maxLen] at hm;omega
 refine aE_ Tryz.func14 ?_;refine l7 Tryz.func14 mixed 100 _ _ (by kernel_rfl) ?_;simp only [go_sem,seval,bne_self_eq_false];refine AW.loop_ind (fun i:Nat=>⟨[(5,.d (.int .i64 i)),(0,.d (.sl xs)),(1,.d (.sl xs)),(4,.d (.bool false))],[]⟩) (fun i=>i<=xs.length) (fun i=>xs.length - i) 0 (by omega) ?_ ?_
 ·refine aj3.of (by simp) rfl ?_
  simp [Abs.get,C.refsLtT,C.refsLt,C.refsLt1]
 ·intro i hi hnext
  by_cases h:i<xs.length
  ·obtain ⟨x,hxi⟩:∃x,xs[i]? = some x:=⟨_,a_ h⟩
   obtain ⟨e1,e2⟩:=hx x (i_ hxi);have hlt:((i:Int)<(xs.length:Int))=True:=by simp;omega
   have h00:(0<=(i:Int))=True:=by simp
   refine l7 Tryz.func14 mixed 100 _ _ (by kernel_rfl) ?_;simp only [go_sem,seval,f_,hlt,hxi,j5 hxi,e1,h00,bne_self_eq_false];refine e2.callQ rfl ?_;simp only [go_sem,seval];rw [j6 (by omega) (by omega)];refine hnext (i+1) _ (by omega) (by omega) ?_;refine aj3.of (by simp) rfl ?_;simp [Abs.get,C.refsLtT,C.refsLt,C.refsLt1]
  ·have hlt:((i:Int)<(xs.length:Int))=False:=by simp;omega
   refine l7 Tryz.func14 mixed 100 _ _ (by kernel_rfl) ?_;simp only [go_sem,seval,hlt]
theorem cw0 (a0:Int) (a1:Int) (a2:List UInt8) (a3:List (List D)) (h3:Gives Tryz.prog 14 [.sl a3,.sl a3] (.d (.bool true))):Gives Tryz.prog 36 [.agg [.int .i64 a0,.int .i64 a1,.str a2,.sl a3],.agg [.int .i64 a0,.int .i64 a1,.str a2,.sl a3]] (.d (.bool true)):=by
 refine aE_ Tryz.func36 ?_;refine l7 Tryz.func36 mixed 100 _ _ (by kernel_rfl) ?_;simp only [go_sem,seval,bne_self_eq_false];refine h3.calls rfl ?_;simp only [go_sem,seval,bne_self_eq_false]
theorem bc9 {x:List D} (h:Sh Tryz.prog 57 x):x.length=4:=by
 obtain ⟨_,_,_,_,rfl,_⟩:=by3 h;rfl
theorem bP9:∀(m:Nat) (x:List D),wtL x<m->Sh Tryz.prog 57 x->∀n:Int,0<=n->n<=1048576->Gives Tryz.prog 22 [.agg x,.int .i64 n] (.d (.int .i64 (szr n (wtL x))))
 | 0,_,hm,_=>by omega
 | m+1,x,hm,h=>by
  obtain ⟨a0,a1,a2,a3,rfl,q0,q1,q2,q3⟩:=by3 h;have hw:wtL [.int .i64 a0,.int .i64 a1,.str a2,.sl a3]=a2.length+wtR a3:=by simp only [wtL,D.wt]<;>omega
  exact fun n g0 g1=>cz0 a0 a1 a2 a3 q2 (fun n g0 g1=>sz5 a3 q3.1 (fun x hx=>⟨bc9 (q3.2 x hx),bP9 m x (by have:=G7 a3 x hx;omega) (q3.2 x hx)⟩) n g0 g1) n g0 g1
theorem bP3:∀(m:Nat) (x:List D),wtL x<m->wtL x<=1048576->Sh Tryz.prog 57 x->Gives Tryz.prog 27 [.agg x] (.d (.agg x))
 | 0,_,hm,_,_=>by omega
 | m+1,x,hm,hb,h=>by
  obtain ⟨a0,a1,a2,a3,rfl,q0,q1,q2,q3⟩:=by3 h;have hw:wtL [.int .i64 a0,.int .i64 a1,.str a2,.sl a3]=a2.length+wtR a3:=by simp only [wtL,D.wt]<;>omega
  exact cy2 a0 a1 a2 a3 (to9 a3 (by have:=D9 a3 0;omega) (fun x hx=>⟨bc9 (q3.2 x hx),bP3 m x (by have:=G7 a3 x hx;omega) (by have:=G7 a3 x hx;omega) (q3.2 x hx)⟩))
theorem bT0:∀(m:Nat) (x:List D),wtL x<m->Sh Tryz.prog 57 x->Gives Tryz.prog 36 [.agg x,.agg x] (.d (.bool true))
 | 0,_,hm,_=>by omega
 | m+1,x,hm,h=>by
  obtain ⟨a0,a1,a2,a3,rfl,q0,q1,q2,q3⟩:=by3 h;have hw:wtL [.int .i64 a0,.int .i64 a1,.str a2,.sl a3]=a2.length+wtR a3:=by simp only [wtL,D.wt]<;>omega
  exact cw0 a0 a1 a2 a3 (bX1 a3 q3.1 (fun x hx=>⟨bc9 (q3.2 x hx),bT0 m x (by have:=G7 a3 x hx;omega) (q3.2 x hx)⟩))
theorem bv8 (x:List D) (h:Sh Tryz.prog 57 x):∃t,x=Tm.enc t:=Tm.of_sh cj9 x h
theorem ci4 {x:D} (h:Sh Tryz.prog 25 [x]):∃l:List Tm,x=.sl (l.map Tm.enc):=shL (by kernel_rfl) bv8 h
theorem bG0 (xs:List (List D)) (hm:xs.length<=maxLen) (h:∀x,x∈xs->Sh Tryz.prog 57 x) (n:Int) (g0:0<=n) (g1:n<=1048576):Gives Tryz.prog 5 [.sl xs,.int .i64 n] (.d (.int .i64 (szr n (wtR xs)))):=
 sz5 xs hm (fun x hx=>⟨bc9 (h x hx),bP9 _ x (w_ _) (h x hx)⟩) n g0 g1
theorem bF5 (xs:List (List D)) (hb:wtR xs<=1048576) (h:∀x,x∈xs->Sh Tryz.prog 57 x):Gives Tryz.prog 9 [.sl xs] (.d (.sl xs)):=
 to9 xs (by have:=D9 xs 0;omega) (fun x hx=>⟨bc9 (h x hx),bP3 _ x (w_ _) (by have:=G7 xs x hx;omega) (h x hx)⟩)
theorem bK2 (xs:List (List D)) (hm:xs.length<=maxLen) (h:∀x,x∈xs->Sh Tryz.prog 57 x):Gives Tryz.prog 14 [.sl xs,.sl xs] (.d (.bool true)):=
 bX1 xs hm (fun x hx=>⟨bc9 (h x hx),bT0 _ x (w_ _) (h x hx)⟩)
theorem bW7:leaves Tryz.prog 6 88=some [.int .i64,.str,.sl 57,.sl 88]:=by kernel_rfl
theorem by2 {x:List D} (h:Sh Tryz.prog 88 x):∃a0 a1 a2 a3,x=[.int .i64 a0,.str a1,.sl a2,.sl a3]/\(Lit.int .i64 a0).wf=true/\a1.length<=maxLen/\(a2.length<=maxLen/\∀x,x∈a2->Sh Tryz.prog 57 x)/\(a3.length<=maxLen/\∀x,x∈a3->Sh Tryz.prog 88 x):=by
 obtain ⟨ls,h1,h2,h3⟩:=h;rw [bW7] at h1;cases h1;match x,h2,h3 with
 | [c0,c1,c2,c3],_,h3 =>
  have g0:=h3 0 _ _ rfl rfl;have g1:=h3 1 _ _ rfl rfl;have g2:=h3 2 _ _ rfl rfl;have g3:=h3 3 _ _ rfl rfl;obtain ⟨b0,rfl,q0⟩:=g0.int_inv;obtain ⟨b1,rfl,q1⟩:=g1.str_inv;obtain ⟨b2,rfl,q2⟩:=g2.elems;obtain ⟨b3,rfl,q3⟩:=g3.elems;exact ⟨_,_,_,_,rfl,q0,q1,q2,q3⟩
theorem ci2 (xs:List (List D)) (hm:xs.length<=maxLen) (hx:∀x,x∈xs->x.length=4/\∀n:Int,0<=n->n<=1048576->Gives Tryz.prog 66 [.agg x,.int .i64 n] (.d (.int .i64 (szr n (wtL x)))))
  (n:Int) (h0:0<=n) (h1:n<=1048576):Gives Tryz.prog 104 [.sl xs,.int .i64 n] (.d (.int .i64 (szr n (wtR xs)))):=by
 have hm':(xs.length:Int)<=9223372036854775807:=by simp only [maxLen] at hm;omega
 have hs:=ao7 xs;have hs0:=D9 xs 0;simp only [Y7] at hs0;refine aE_ Tryz.func104 ?_;refine l7 Tryz.func104 mixed 100 _ _ (by kernel_rfl) ?_;simp only [go_sem,seval];rw [j6 (by omega) (by omega)];refine y7 (fun h=>?_) (fun h=>?_)
 ·simp only [decide_eq_true_eq] at h
  simp only [go_sem,seval];rw [I6 (by omega)]
 simp only [decide_eq_false_iff_not,M_] at h;simp only [go_sem,seval];refine AW.loop_ind (fun i:Nat=>⟨[(5,.d (.int .i64 i)),(0,.d (.sl xs)),(1,.d (.int .i64 (n - xs.length - Y7 xs i))),(4,.d (.int .i64 0))],[]⟩) (fun i=>i<=xs.length/\(Y7 xs i:Int)<=n - xs.length) (fun i=>xs.length - i) 0 ⟨by omega,by simp only [Y7];omega⟩ ?_ ?_
 ·refine aj3.of (by simp) rfl ?_
  simp [Abs.get,Y7,C.refsLtT,C.refsLt,C.refsLt1]
 ·intro i hi hnext
  obtain ⟨hi1,hi2⟩:=hi;refine l7 Tryz.func104 mixed 100 _ _ (by kernel_rfl) ?_;simp only [go_sem,seval];refine y7 (fun h=>?_) (fun h=>?_)
  ·simp only [decide_eq_true_eq] at h
   have hi:i<xs.length:=by omega
   obtain ⟨x,hxi⟩:∃x,xs[i]? = some x:=⟨_,a_ hi⟩;have hsum:=aO6 hxi;have hle:=D9 xs (i+1);obtain ⟨e1,e2⟩:=hx x (i_ hxi);simp only [go_sem,seval,f_,hxi,j5 hxi,e1];repeat refine And.intro (by omega) ?_
   refine (e2 _ (by omega) (by omega)).calls rfl ?_;simp only [go_sem,seval];refine y7 (fun h=>?_) (fun h=>?_)
   ·simp only [decide_eq_true_eq] at h
    have hg:=ag7 h;simp only [go_sem,seval];rw [I6 (by omega)]
   ·simp only [decide_eq_false_iff_not] at h
    have hg:=aa3 h;rw [F4 hg];simp only [go_sem,seval];rw [j6 (by omega) (by omega)];refine hnext (i+1) _ ⟨by omega,by omega⟩ (by omega) ?_;refine aj3.of (by simp) rfl ?_;simp [Abs.get,C.refsLtT,C.refsLt,C.refsLt1];omega
  ·simp only [decide_eq_false_iff_not] at h
   have:i=xs.length:=by omega
   subst this;simp only [go_sem,seval];rw [F4 (by omega)];all_goals (congr 2<;>omega)
theorem cy8 (a0:Int) (a1:List UInt8) (a2:List (List D)) (a3:List (List D)) (h1:a1.length<=maxLen) (h2:∀n:Int,0<=n->n<=1048576->Gives Tryz.prog 5 [.sl a2,.int .i64 n] (.d (.int .i64 (szr n (wtR a2))))) (h3:∀n:Int,0<=n->n<=1048576->Gives Tryz.prog 104 [.sl a3,.int .i64 n] (.d (.int .i64 (szr n (wtR a3)))))
  (n:Int) (g0:0<=n) (g1:n<=1048576):Gives Tryz.prog 66 [.agg [.int .i64 a0,.str a1,.sl a2,.sl a3],.int .i64 n] (.d (.int .i64 (szr n (wtL [.int .i64 a0,.str a1,.sl a2,.sl a3])))):=by
 have hw:wtL [.int .i64 a0,.str a1,.sl a2,.sl a3]=a1.length+wtR a2+wtR a3:=by simp only [wtL,D.wt]<;>omega
 simp only [maxLen] at h1;rw [hw];refine aE_ Tryz.func66 ?_;refine l7 Tryz.func66 mixed 100 _ _ (by kernel_rfl) ?_;simp only [go_sem,seval];rw [j6 (by omega) (by omega)];refine y7 (fun h=>?_) (fun h=>?_)
 ·simp only [decide_eq_true_eq] at h
  simp only [go_sem,seval];rw [I6 (by omega)]
 simp only [decide_eq_false_iff_not,M_] at h;simp only [go_sem,seval];refine (h2 _ (by omega) (by omega)).calls rfl ?_;simp only [go_sem,seval];refine y7 (fun h=>?_) (fun h=>?_)
 ·simp only [decide_eq_true_eq] at h
  have hg:=ag7 h;simp only [go_sem,seval];rw [I6 (by omega)]
 simp only [decide_eq_false_iff_not] at h;have hg:=aa3 h;rw [F4 hg];clear h;simp only [go_sem,seval];refine (h3 _ (by omega) (by omega)).calls rfl ?_;simp only [go_sem,seval];refine y7 (fun h=>?_) (fun h=>?_)
 ·simp only [decide_eq_true_eq] at h
  have hg:=ag7 h;simp only [go_sem,seval];rw [I6 (by omega)]
 simp only [decide_eq_false_iff_not] at h;have hg:=aa3 h;rw [F4 hg];clear h;simp only [go_sem,seval];all_goals rw [F4 (by omega)]
 all_goals (congr 2<;>omega)
theorem ch7 (xs:List (List D)) (hl:xs.length<=1048576) (hx:∀x,x∈xs->x.length=4/\Gives Tryz.prog 84 [.agg x] (.d (.agg x))):Gives Tryz.prog 121 [.sl xs] (.d (.sl xs)):=by
 refine aE_ Tryz.func121 ?_;refine l7 Tryz.func121 mixed 100 _ _ (by kernel_rfl) ?_;simp only [go_sem,seval,f_];repeat refine And.intro (by first | omega | (simp only [maxLen];omega)) ?_
 refine AW.loop_ind (fun i:Nat=>⟨[(4,.d (.int .i64 i)),(0,.d (.sl xs)),(3,.rsl 0 xs.length),(2,.nil0)],[.row 4 95 (xs.take i++List.replicate (xs.length - i) [.int .i64 0,.str [],.sl [],.sl []])]⟩) (fun i=>i<=xs.length) (fun i=>xs.length - i) 0 (by omega) ?_ ?_
 ·refine aj3.of (by simp) rfl ?_
  simp [Abs.get,C.refsLtT,C.refsLt,C.refsLt1]
 ·intro i hi hnext
  by_cases h:i<xs.length
  ·obtain ⟨x,hxi⟩:∃x,xs[i]? = some x:=⟨_,a_ h⟩
   obtain ⟨e1,e2⟩:=hx x (i_ hxi);have hlt:((i:Int)<(xs.length:Int))=True:=by simp;omega
   refine l7 Tryz.func121 mixed 100 _ _ (by kernel_rfl) ?_;simp only [go_sem,seval,f_,hlt,hxi,j5 hxi,e1];repeat refine And.intro (by omega) ?_
   refine e2.calls rfl ?_;simp only [go_sem,seval,f_,hlt,hxi,j5 hxi,e1];repeat refine And.intro (by first | omega | (simp;omega) | (simp_all;done)) ?_
   rw [j6 (by omega) (by omega)];first | rw [row_step (k:=4) hxi (by rfl)] | rw [as1 hxi (by rfl)]
   refine hnext (i+1) _ (by omega) (by omega) ?_;refine aj3.of (by simp) rfl ?_;simp [Abs.get,C.refsLtT,C.refsLt,C.refsLt1]
  ·have hlt:((i:Int)<(xs.length:Int))=False:=by simp;omega
   refine l7 Tryz.func121 mixed 6 _ _ (by kernel_rfl) ?_;simp only [go_sem,seval,f_,hlt];obtain rfl:i=xs.length:=by omega
   rw [aj9];refine AW.freeze 3 0 rfl rfl rfl ?_;refine l7 Tryz.func121 mixed 100 _ _ (by kernel_rfl) ?_;simp only [go_sem,seval]
theorem cy0 (a0:Int) (a1:List UInt8) (a2:List (List D)) (a3:List (List D)) (h2:Gives Tryz.prog 9 [.sl a2] (.d (.sl a2))) (h3:Gives Tryz.prog 121 [.sl a3] (.d (.sl a3))):Gives Tryz.prog 84 [.agg [.int .i64 a0,.str a1,.sl a2,.sl a3]] (.d (.agg [.int .i64 a0,.str a1,.sl a2,.sl a3])):=by
 refine aE_ Tryz.func84 ?_;refine l7 Tryz.func84 mixed 100 _ _ (by kernel_rfl) ?_;simp only [go_sem,seval];refine h2.calls rfl ?_;simp only [go_sem,seval];refine h3.calls rfl ?_;simp only [go_sem,seval]
theorem cl0 (xs:List (List D)) (hm:xs.length<=maxLen) (hx:∀x,x∈xs->x.length=4/\Gives Tryz.prog 103 [.agg x,.agg x] (.d (.bool true))):Gives Tryz.prog 144 [.sl xs,.sl xs] (.d (.bool true)):=by
 have hm':(xs.length:Int)<=9223372036854775807:=by simp only [maxLen] at hm;omega
 refine aE_ Tryz.func144 ?_;refine l7 Tryz.func144 mixed 100 _ _ (by kernel_rfl) ?_;simp only [go_sem,seval,bne_self_eq_false];refine AW.loop_ind (fun i:Nat=>⟨[(5,.d (.int .i64 i)),(0,.d (.sl xs)),(1,.d (.sl xs)),(4,.d (.bool false))],[]⟩) (fun i=>i<=xs.length) (fun i=>xs.length - i) 0 (by omega) ?_ ?_
 ·refine aj3.of (by simp) rfl ?_
  simp [Abs.get,C.refsLtT,C.refsLt,C.refsLt1]
 ·intro i hi hnext
  by_cases h:i<xs.length
  ·obtain ⟨x,hxi⟩:∃x,xs[i]? = some x:=⟨_,a_ h⟩
   obtain ⟨e1,e2⟩:=hx x (i_ hxi);have hlt:((i:Int)<(xs.length:Int))=True:=by simp;omega
   have h00:(0<=(i:Int))=True:=by simp
   refine l7 Tryz.func144 mixed 100 _ _ (by kernel_rfl) ?_;simp only [go_sem,seval,f_,hlt,hxi,j5 hxi,e1,h00,bne_self_eq_false];refine e2.callQ rfl ?_;simp only [go_sem,seval];rw [j6 (by omega) (by omega)];refine hnext (i+1) _ (by omega) (by omega) ?_;refine aj3.of (by simp) rfl ?_;simp [Abs.get,C.refsLtT,C.refsLt,C.refsLt1]
  ·have hlt:((i:Int)<(xs.length:Int))=False:=by simp;omega
   refine l7 Tryz.func144 mixed 100 _ _ (by kernel_rfl) ?_;simp only [go_sem,seval,hlt]
theorem cl1 (a0:Int) (a1:List UInt8) (a2:List (List D)) (a3:List (List D)) (h2:Gives Tryz.prog 14 [.sl a2,.sl a2] (.d (.bool true))) (h3:Gives Tryz.prog 144 [.sl a3,.sl a3] (.d (.bool true))):Gives Tryz.prog 103 [.agg [.int .i64 a0,.str a1,.sl a2,.sl a3],.agg [.int .i64 a0,.str a1,.sl a2,.sl a3]] (.d (.bool true)):=by
 refine aE_ Tryz.func103 ?_;refine l7 Tryz.func103 mixed 100 _ _ (by kernel_rfl) ?_;simp only [go_sem,seval,bne_self_eq_false];refine h2.calls rfl ?_;simp only [go_sem,seval,bne_self_eq_false];refine h3.calls rfl ?_;simp only [go_sem,seval,bne_self_eq_false]
theorem cj8 (a0:Int) (a1:List UInt8) (a2:List (List D)) (a3:List (List D)) (q0:(Lit.int .i64 a0).wf=true) (q1:a1.length<=maxLen) (q2:a2.length<=maxLen/\∀x,x∈a2->Sh Tryz.prog 57 x) (q3:a3.length<=maxLen/\∀x,x∈a3->Sh Tryz.prog 88 x):Sh Tryz.prog 88 [.int .i64 a0,.str a1,.sl a2,.sl a3]:=by
 refine ⟨_,bW7,rfl,fun i l c hl hc=>?_⟩;match i with
 | 0=>simp at hl hc;subst hl hc;exact .int _ _ q0
 | 1=>simp at hl hc;subst hl hc;exact .str _ q1
 | 2=>simp at hl hc;subst hl hc;exact ShC.sl_of cj9 q2.1 q2.2
 | 3=>simp at hl hc;subst hl hc;exact ShC.sl_of bW7 q3.1 q3.2
 | i+4=>simp at hl
theorem bI3 {x:List D} (h:Sh Tryz.prog 88 x):x.length=4:=by
 obtain ⟨_,_,_,_,rfl,_⟩:=by2 h;rfl
theorem bP8:∀(m:Nat) (x:List D),wtL x<m->Sh Tryz.prog 88 x->∀n:Int,0<=n->n<=1048576->Gives Tryz.prog 66 [.agg x,.int .i64 n] (.d (.int .i64 (szr n (wtL x))))
 | 0,_,hm,_=>by omega
 | m+1,x,hm,h=>by
  obtain ⟨a0,a1,a2,a3,rfl,q0,q1,q2,q3⟩:=by2 h;have hw:wtL [.int .i64 a0,.str a1,.sl a2,.sl a3]=a1.length+wtR a2+wtR a3:=by simp only [wtL,D.wt]<;>omega
  exact fun n g0 g1=>cy8 a0 a1 a2 a3 q1 (fun n g0 g1=>bG0 a2 q2.1 q2.2 n g0 g1) (fun n g0 g1=>ci2 a3 q3.1 (fun x hx=>⟨bI3 (q3.2 x hx),bP8 m x (by have:=G7 a3 x hx;omega) (q3.2 x hx)⟩) n g0 g1) n g0 g1
theorem bP2:∀(m:Nat) (x:List D),wtL x<m->wtL x<=1048576->Sh Tryz.prog 88 x->Gives Tryz.prog 84 [.agg x] (.d (.agg x))
 | 0,_,hm,_,_=>by omega
 | m+1,x,hm,hb,h=>by
  obtain ⟨a0,a1,a2,a3,rfl,q0,q1,q2,q3⟩:=by2 h;have hw:wtL [.int .i64 a0,.str a1,.sl a2,.sl a3]=a1.length+wtR a2+wtR a3:=by simp only [wtL,D.wt]<;>omega
  exact cy0 a0 a1 a2 a3 (bF5 a2 (by omega) q2.2) (ch7 a3 (by have:=D9 a3 0;omega) (fun x hx=>⟨bI3 (q3.2 x hx),bP2 m x (by have:=G7 a3 x hx;omega) (by have:=G7 a3 x hx;omega) (q3.2 x hx)⟩))
theorem bS9:∀(m:Nat) (x:List D),wtL x<m->Sh Tryz.prog 88 x->Gives Tryz.prog 103 [.agg x,.agg x] (.d (.bool true))
 | 0,_,hm,_=>by omega
 | m+1,x,hm,h=>by
  obtain ⟨a0,a1,a2,a3,rfl,q0,q1,q2,q3⟩:=by2 h;have hw:wtL [.int .i64 a0,.str a1,.sl a2,.sl a3]=a1.length+wtR a2+wtR a3:=by simp only [wtL,D.wt]<;>omega
  exact cl1 a0 a1 a2 a3 (bK2 a2 q2.1 q2.2) (cl0 a3 q3.1 (fun x hx=>⟨bI3 (q3.2 x hx),bS9 m x (by have:=G7 a3 x hx;omega) (q3.2 x hx)⟩))
theorem ci7 (x:List D) (h:Sh Tryz.prog 88 x):∃t,x=Gl.enc t:=Gl.of_sh bW7 bv8 x h
theorem cU9 (xs:List (List D)) (hm:xs.length<=maxLen) (hx:∀x,x∈xs->x.length=4/\Gives Tryz.prog 12 [.agg x,.agg x] (.d (.bool true))):Gives Tryz.prog 34 [.sl xs,.sl xs] (.d (.bool true)):=by
 have hm':(xs.length:Int)<=9223372036854775807:=by simp only [maxLen] at hm;omega
 refine aE_ Tryz.func34 ?_;refine l7 Tryz.func34 mixed 100 _ _ (by kernel_rfl) ?_;simp only [go_sem,seval,bne_self_eq_false];refine AW.loop_ind (fun i:Nat=>⟨[(5,.d (.int .i64 i)),(0,.d (.sl xs)),(1,.d (.sl xs)),(4,.d (.bool false))],[]⟩) (fun i=>i<=xs.length) (fun i=>xs.length - i) 0 (by omega) ?_ ?_
 ·refine aj3.of (by simp) rfl ?_
  simp [Abs.get,C.refsLtT,C.refsLt,C.refsLt1]
 ·intro i hi hnext
  by_cases h:i<xs.length
  ·obtain ⟨x,hxi⟩:∃x,xs[i]? = some x:=⟨_,a_ h⟩
   obtain ⟨e1,e2⟩:=hx x (i_ hxi);have hlt:((i:Int)<(xs.length:Int))=True:=by simp;omega
   have h00:(0<=(i:Int))=True:=by simp
   refine l7 Tryz.func34 mixed 100 _ _ (by kernel_rfl) ?_;simp only [go_sem,seval,f_,hlt,hxi,j5 hxi,e1,h00,bne_self_eq_false];refine e2.callQ rfl ?_;simp only [go_sem,seval];rw [j6 (by omega) (by omega)];refine hnext (i+1) _ (by omega) (by omega) ?_;refine aj3.of (by simp) rfl ?_;simp [Abs.get,C.refsLtT,C.refsLt,C.refsLt1]
  ·have hlt:((i:Int)<(xs.length:Int))=False:=by simp;omega
   refine l7 Tryz.func34 mixed 100 _ _ (by kernel_rfl) ?_;simp only [go_sem,seval,hlt]
theorem cV2 (a0:List UInt8) (a1:Int) (a2:List (List D)) (a3:List (List D)) (h2:Gives Tryz.prog 14 [.sl a2,.sl a2] (.d (.bool true))) (h3:Gives Tryz.prog 34 [.sl a3,.sl a3] (.d (.bool true))):Gives Tryz.prog 12 [.agg [.str a0,.int .i64 a1,.sl a2,.sl a3],.agg [.str a0,.int .i64 a1,.sl a2,.sl a3]] (.d (.bool true)):=by
 refine aE_ Tryz.func12 ?_;refine l7 Tryz.func12 mixed 100 _ _ (by kernel_rfl) ?_;simp only [go_sem,seval,bne_self_eq_false];refine h2.calls rfl ?_;simp only [go_sem,seval,bne_self_eq_false];refine h3.calls rfl ?_;simp only [go_sem,seval,bne_self_eq_false]
theorem cv2:leaves Tryz.prog 6 90=some [.str,.int .i64,.int .i64,.int .i64,.str,.sl 57,.sl 88]:=by kernel_rfl
theorem by1 {x:List D} (h:Sh Tryz.prog 90 x):∃a0 a1 a2 a3 a4 a5 a6,x=[.str a0,.int .i64 a1,.int .i64 a2,.int .i64 a3,.str a4,.sl a5,.sl a6]/\a0.length<=maxLen/\(Lit.int .i64 a1).wf=true/\(Lit.int .i64 a2).wf=true/\(Lit.int .i64 a3).wf=true/\a4.length<=maxLen/\(a5.length<=maxLen/\∀x,x∈a5->Sh Tryz.prog 57 x)/\(a6.length<=maxLen/\∀x,x∈a6->Sh Tryz.prog 88 x):=by
 obtain ⟨ls,h1,h2,h3⟩:=h;rw [cv2] at h1;cases h1;match x,h2,h3 with
 | [c0,c1,c2,c3,c4,c5,c6],_,h3 =>
  have g0:=h3 0 _ _ rfl rfl;have g1:=h3 1 _ _ rfl rfl;have g2:=h3 2 _ _ rfl rfl;have g3:=h3 3 _ _ rfl rfl;have g4:=h3 4 _ _ rfl rfl;have g5:=h3 5 _ _ rfl rfl;have g6:=h3 6 _ _ rfl rfl;obtain ⟨b0,rfl,q0⟩:=g0.str_inv;obtain ⟨b1,rfl,q1⟩:=g1.int_inv;obtain ⟨b2,rfl,q2⟩:=g2.int_inv;obtain ⟨b3,rfl,q3⟩:=g3.int_inv;obtain ⟨b4,rfl,q4⟩:=g4.str_inv;obtain ⟨b5,rfl,q5⟩:=g5.elems;obtain ⟨b6,rfl,q6⟩:=g6.elems;exact ⟨_,_,_,_,_,_,_,rfl,q0,q1,q2,q3,q4,q5,q6⟩
theorem cz1 (xs:List (List D)) (hm:xs.length<=maxLen) (hx:∀x,x∈xs->x.length=7/\∀n:Int,0<=n->n<=1048576->Gives Tryz.prog 42 [.agg x,.int .i64 n] (.d (.int .i64 (szr n (wtL x)))))
  (n:Int) (h0:0<=n) (h1:n<=1048576):Gives Tryz.prog 21 [.sl xs,.int .i64 n] (.d (.int .i64 (szr n (wtR xs)))):=by
 have hm':(xs.length:Int)<=9223372036854775807:=by simp only [maxLen] at hm;omega
 have hs:=ao7 xs;have hs0:=D9 xs 0;simp only [Y7] at hs0;refine aE_ Tryz.func21 ?_;refine l7 Tryz.func21 mixed 100 _ _ (by kernel_rfl) ?_;simp only [go_sem,seval];rw [j6 (by omega) (by omega)];refine y7 (fun h=>?_) (fun h=>?_)
 ·simp only [decide_eq_true_eq] at h
  simp only [go_sem,seval];rw [I6 (by omega)]
 simp only [decide_eq_false_iff_not,M_] at h;simp only [go_sem,seval];refine AW.loop_ind (fun i:Nat=>⟨[(5,.d (.int .i64 i)),(0,.d (.sl xs)),(1,.d (.int .i64 (n - xs.length - Y7 xs i))),(4,.d (.int .i64 0))],[]⟩) (fun i=>i<=xs.length/\(Y7 xs i:Int)<=n - xs.length) (fun i=>xs.length - i) 0 ⟨by omega,by simp only [Y7];omega⟩ ?_ ?_
 ·refine aj3.of (by simp) rfl ?_
  simp [Abs.get,Y7,C.refsLtT,C.refsLt,C.refsLt1]
 ·intro i hi hnext
  obtain ⟨hi1,hi2⟩:=hi;refine l7 Tryz.func21 mixed 100 _ _ (by kernel_rfl) ?_;simp only [go_sem,seval];refine y7 (fun h=>?_) (fun h=>?_)
  ·simp only [decide_eq_true_eq] at h
   have hi:i<xs.length:=by omega
   obtain ⟨x,hxi⟩:∃x,xs[i]? = some x:=⟨_,a_ hi⟩;have hsum:=aO6 hxi;have hle:=D9 xs (i+1);obtain ⟨e1,e2⟩:=hx x (i_ hxi);simp only [go_sem,seval,f_,hxi,j5 hxi,e1];repeat refine And.intro (by omega) ?_
   refine (e2 _ (by omega) (by omega)).calls rfl ?_;simp only [go_sem,seval];refine y7 (fun h=>?_) (fun h=>?_)
   ·simp only [decide_eq_true_eq] at h
    have hg:=ag7 h;simp only [go_sem,seval];rw [I6 (by omega)]
   ·simp only [decide_eq_false_iff_not] at h
    have hg:=aa3 h;rw [F4 hg];simp only [go_sem,seval];rw [j6 (by omega) (by omega)];refine hnext (i+1) _ ⟨by omega,by omega⟩ (by omega) ?_;refine aj3.of (by simp) rfl ?_;simp [Abs.get,C.refsLtT,C.refsLt,C.refsLt1];omega
  ·simp only [decide_eq_false_iff_not] at h
   have:i=xs.length:=by omega
   subst this;simp only [go_sem,seval];rw [F4 (by omega)];all_goals (congr 2<;>omega)
theorem cy9 (a0:List UInt8) (a1:Int) (a2:Int) (a3:Int) (a4:List UInt8) (a5:List (List D)) (a6:List (List D)) (h0:a0.length<=maxLen) (h3:∀n:Int,0<=n->n<=1048576->Gives Tryz.prog 66 [.agg [.int .i64 a3,.str a4,.sl a5,.sl a6],.int .i64 n] (.d (.int .i64 (szr n (wtL [.int .i64 a3,.str a4,.sl a5,.sl a6])))))
  (n:Int) (g0:0<=n) (g1:n<=1048576):Gives Tryz.prog 42 [.agg [.str a0,.int .i64 a1,.int .i64 a2,.int .i64 a3,.str a4,.sl a5,.sl a6],.int .i64 n] (.d (.int .i64 (szr n (wtL [.str a0,.int .i64 a1,.int .i64 a2,.int .i64 a3,.str a4,.sl a5,.sl a6])))):=by
 have hw:wtL [.str a0,.int .i64 a1,.int .i64 a2,.int .i64 a3,.str a4,.sl a5,.sl a6]=a0.length+wtL [.int .i64 a3,.str a4,.sl a5,.sl a6]:=by simp only [wtL,D.wt]<;>omega
 simp only [maxLen] at h0;rw [hw];refine aE_ Tryz.func42 ?_;refine l7 Tryz.func42 mixed 100 _ _ (by kernel_rfl) ?_;simp only [go_sem,seval];rw [j6 (by omega) (by omega)];refine y7 (fun h=>?_) (fun h=>?_)
 ·simp only [decide_eq_true_eq] at h
  simp only [go_sem,seval];rw [I6 (by omega)]
 simp only [decide_eq_false_iff_not,M_] at h;simp only [go_sem,seval];refine (h3 _ (by omega) (by omega)).calls rfl ?_;simp only [go_sem,seval];refine y7 (fun h=>?_) (fun h=>?_)
 ·simp only [decide_eq_true_eq] at h
  have hg:=ag7 h;simp only [go_sem,seval];rw [I6 (by omega)]
 simp only [decide_eq_false_iff_not] at h;have hg:=aa3 h;rw [F4 hg];clear h;simp only [go_sem,seval];all_goals rw [F4 (by omega)]
 all_goals (congr 2<;>omega)
theorem cy3 (xs:List (List D)) (hl:xs.length<=1048576) (hx:∀x,x∈xs->x.length=7/\Gives Tryz.prog 53 [.agg x] (.d (.agg x))):Gives Tryz.prog 26 [.sl xs] (.d (.sl xs)):=by
 refine aE_ Tryz.func26 ?_;refine l7 Tryz.func26 mixed 100 _ _ (by kernel_rfl) ?_;simp only [go_sem,seval,f_];repeat refine And.intro (by first | omega | (simp only [maxLen];omega)) ?_
 refine AW.loop_ind (fun i:Nat=>⟨[(4,.d (.int .i64 i)),(0,.d (.sl xs)),(3,.rsl 0 xs.length),(2,.nil0)],[.row 7 97 (xs.take i++List.replicate (xs.length - i) [.str [],.int .i64 0,.int .i64 0,.int .i64 0,.str [],.sl [],.sl []])]⟩) (fun i=>i<=xs.length) (fun i=>xs.length - i) 0 (by omega) ?_ ?_
 ·refine aj3.of (by simp) rfl ?_
  simp [Abs.get,C.refsLtT,C.refsLt,C.refsLt1]
 ·intro i hi hnext
  by_cases h:i<xs.length
  ·obtain ⟨x,hxi⟩:∃x,xs[i]? = some x:=⟨_,a_ h⟩
   obtain ⟨e1,e2⟩:=hx x (i_ hxi);have hlt:((i:Int)<(xs.length:Int))=True:=by simp;omega
   refine l7 Tryz.func26 mixed 100 _ _ (by kernel_rfl) ?_;simp only [go_sem,seval,f_,hlt,hxi,j5 hxi,e1];repeat refine And.intro (by omega) ?_
   refine e2.calls rfl ?_;simp only [go_sem,seval,f_,hlt,hxi,j5 hxi,e1];repeat refine And.intro (by first | omega | (simp;omega) | (simp_all;done)) ?_
   rw [j6 (by omega) (by omega)];first | rw [row_step (k:=7) hxi (by rfl)] | rw [as1 hxi (by rfl)]
   refine hnext (i+1) _ (by omega) (by omega) ?_;refine aj3.of (by simp) rfl ?_;simp [Abs.get,C.refsLtT,C.refsLt,C.refsLt1]
  ·have hlt:((i:Int)<(xs.length:Int))=False:=by simp;omega
   refine l7 Tryz.func26 mixed 6 _ _ (by kernel_rfl) ?_;simp only [go_sem,seval,f_,hlt];obtain rfl:i=xs.length:=by omega
   rw [aj9];refine AW.freeze 3 0 rfl rfl rfl ?_;refine l7 Tryz.func26 mixed 100 _ _ (by kernel_rfl) ?_;simp only [go_sem,seval]
theorem cy1 (a0:List UInt8) (a1:Int) (a2:Int) (a3:Int) (a4:List UInt8) (a5:List (List D)) (a6:List (List D)) (h3:Gives Tryz.prog 84 [.agg [.int .i64 a3,.str a4,.sl a5,.sl a6]] (.d (.agg [.int .i64 a3,.str a4,.sl a5,.sl a6]))):Gives Tryz.prog 53 [.agg [.str a0,.int .i64 a1,.int .i64 a2,.int .i64 a3,.str a4,.sl a5,.sl a6]] (.d (.agg [.str a0,.int .i64 a1,.int .i64 a2,.int .i64 a3,.str a4,.sl a5,.sl a6])):=by
 refine aE_ Tryz.func53 ?_;refine l7 Tryz.func53 mixed 100 _ _ (by kernel_rfl) ?_;simp only [go_sem,seval];refine h3.calls rfl ?_;simp only [go_sem,seval]
theorem cU8 (xs:List (List D)) (hm:xs.length<=maxLen) (hx:∀x,x∈xs->x.length=7/\Gives Tryz.prog 64 [.agg x,.agg x] (.d (.bool true))):Gives Tryz.prog 35 [.sl xs,.sl xs] (.d (.bool true)):=by
 have hm':(xs.length:Int)<=9223372036854775807:=by simp only [maxLen] at hm;omega
 refine aE_ Tryz.func35 ?_;refine l7 Tryz.func35 mixed 100 _ _ (by kernel_rfl) ?_;simp only [go_sem,seval,bne_self_eq_false];refine AW.loop_ind (fun i:Nat=>⟨[(5,.d (.int .i64 i)),(0,.d (.sl xs)),(1,.d (.sl xs)),(4,.d (.bool false))],[]⟩) (fun i=>i<=xs.length) (fun i=>xs.length - i) 0 (by omega) ?_ ?_
 ·refine aj3.of (by simp) rfl ?_
  simp [Abs.get,C.refsLtT,C.refsLt,C.refsLt1]
 ·intro i hi hnext
  by_cases h:i<xs.length
  ·obtain ⟨x,hxi⟩:∃x,xs[i]? = some x:=⟨_,a_ h⟩
   obtain ⟨e1,e2⟩:=hx x (i_ hxi);have hlt:((i:Int)<(xs.length:Int))=True:=by simp;omega
   have h00:(0<=(i:Int))=True:=by simp
   refine l7 Tryz.func35 mixed 100 _ _ (by kernel_rfl) ?_;simp only [go_sem,seval,f_,hlt,hxi,j5 hxi,e1,h00,bne_self_eq_false];refine e2.callQ rfl ?_;simp only [go_sem,seval];rw [j6 (by omega) (by omega)];refine hnext (i+1) _ (by omega) (by omega) ?_;refine aj3.of (by simp) rfl ?_;simp [Abs.get,C.refsLtT,C.refsLt,C.refsLt1]
  ·have hlt:((i:Int)<(xs.length:Int))=False:=by simp;omega
   refine l7 Tryz.func35 mixed 100 _ _ (by kernel_rfl) ?_;simp only [go_sem,seval,hlt]
theorem cU7 (a0:List UInt8) (a1:Int) (a2:Int) (a3:Int) (a4:List UInt8) (a5:List (List D)) (a6:List (List D)) (h3:Gives Tryz.prog 103 [.agg [.int .i64 a3,.str a4,.sl a5,.sl a6],.agg [.int .i64 a3,.str a4,.sl a5,.sl a6]] (.d (.bool true))):Gives Tryz.prog 64 [.agg [.str a0,.int .i64 a1,.int .i64 a2,.int .i64 a3,.str a4,.sl a5,.sl a6],.agg [.str a0,.int .i64 a1,.int .i64 a2,.int .i64 a3,.str a4,.sl a5,.sl a6]] (.d (.bool true)):=by
 refine aE_ Tryz.func64 ?_;refine l7 Tryz.func64 mixed 100 _ _ (by kernel_rfl) ?_;simp only [go_sem,seval,bne_self_eq_false];refine h3.calls rfl ?_;simp only [go_sem,seval,bne_self_eq_false]
theorem bI2 {x:List D} (h:Sh Tryz.prog 90 x):x.length=7:=by
 obtain ⟨_,_,_,_,_,_,_,rfl,_⟩:=by1 h;rfl
theorem ch9:∀(m:Nat) (x:List D),wtL x<m->Sh Tryz.prog 90 x->∀n:Int,0<=n->n<=1048576->Gives Tryz.prog 42 [.agg x,.int .i64 n] (.d (.int .i64 (szr n (wtL x))))
 | 0,_,hm,_=>by omega
 | m+1,x,hm,h=>by
  obtain ⟨a0,a1,a2,a3,a4,a5,a6,rfl,q0,q1,q2,q3,q4,q5,q6⟩:=by1 h;have hw:wtL [.str a0,.int .i64 a1,.int .i64 a2,.int .i64 a3,.str a4,.sl a5,.sl a6]=a0.length+wtL [.int .i64 a3,.str a4,.sl a5,.sl a6]:=by simp only [wtL,D.wt]<;>omega
  exact fun n g0 g1=>cy9 a0 a1 a2 a3 a4 a5 a6 q0 (fun n g0 g1=>bP8 _ [.int .i64 a3,.str a4,.sl a5,.sl a6] (w_ _) (cj8 a3 a4 a5 a6 q3 q4 q5 q6) n g0 g1) n g0 g1
theorem ch3:∀(m:Nat) (x:List D),wtL x<m->wtL x<=1048576->Sh Tryz.prog 90 x->Gives Tryz.prog 53 [.agg x] (.d (.agg x))
 | 0,_,hm,_,_=>by omega
 | m+1,x,hm,hb,h=>by
  obtain ⟨a0,a1,a2,a3,a4,a5,a6,rfl,q0,q1,q2,q3,q4,q5,q6⟩:=by1 h;have hw:wtL [.str a0,.int .i64 a1,.int .i64 a2,.int .i64 a3,.str a4,.sl a5,.sl a6]=a0.length+wtL [.int .i64 a3,.str a4,.sl a5,.sl a6]:=by simp only [wtL,D.wt]<;>omega
  exact cy1 a0 a1 a2 a3 a4 a5 a6 (bP2 _ [.int .i64 a3,.str a4,.sl a5,.sl a6] (w_ _) (by omega) (cj8 a3 a4 a5 a6 q3 q4 q5 q6))
theorem ck7:∀(m:Nat) (x:List D),wtL x<m->Sh Tryz.prog 90 x->Gives Tryz.prog 64 [.agg x,.agg x] (.d (.bool true))
 | 0,_,hm,_=>by omega
 | m+1,x,hm,h=>by
  obtain ⟨a0,a1,a2,a3,a4,a5,a6,rfl,q0,q1,q2,q3,q4,q5,q6⟩:=by1 h;have hw:wtL [.str a0,.int .i64 a1,.int .i64 a2,.int .i64 a3,.str a4,.sl a5,.sl a6]=a0.length+wtL [.int .i64 a3,.str a4,.sl a5,.sl a6]:=by simp only [wtL,D.wt]<;>omega
  exact cU7 a0 a1 a2 a3 a4 a5 a6 (bS9 _ [.int .i64 a3,.str a4,.sl a5,.sl a6] (w_ _) (cj8 a3 a4 a5 a6 q3 q4 q5 q6))
theorem ci5 (x:List D) (h:Sh Tryz.prog 90 x):∃t,x=Rl.enc t:=Rl.of_sh cv2 bv8 ci7 x h
theorem ch8 (xs:List (List D)) (hm:xs.length<=maxLen) (h:∀x,x∈xs->Sh Tryz.prog 90 x) (n:Int) (g0:0<=n) (g1:n<=1048576):Gives Tryz.prog 21 [.sl xs,.int .i64 n] (.d (.int .i64 (szr n (wtR xs)))):=
 cz1 xs hm (fun x hx=>⟨bI2 (h x hx),ch9 _ x (w_ _) (h x hx)⟩) n g0 g1
theorem ch1 (xs:List (List D)) (hb:wtR xs<=1048576) (h:∀x,x∈xs->Sh Tryz.prog 90 x):Gives Tryz.prog 26 [.sl xs] (.d (.sl xs)):=
 cy3 xs (by have:=D9 xs 0;omega) (fun x hx=>⟨bI2 (h x hx),ch3 _ x (w_ _) (by have:=G7 xs x hx;omega) (h x hx)⟩)
theorem ck6 (xs:List (List D)) (hm:xs.length<=maxLen) (h:∀x,x∈xs->Sh Tryz.prog 90 x):Gives Tryz.prog 35 [.sl xs,.sl xs] (.d (.bool true)):=
 cU8 xs hm (fun x hx=>⟨bI2 (h x hx),ck7 _ x (w_ _) (h x hx)⟩)
theorem cv4:leaves Tryz.prog 6 24=some [.sl 90]:=by kernel_rfl
theorem bI8 {x:List D} (h:Sh Tryz.prog 24 x):∃a0,x=[.sl a0]/\(a0.length<=maxLen/\∀x,x∈a0->Sh Tryz.prog 90 x):=by
 obtain ⟨ls,h1,h2,h3⟩:=h;rw [cv4] at h1;cases h1;match x,h2,h3 with
 | [c0],_,h3 =>
  have g0:=h3 0 _ _ rfl rfl;obtain ⟨b0,rfl,q0⟩:=g0.elems;exact ⟨_,rfl,q0⟩
theorem sz4 (a0:List (List D)) (h0:∀n:Int,0<=n->n<=1048576->Gives Tryz.prog 21 [.sl a0,.int .i64 n] (.d (.int .i64 (szr n (wtR a0)))))
  (n:Int) (g0:0<=n) (g1:n<=1048576):Gives Tryz.prog 4 [.agg [.sl a0],.int .i64 n] (.d (.int .i64 (szr n (wtL [.sl a0])))):=by
 have hw:wtL [.sl a0]=wtR a0:=by simp only [wtL,D.wt]<;>omega
 rw [hw];refine aE_ Tryz.func4 ?_;refine l7 Tryz.func4 mixed 100 _ _ (by kernel_rfl) ?_;simp only [go_sem,seval];refine (h0 _ (by omega) (by omega)).calls rfl ?_;simp only [go_sem,seval];refine y7 (fun h=>?_) (fun h=>?_)
 ·simp only [decide_eq_true_eq] at h
  have hg:=ag7 h;simp only [go_sem,seval];rw [I6 (by omega)]
 simp only [decide_eq_false_iff_not] at h;have hg:=aa3 h;rw [F4 hg];clear h;simp only [go_sem,seval];all_goals rw [F4 (by omega)]
 all_goals (congr 2<;>omega)
theorem to8 (a0:List (List D)) (h0:Gives Tryz.prog 26 [.sl a0] (.d (.sl a0))):Gives Tryz.prog 8 [.agg [.sl a0]] (.d (.agg [.sl a0])):=by
 refine aE_ Tryz.func8 ?_;refine l7 Tryz.func8 mixed 100 _ _ (by kernel_rfl) ?_;simp only [go_sem,seval];refine h0.calls rfl ?_;simp only [go_sem,seval]
theorem cV1 (a0:List (List D)) (h0:Gives Tryz.prog 35 [.sl a0,.sl a0] (.d (.bool true))):Gives Tryz.prog 13 [.agg [.sl a0],.agg [.sl a0]] (.d (.bool true)):=by
 refine aE_ Tryz.func13 ?_;refine l7 Tryz.func13 mixed 100 _ _ (by kernel_rfl) ?_;simp only [go_sem,seval,bne_self_eq_false];refine h0.calls rfl ?_;simp only [go_sem,seval,bne_self_eq_false]
theorem ci1:∀(m:Nat) (x:List D),wtL x<m->Sh Tryz.prog 24 x->∀n:Int,0<=n->n<=1048576->Gives Tryz.prog 4 [.agg x,.int .i64 n] (.d (.int .i64 (szr n (wtL x))))
 | 0,_,hm,_=>by omega
 | m+1,x,hm,h=>by
  obtain ⟨a0,rfl,q0⟩:=bI8 h;have hw:wtL [.sl a0]=wtR a0:=by simp only [wtL,D.wt]<;>omega
  exact fun n g0 g1=>sz4 a0 (fun n g0 g1=>ch8 a0 q0.1 q0.2 n g0 g1) n g0 g1
theorem ch5:∀(m:Nat) (x:List D),wtL x<m->wtL x<=1048576->Sh Tryz.prog 24 x->Gives Tryz.prog 8 [.agg x] (.d (.agg x))
 | 0,_,hm,_,_=>by omega
 | m+1,x,hm,hb,h=>by
  obtain ⟨a0,rfl,q0⟩:=bI8 h;have hw:wtL [.sl a0]=wtR a0:=by simp only [wtL,D.wt]<;>omega
  exact to8 a0 (ch1 a0 (by omega) q0.2)
theorem ck9:∀(m:Nat) (x:List D),wtL x<m->Sh Tryz.prog 24 x->Gives Tryz.prog 13 [.agg x,.agg x] (.d (.bool true))
 | 0,_,hm,_=>by omega
 | m+1,x,hm,h=>by
  obtain ⟨a0,rfl,q0⟩:=bI8 h;have hw:wtL [.sl a0]=wtR a0:=by simp only [wtL,D.wt]<;>omega
  exact cV1 a0 (ck6 a0 q0.1 q0.2)
theorem ci6 (x:List D) (h:Sh Tryz.prog 24 x):∃t,x=Pg.enc t:=Pg.of_sh cv4 ci5 x h
theorem cv3:leaves Tryz.prog 6 27=some [.str,.sl 57]:=by kernel_rfl
theorem bI7 {x:List D} (h:Sh Tryz.prog 27 x):∃a0 a1,x=[.str a0,.sl a1]/\a0.length<=maxLen/\(a1.length<=maxLen/\∀x,x∈a1->Sh Tryz.prog 57 x):=by
 obtain ⟨ls,h1,h2,h3⟩:=h;rw [cv3] at h1;cases h1;match x,h2,h3 with
 | [c0,c1],_,h3 =>
  have g0:=h3 0 _ _ rfl rfl;have g1:=h3 1 _ _ rfl rfl;obtain ⟨b0,rfl,q0⟩:=g0.str_inv;obtain ⟨b1,rfl,q1⟩:=g1.elems;exact ⟨_,_,rfl,q0,q1⟩
theorem sz6 (a0:List UInt8) (a1:List (List D)) (h0:a0.length<=maxLen) (h1:∀n:Int,0<=n->n<=1048576->Gives Tryz.prog 5 [.sl a1,.int .i64 n] (.d (.int .i64 (szr n (wtR a1)))))
  (n:Int) (g0:0<=n) (g1:n<=1048576):Gives Tryz.prog 6 [.agg [.str a0,.sl a1],.int .i64 n] (.d (.int .i64 (szr n (wtL [.str a0,.sl a1])))):=by
 have hw:wtL [.str a0,.sl a1]=a0.length+wtR a1:=by simp only [wtL,D.wt]<;>omega
 simp only [maxLen] at h0;rw [hw];refine aE_ Tryz.func6 ?_;refine l7 Tryz.func6 mixed 100 _ _ (by kernel_rfl) ?_;simp only [go_sem,seval];rw [j6 (by omega) (by omega)];refine y7 (fun h=>?_) (fun h=>?_)
 ·simp only [decide_eq_true_eq] at h
  simp only [go_sem,seval];rw [I6 (by omega)]
 simp only [decide_eq_false_iff_not,M_] at h;simp only [go_sem,seval];refine (h1 _ (by omega) (by omega)).calls rfl ?_;simp only [go_sem,seval];refine y7 (fun h=>?_) (fun h=>?_)
 ·simp only [decide_eq_true_eq] at h
  have hg:=ag7 h;simp only [go_sem,seval];rw [I6 (by omega)]
 simp only [decide_eq_false_iff_not] at h;have hg:=aa3 h;rw [F4 hg];clear h;simp only [go_sem,seval];all_goals rw [F4 (by omega)]
 all_goals (congr 2<;>omega)
theorem cy4 (a0:List UInt8) (a1:List (List D)) (h1:Gives Tryz.prog 9 [.sl a1] (.d (.sl a1))):Gives Tryz.prog 10 [.agg [.str a0,.sl a1]] (.d (.agg [.str a0,.sl a1])):=by
 refine aE_ Tryz.func10 ?_;refine l7 Tryz.func10 mixed 100 _ _ (by kernel_rfl) ?_;simp only [go_sem,seval];refine h1.calls rfl ?_;simp only [go_sem,seval]
theorem cV0 (a0:List UInt8) (a1:List (List D)) (h1:Gives Tryz.prog 14 [.sl a1,.sl a1] (.d (.bool true))):Gives Tryz.prog 15 [.agg [.str a0,.sl a1],.agg [.str a0,.sl a1]] (.d (.bool true)):=by
 refine aE_ Tryz.func15 ?_;refine l7 Tryz.func15 mixed 100 _ _ (by kernel_rfl) ?_;simp only [go_sem,seval,bne_self_eq_false];refine h1.calls rfl ?_;simp only [go_sem,seval,bne_self_eq_false]
theorem ci0:∀(m:Nat) (x:List D),wtL x<m->Sh Tryz.prog 27 x->∀n:Int,0<=n->n<=1048576->Gives Tryz.prog 6 [.agg x,.int .i64 n] (.d (.int .i64 (szr n (wtL x))))
 | 0,_,hm,_=>by omega
 | m+1,x,hm,h=>by
  obtain ⟨a0,a1,rfl,q0,q1⟩:=bI7 h;have hw:wtL [.str a0,.sl a1]=a0.length+wtR a1:=by simp only [wtL,D.wt]<;>omega
  exact fun n g0 g1=>sz6 a0 a1 q0 (fun n g0 g1=>bG0 a1 q1.1 q1.2 n g0 g1) n g0 g1
theorem ch4:∀(m:Nat) (x:List D),wtL x<m->wtL x<=1048576->Sh Tryz.prog 27 x->Gives Tryz.prog 10 [.agg x] (.d (.agg x))
 | 0,_,hm,_,_=>by omega
 | m+1,x,hm,hb,h=>by
  obtain ⟨a0,a1,rfl,q0,q1⟩:=bI7 h;have hw:wtL [.str a0,.sl a1]=a0.length+wtR a1:=by simp only [wtL,D.wt]<;>omega
  exact cy4 a0 a1 (bF5 a1 (by omega) q1.2)
theorem ck8:∀(m:Nat) (x:List D),wtL x<m->Sh Tryz.prog 27 x->Gives Tryz.prog 15 [.agg x,.agg x] (.d (.bool true))
 | 0,_,hm,_=>by omega
 | m+1,x,hm,h=>by
  obtain ⟨a0,a1,rfl,q0,q1⟩:=bI7 h;have hw:wtL [.str a0,.sl a1]=a0.length+wtR a1:=by simp only [wtL,D.wt]<;>omega
  exact cV0 a0 a1 (bK2 a1 q1.1 q1.2)
theorem ci8 (x:List D) (h:Sh Tryz.prog 27 x):∃t,x=Fc.enc t:=Fc.of_sh cv3 bv8 x h
def ch6 (t:Tm):Prop:=ACalls Tryz.prog 27 [.d (.agg t.enc)] [.hole] fun c H'=>c=.agg [.d (.int .i64 t.kind),.d (.int .i64 t.int),.d (.str t.name),.own 0 1]/\∃e B,H'=[.tree 1 4 e (t.args.map Tm.enc) B none]
theorem ag6 (l:List Tm) (hw:wtR (l.map Tm.enc)<=1048576) (hl:∀x,x∈l->ch6 x):ACalls Tryz.prog 9 [.d (.sl (l.map Tm.enc))] [.hole] (fun c H'=>c=.own 0 1/\∃e B,H'=[.tree 1 4 e (l.map Tm.enc) B none]):=by
 have hlen:l.length<=1048576:=by
  have:=D9 (l.map Tm.enc) 0;simp [Y7] at this;omega
 have hmx:maxLen=9223372036854775807:=rfl;refine aE_ Tryz.func9 ?_;refine rS_ Tryz.func9 ?_;simp only [go_sem,seval]
 repeat' (first
  | ((refine ⟨sd,?_⟩)<;>(try simp only [go_sem,seval]))
  | fail)
 refine AW.rowT 3 1 rfl rfl (by simp) (by decide) (fun x hx d hd=>by have e:=ad_ hx;subst e;simp at hd;rcases hd with rfl | rfl | rfl | rfl<;>rfl) ?_;refine AW.lp [0,3] (fun p:Nat×(Nat->Prop)=>[(4,.d (.int .i64 p.1))]) (fun _ p=>[.hole,.dead,.tree 0 4 66 ((l.map Tm.enc).take p.1++List.replicate ((l.map Tm.enc).length - p.1) [.int .i64 0,.int .i64 0,.str [],.sl []]) p.2 none]) (fun p=>p.1<=l.length) (fun p=>l.length - p.1) (0,fun _=>False) (H_ _) bE4 ?_;rintro ⟨i,B⟩ hi hnext;dsimp only at hi hnext |-;have hL:(l.map Tm.enc).length=l.length:=by simp
 by_cases h:i<l.length
 ·obtain ⟨x,hxi⟩:∃x,l[i]? = some x:=⟨_,a_ h⟩
  have hlt:(i:Int)<(l.length:Int):=by omega
  have hx:=hl x (i_ hxi);have hxe:(l.map Tm.enc)[i]? = some x.enc:=by simp [hxi]
  have hrl:((l.map Tm.enc).take i++List.replicate ((l.map Tm.enc).length - i) [D.int .i64 0,.int .i64 0,.str [],.sl []]).length=l.length:=by simp;omega
  have hrs:=row_step (z:=[D.int .i64 0,.int .i64 0,.str [],.sl []]) (k:=4) hxe rfl;generalize hr0:(l.map Tm.enc).take i++List.replicate ((l.map Tm.enc).length - i) [D.int .i64 0,.int .i64 0,.str [],.sl []]=r0 at hrl hrs |-;refine AW.hole ?_;refine rS_ Tryz.func9 ?_;simp only [go_sem,seval,hlt,j5 hxi,hrl]
  repeat' (first
   | (simp (disch:=omega) only [j6])
   | ((first
    | (refine ACalls.fresh (ds:=[.agg x.enc]) (m:=1) hx [3] rfl rfl (by simp) (by simp) ?_<;>(rintro c H' ⟨rfl,e1,B1,rfl⟩ _;refine ⟨rfl,rfl,?_⟩))
    | (refine ⟨sd,?_⟩))<;>(try simp only [go_sem,seval,hrl,hlt]))
   | fail)
  intro B';rw [Tm.enc_eq x] at hrs;simp only [j_,C_] at hrs;rw [hrs];exact hnext (i+1,B') _ h (by omega) bE4
 ·obtain rfl:i=l.length:=by omega
  have hfull:(l.map Tm.enc).take l.length++List.replicate ((l.map Tm.enc).length - l.length) [D.int .i64 0,.int .i64 0,.str [],.sl []]=l.map Tm.enc:=by rw [<-hL];exact aj9 _ _
  rw [hfull];refine AW.place 3 2 0 rfl rfl rfl (by decide) ?_;refine rS_ Tryz.func9 ?_;simp only [go_sem,seval];simp [O.refsLt]
theorem aC8:∀t:Tm,wtL t.enc<=1048576->ch6 t:=by
 intro t;induction t using Tm.ind' with
 | h t ih =>
  intro hw;unfold ch6;have hwr:wtR (t.args.map Tm.enc)<=1048576:=by
   simp only [Tm.enc_eq t,wtL,D.wt] at hw;omega
  have ht:=ag6 t.args hwr (fun x hx=>ih x hx (by have:=aa6 hx;omega));refine aE_ Tryz.func27 ?_;refine rS_ Tryz.func27 ?_;simp only [go_sem,seval]
  repeat' (first
   | ((first
    | (refine ACalls.fresh (ds:=[.sl (t.args.map Tm.enc)]) (m:=1) ht [0] rfl rfl (by simp) (by simp) ?_<;>(rintro c H' ⟨rfl,e1,B1,rfl⟩ _;refine ⟨rfl,rfl,?_⟩))
    | (refine ⟨by assumption,?_⟩))<;>(try simp only [go_sem,seval]))
   | fail)
def bW3 (t:Gl):Prop:=ACalls Tryz.prog 84 [.d (.agg t.enc)] [.hole,.hole] fun c H'=>c=.agg [.d (.int .i64 t.kind),.d (.str t.name),.own 0 1,.own 1 1]/\∃e B e' B',H'=[.tree 1 4 e (t.terms.map Tm.enc) B none,.tree 1 4 e' (t.goals.map Gl.enc) B' none]
theorem bi6 (l:List Gl) (hw:wtR (l.map Gl.enc)<=1048576) (hl:∀x,x∈l->bW3 x):ACalls Tryz.prog 121 [.d (.sl (l.map Gl.enc))] [.hole] (fun c H'=>c=.own 0 1/\∃e B,H'=[.tree 1 4 e (l.map Gl.enc) B none]):=by
 have hlen:l.length<=1048576:=by
  have:=D9 (l.map Gl.enc) 0;simp [Y7] at this;omega
 have hmx:maxLen=9223372036854775807:=rfl;refine aE_ Tryz.func121 ?_;refine rS_ Tryz.func121 ?_;simp only [go_sem,seval]
 repeat' (first
  | ((refine ⟨sd,?_⟩)<;>(try simp only [go_sem,seval]))
  | fail)
 refine AW.rowT 3 1 rfl rfl (by simp) (by decide) (fun x hx d hd=>by have e:=ad_ hx;subst e;simp at hd;rcases hd with rfl | rfl | rfl | rfl<;>rfl) ?_;refine AW.lp [0,3] (fun p:Nat×(Nat->Prop)=>[(4,.d (.int .i64 p.1))]) (fun _ p=>[.hole,.dead,.tree 0 4 95 ((l.map Gl.enc).take p.1++List.replicate ((l.map Gl.enc).length - p.1) [.int .i64 0,.str [],.sl [],.sl []]) p.2 none]) (fun p=>p.1<=l.length) (fun p=>l.length - p.1) (0,fun _=>False) (H_ _) bE4 ?_;rintro ⟨i,B⟩ hi hnext;dsimp only at hi hnext |-;have hL:(l.map Gl.enc).length=l.length:=by simp
 by_cases h:i<l.length
 ·obtain ⟨x,hxi⟩:∃x,l[i]? = some x:=⟨_,a_ h⟩
  have hlt:(i:Int)<(l.length:Int):=by omega
  have hx:=hl x (i_ hxi);have hxe:(l.map Gl.enc)[i]? = some x.enc:=by simp [hxi]
  have hrl:((l.map Gl.enc).take i++List.replicate ((l.map Gl.enc).length - i) [D.int .i64 0,.str [],.sl [],.sl []]).length=l.length:=by simp;omega
  have hrs:=row_step (z:=[D.int .i64 0,.str [],.sl [],.sl []]) (k:=4) hxe rfl;generalize hr0:(l.map Gl.enc).take i++List.replicate ((l.map Gl.enc).length - i) [D.int .i64 0,.str [],.sl [],.sl []]=r0 at hrl hrs |-;refine AW.hole ?_;refine AW.hole ?_;refine rS_ Tryz.func121 ?_;simp only [go_sem,seval,hlt,j5 hxi,hrl]
  repeat' (first
   | (simp (disch:=omega) only [j6])
   | ((first
    | (refine ACalls.fresh (ds:=[.agg x.enc]) (m:=2) hx [3,4] rfl rfl (by simp) (by simp) ?_<;>(rintro c H' ⟨rfl,e1,B1,e2,B2,rfl⟩ _;refine ⟨rfl,rfl,?_⟩))
    | (refine ⟨sd,?_⟩))<;>(try simp only [go_sem,seval,hrl,hlt]))
   | fail)
  intro B';rw [Gl.enc_eq x] at hrs;simp only [j_,C_] at hrs;rw [hrs];exact hnext (i+1,B') _ h (by omega) bE4
 ·obtain rfl:i=l.length:=by omega
  have hfull:(l.map Gl.enc).take l.length++List.replicate ((l.map Gl.enc).length - l.length) [D.int .i64 0,.str [],.sl [],.sl []]=l.map Gl.enc:=by rw [<-hL];exact aj9 _ _
  rw [hfull];refine AW.place 3 2 0 rfl rfl rfl (by decide) ?_;refine rS_ Tryz.func121 ?_;simp only [go_sem,seval];simp [O.refsLt]
theorem bu4:∀t:Gl,wtL t.enc<=1048576->bW3 t:=by
 intro t;induction t using Gl.ind' with
 | h t ih =>
  intro hw;unfold bW3;have hwt:wtR (t.terms.map Tm.enc)<=1048576:=by
   simp only [Gl.enc_eq t,wtL,D.wt] at hw;omega
  have hwg:wtR (t.goals.map Gl.enc)<=1048576:=by
   simp only [Gl.enc_eq t,wtL,D.wt] at hw;omega
  have ht:=ag6 t.terms hwt (fun x hx=>aC8 x (by have:=Gl.wt_terms hx;omega));have hg:=bi6 t.goals hwg (fun x hx=>ih x hx (by have:=Gl.wt_goals hx;omega));refine aE_ Tryz.func84 ?_;refine rS_ Tryz.func84 ?_;simp only [go_sem,seval]
  repeat' (first
   | (exact ⟨_,_,_,_,rfl⟩)
   | ((first
    | (refine ACalls.fresh (ds:=[.sl (t.terms.map Tm.enc)]) (m:=1) ht [0] rfl rfl (by simp) (by simp) ?_<;>(rintro c H' ⟨rfl,e1,B1,rfl⟩ _;refine ⟨rfl,rfl,?_⟩))
    | (refine ACalls.fresh (ds:=[.sl (t.goals.map Gl.enc)]) (m:=1) hg [1] rfl rfl (by simp) (by simp) ?_<;>(rintro c H' ⟨rfl,e1,B1,rfl⟩ _;refine ⟨rfl,rfl,?_⟩)))<;>(try simp only [go_sem,seval]))
   | fail)
theorem M4 (k:Int) (h0:0<=k) (h1:k<=1000000000000):Gives Tryz.prog 38 [.int .i64 k] (.d (.str (T9 k))):=by
 have hk:T9 k=[109]++(if k<=0 then [48] else bt6 k.toNat k.toNat []):=rfl;refine aE_ Tryz.func38 ?_;refine rS_ Tryz.func38 ?_;simp only [go_sem,seval]
 repeat' (first
  | ((refine D5 (fun hq=>?_) (fun hq=>?_))<;>(try simp only [go_sem,seval,hq]))
  | fail)
 ·rw [hk,if_pos (by assumption)];rfl
 rw [if_neg (by omega)] at hk;generalize T9 k=N at hk |-;refine AW.lp [] (fun p:Int×List UInt8=>[(0,.d (.int .i64 p.1)),(3,.d (.str p.2))]) (fun H _=>H) (fun p=>0<=p.1/\p.1<=k/\(p.2.length:Int)<=k - p.1/\∀fuel,p.1.toNat<=fuel->[109]++bt6 fuel p.1.toNat p.2=N) (fun p=>p.1.toNat) (k,[]) ⟨by omega,by omega,by simp,fun fuel hf=>?_⟩ I4 ?_
 ·rw [hk,aw1 k.toNat fuel k.toNat [] (n_ _) hf]
 have hmx:maxLen=9223372036854775807:=rfl;rintro ⟨m,acc⟩ ⟨i1,i2,i4,i3⟩ hnext;dsimp only at i1 i2 i3 i4 hnext;by_cases hm:0<m
 ·have hd0:0<=m.tmod 10/\m.tmod 10<10/\(m.tmod 10).toNat=m.toNat % 10:=by
   rw [Int.tmod_eq_emod_of_nonneg (by omega)];omega
  have hq0:0<=m.tdiv 10/\m.tdiv 10<m/\(m.tdiv 10).toNat=m.toNat / 10:=by
   rw [ac_ (by omega)];omega
  have hnx:=i3 (m.toNat) (n_ _);have hw8:IntKind.u8.wrap (48+m.tmod 10)=48+m.tmod 10:=by
   unfold IntKind.wrap;simp [IntKind.bits,IntKind.signed];omega
  refine rS_ Tryz.func38 ?_;simp only [go_sem,seval,hm,hw8,bytesOf]
  repeat' (first
   | (simp (disch:=omega) only [j6])
   | ((refine ⟨sd,?_⟩)<;>(try simp only [go_sem,seval,hm,hw8,bytesOf]))
   | fail)
  refine hnext (m.tdiv 10,UInt8.ofNat (48+m.tmod 10).toNat :: acc) _ ⟨by omega,by omega,by simp only [c_];omega,fun fuel hf=>?_⟩ (by dsimp only;omega) bE4;dsimp only at hf |-;have h3:=i3 (m.toNat+fuel+1) (by omega);simp only [bt6] at h3;rw [if_neg (by omega),aw1 fuel (m.toNat+fuel) _ _ (by omega) (by omega)] at h3;rw [<-h3,hq0.2.2,show (48+m.tmod 10).toNat=48+m.toNat % 10 by omega]
 ·obtain rfl:m=0:=by omega
  have:=i3 0 (by simp);refine rS_ Tryz.func38 ?_;simp only [go_sem,seval]
  repeat' (first
   | ((refine ⟨sd,?_⟩)<;>(try simp only [go_sem,seval]))
   | fail)
  all_goals (rw [<-this];rfl)
theorem Q8 (k:Int):Gives Tryz.prog 17 [.sl [],.int .i64 k] (.d (.int .i64 k)):=by
 have z0:((0:Nat):Int)=0:=rfl;refine aE_ Tryz.func17 ?_;refine rS_ Tryz.func17 ?_;simp only [go_sem,seval]
 repeat' (first
  | ((refine AW.loop ?_<;>(refine rS_ Tryz.func17 ?_))<;>(try simp only [go_sem,seval,z0]))
  | fail)
 all_goals (exfalso;simp at *)
def mTT (l:List Tm):Prop:=∀(k:Int) (q e:Nat) (B:Nat->Prop),0<=k->k+Tm.mcnts l<=1000000000000 ->
 ACalls Tryz.prog 17 [.own 0 q,.d (.int .i64 k)] [.tree q 4 e (l.map Tm.enc) B none] fun c H'=>c=.d (.int .i64 (k+Tm.mcnts l))/\∃B',H'=[.tree q 4 e ((Tm.mrks k l).map Tm.enc) B' none]
theorem at5 (l:List Tm) (ih:∀x,x∈l->mTT x.args):mTT l:=by
 intro k q e B h0 h1;have hlm:=Tm.len_mcnts l;refine aE_ Tryz.func17 ?_;refine rS_ Tryz.func17 ?_;simp only [go_sem,seval];refine AW.lp [0] (fun p:Nat×(Nat->Prop)=>[(5,.d (.int .i64 p.1)),(1,.d (.int .i64 (k+Tm.mcnts (l.take p.1))))]) (fun _ p=>[.tree q 4 e ((Tm.mrks k (l.take p.1)++l.drop p.1).map Tm.enc) p.2 none]) (fun p=>p.1<=l.length) (fun p=>l.length - p.1) (0,B) (H_ _) (by refine ⟨by simp [mkS],by simp [mkS,Tm.mrks],by simp [mkS,O.refsLt],?_⟩;simp [mkS,Abs.get,C.refsLtT,C.refsLt,C.refsLt1,Tm.mcnts]) ?_;rintro ⟨i,B1⟩ hi hnext;dsimp only at hi hnext |-;by_cases h:i<l.length
 ·have hlt:(i:Int)<(l.length:Int):=by omega
  have hd:l.drop i=l[i] :: l.drop (i+1):=p_ h;have hll:((Tm.mrks k (l.take i)).map Tm.enc++l[i].enc :: (l.drop (i+1)).map Tm.enc).length=l.length:=by simp [Tm.mrks_len];omega
  have hai:((Tm.mrks k (l.take i)).map Tm.enc).length=i:=by simp [Tm.mrks_len];omega
  have hnxt:l.take (i+1)=l.take i++[l[i]]:=by rw [D_,a_ h];rfl
  have hcn:Tm.mcnts (l.take (i+1))=Tm.mcnts (l.take i)+l[i].mcnt:=by rw [hnxt,Tm.mcnts_app];simp [Tm.mcnts]
  have hcl:Tm.mcnts l=Tm.mcnts (l.take i)+(l[i].mcnt+Tm.mcnts (l.drop (i+1))):=by
   conv=>lhs;rw [<-A_ i l,hd,Tm.mcnts_app]
   simp [Tm.mcnts]
  have hix:=ih l[i] (y_ _);have hmr:Tm.mrks k (l.take (i+1))=Tm.mrks k (l.take i)++[l[i].mrk (k+Tm.mcnts (l.take i))]:=by rw [hnxt,Tm.mrks_app];simp [Tm.mrks]
  have hmc:=Tm.mcnt_eq l[i];rw [hd,I_,e_];have hnx:=fun B' s'=>hnext (i+1,B') s' h (by dsimp only;omega);clear hnext;simp only [hmr,hcn,I_,e_,E_,Tm.mrk_eq] at hnx;generalize hx:l[i]=x at *;generalize hA:(Tm.mrks k (l.take i)).map Tm.enc=A at *;generalize hZ:(l.drop (i+1)).map Tm.enc=Z at *;generalize hk:k+(Tm.mcnts (l.take i):Int)=kk at *;have s1:=fun (y:List D)=>N8 (x:=x.enc) (y:=y) (r:=Z) hai;have s2:=fun (y y':List D)=>N8 (x:=y) (y:=y') (r:=Z) hai;have g1:=fun (y:List D)=>ap7 (x:=y) (r:=Z) hai;have xe:=Tm.enc_eq x;rw [xe] at hll |-;have zk4:∀zk:Nat,x.args.map Tm.enc≠[]->(∀j,j∈x.args->4=zk)->zk=4:=fun zk hne hz=>by
   cases ha:x.args with
   | nil=>simp [ha] at hne
   | cons a r=>exact (hz a (by simp [ha])).symm
  have hrow:∀ks,(Tm.mk kk (kk+1) (T9 (kk+2)) ks).enc=[.int .i64 kk,.int .i64 (kk+1),.str (T9 (kk+1+1)),.sl (ks.map Tm.enc)]:=fun ks=>by
   rw [Tm.enc_eq,show kk+1+1=kk+2 by omega];rfl
  simp only [hrow,z_,j_,C_] at hnx;have g2:=fun (y:List D) (Q:List D->Prop)=>j5 (g1 y) Q;refine rS_ Tryz.func17 ?_;simp only [go_sem,seval,hlt,hll,s2,g1,g2]
  repeat' (first
   | (refine H6 (fun hk0=>?_) (fun hk1 zk e' B2 B3 hzk=>?_)<;>(try simp only [go_sem,seval,hlt,hll,s2,g1,g2]))
   | (simp (disch:=omega) only [j6])
   | ((first
    | (refine E9 (fun Bz=>?_))
    | (refine (Q8 _).calls rfl ?_)
    | (refine (M4 _ sd sd).calls rfl ?_)
    | (refine ⟨sd,?_⟩))<;>(try simp only [go_sem,seval,hlt,hll,s2,g1,g2]))
   | fail)
  ·have ha:x.args=[]:=by simpa using hk0
   have hm0:Tm.mcnts x.args=0:=by rw [ha];rfl
   rw [ha] at hnx |-;refine hnx Bz _ ?_;refine ⟨by simp [mkS],by simp [mkS,Tm.mrks],by simp [mkS,O.refsLt],?_⟩;simp [mkS,Abs.get,C.refsLtT,C.refsLt,C.refsLt1];omega
  ·obtain rfl:=zk4 zk hk1 hzk
   refine (hix (kk+1+1+1) 0 e' B3 (by omega) (by omega)).at1 rfl 1 rfl rfl ?_;rintro c o' ⟨rfl,B4,ho⟩;cases ho;refine ⟨rfl,rfl,?_⟩;simp only [go_sem,seval,C.at1];try simp (disch:=omega) only [j6]
   try simp only [go_sem,seval,C.at1]
   refine AW.rejoin 0 1 rfl rfl (by decide) (fun B5=>?_);simp only [go_sem,seval,g1,s2];refine hnx B5 _ ?_;refine ⟨by simp [mkS],by simp [mkS];rw [show kk+1+1+1=kk+3 by omega],by simp [mkS,O.refsLt],?_⟩;simp [mkS,Abs.get,C.refsLtT,C.refsLt,C.refsLt1];omega
 ·obtain rfl:i=l.length:=by omega
  refine rS_ Tryz.func17 ?_;simp only [go_sem,seval,Tm.mrks_len,F_,List.drop_length]
  repeat' (first
   | (exact ⟨_,rfl⟩)
   | fail)
theorem bx5:∀t:Tm,mTT t.args:=by
 intro t;induction t using Tm.ind' with
 | h t ih=>exact at5 t.args ih
theorem ak6 (l:List Tm):mTT l:=at5 l (fun x _=>bx5 x)
def bF7 (t:Fc):Prop:=ACalls Tryz.prog 10 [.d (.agg t.enc)] [.hole] fun c H'=>c=.agg [.d (.str t.rel),.own 0 1]/\∃e B,H'=[.tree 1 4 e (t.args.map Tm.enc) B none]
theorem bu5 (t:Fc) (hw:wtL t.enc<=1048576):bF7 t:=by
 unfold bF7;have hwr:wtR (t.args.map Tm.enc)<=1048576:=by rw [Fc.enc_eq] at hw;simp only [wtL,D.wt] at hw;omega
 have hts:=ag6 t.args hwr (fun x hx=>aC8 x (by have:=G7 (t.args.map Tm.enc) x.enc (q_.2 ⟨x,hx,rfl⟩);omega));rw [Fc.enc_eq];refine aE_ Tryz.func10 ?_;refine rS_ Tryz.func10 ?_;simp only [go_sem,seval]
 repeat' (first
  | (exact ⟨_,_,rfl⟩)
  | ((refine ACalls.fresh (ds:=[.sl (t.args.map Tm.enc)]) (m:=1) hts [0] rfl rfl (by simp) (by simp) ?_<;>(rintro c H' ⟨rfl,e1,B1,rfl⟩ _;refine ⟨rfl,rfl,?_⟩))<;>(try simp only [go_sem,seval]))
  | fail)
end Go.Proofs.YtancdeoodnpimaaGreatDoor
set_option linter.unusedVariables false
set_option linter.unusedSimpArgs false
namespace Go.Abs
def aN4 (l:List (List UInt8)):List (List D):=l.map encS
theorem G5 (l:List (List UInt8)):(aN4 l).length=l.length:=by simp [aN4]
theorem Y8 (a b:List (List UInt8)):aN4 (a++b)=aN4 a++aN4 b:=by simp [aN4]
theorem U4 (s:List UInt8):aN4 [s]=[[.str s]]:=rfl
theorem bW4:aN4 []=[]:=rfl
theorem bj6 {l:List (List UInt8)} {i:Nat} {n:List UInt8} (h:l[i]? = some n):(aN4 l)[i]? = some [.str n]:=by simp [aN4,h,encS]
mutual
def Gl.callsI (neg:Bool):Gl->Bool->List (List UInt8)
 | .mk k n _ gs,ins=>(if k=9/\ins=neg then [n] else [])++Gl.callsIs neg gs (ins || decide (k=10))
def Gl.callsIs (neg:Bool):List Gl->Bool->List (List UInt8)
 | [],_=>[]
 | g :: r,ins=>Gl.callsI neg g ins++Gl.callsIs neg r ins
end
theorem Gl.callsI_eq (neg ins:Bool) (g:Gl):g.callsI neg ins=(if g.kind=9/\ins=neg then [g.name] else [])++Gl.callsIs neg g.goals (ins || decide (g.kind=10)):=by
 cases g;simp only [Gl.callsI,Gl.kind,Gl.name,Gl.goals];rfl
mutual
def Gl.callsS (neg:Bool):Gl->List (List UInt8)
 | .mk k n _ gs=>(if k=9/\neg=false then [n] else [])++(if k=10 then (if neg=true then ((gs.take 1).map Gl.name) else []) else Gl.callsSs neg gs)
def Gl.callsSs (neg:Bool):List Gl->List (List UInt8)
 | []=>[]
 | g :: r=>Gl.callsS neg g++Gl.callsSs neg r
end
theorem Gl.callsS_eq (neg:Bool) (g:Gl):g.callsS neg=(if g.kind=9/\neg=false then [g.name] else [])++(if g.kind=10 then (if neg=true then ((g.goals.take 1).map Gl.name) else []) else Gl.callsSs neg g.goals):=by
 cases g;simp only [Gl.callsS,Gl.kind,Gl.name,Gl.goals];rfl
theorem Gl.calls_same:∀(g:Gl) (neg:Bool),g.shape=true->g.callsI neg false=g.callsS neg:=by
 intro g;induction g using Gl.ind' with
 | h t ih =>
  intro neg hs;have hsh:=hs;rw [Gl.shape_eq] at hs;simp only [b_,l_] at hs;obtain ⟨⟨hf,_⟩,hg⟩:=hs;rw [Gl.callsI_eq,Gl.callsS_eq];have key:∀(l:List Gl),(∀x,x∈l->x∈t.goals)->Gl.callsIs neg l false=Gl.callsSs neg l:=by
   intro l;induction l with
   | nil=>intro _;simp [Gl.callsIs,Gl.callsSs]
   | cons x r ihr =>
    intro hl;have hx:=hl x (by simp);simp only [Gl.callsIs,Gl.callsSs,ih x hx neg (hg x hx),ihr (fun x hx=>hl x (by simp [hx]))]
  have e1:(if t.kind=9/\false=neg then [t.name] else [])=(if t.kind=9/\neg=false then [t.name] else []):=by cases neg<;>simp
  rw [e1];congr 1;by_cases h10:t.kind=10
  ·rw [if_pos h10]
   simp only [h10,decide_true,Bool.or_true];obtain ⟨x,hx⟩:∃x,t.goals=[x]/\x.kind=9:=by
    rcases Gl.form_inv hf with h | h | h | h
    ·omega
    ·omega
    ·omega
    ·obtain ⟨_,_,_,h4,h5⟩:=h
     match he:t.goals,h4,h5 with
     | [x],_,h5=>exact ⟨x,rfl,by simpa [Y5] using h5⟩
     | [],h4,_=>simp at h4
     | x :: y :: r,h4,_=>simp at h4;omega
   obtain ⟨hx,hk⟩:=hx;have hxf:=hg x (by rw [hx];simp);rw [Gl.shape_eq] at hxf;simp only [b_] at hxf;have hxg:x.goals=[]:=by
    rcases Gl.form_inv hxf.1.1 with h | h | h | h
    ·exact O_.1 (by omega)
    ·omega
    ·omega
    ·omega
   rw [hx];simp only [Gl.callsIs,Gl.callsI_eq,hk,hxg,K_,true_and,t_,X_,e_,E_];cases neg<;>simp
  ·rw [if_neg h10]
   simp only [h10,decide_false,Bool.or_false];exact key t.goals (fun x hx=>hx)
def F6 {α:Type} (a l:List (List α)):List (List α):=a.flatMap fun x=>l.map fun y=>x++y
theorem ab3 {α:Type} (a l:List (List α)):(F6 a l).length=a.length * l.length:=by
 induction a with
 | nil=>simp [F6]
 | cons x r ih=>simp only [F6,S_,h_,s_,c_] at ih |-;rw [ih,Nat.succ_mul];omega
mutual
def Gl.clsI:Gl->Option (List (List Gl))
 | .mk k n ts gs=>if k=0 then some [[]] else if k=1 then some [] else if k=8 then Gl.orI gs [] else if k=7 then Gl.andI gs [[]] else some [[.mk k n ts gs]]
def Gl.orI:List Gl->List (List Gl)->Option (List (List Gl))
 | [],a=>some a
 | g :: r,a=>match Gl.clsI g with
  | none=>none
  | some l=>if 64<(a++l).length then none else Gl.orI r (a++l)
def Gl.andI:List Gl->List (List Gl)->Option (List (List Gl))
 | [],a=>some a
 | g :: r,a=>match Gl.clsI g with
  | none=>none
  | some l=>if 64<(F6 a l).length then none else Gl.andI r (F6 a l)
end
theorem Gl.clsI_eq (g:Gl):g.clsI=if g.kind=0 then some [[]] else if g.kind=1 then some [] else if g.kind=8 then Gl.orI g.goals [] else if g.kind=7 then Gl.andI g.goals [[]] else some [[g]]:=by
 cases g;simp only [Gl.clsI,Gl.kind,Gl.goals];rfl
mutual
def Gl.clsS:Gl->List (List Gl)
 | .mk k n ts gs=>if k=0 then [[]] else if k=1 then [] else if k=8 then Gl.orS gs [] else if k=7 then Gl.andS gs [[]] else [[.mk k n ts gs]]
def Gl.orS:List Gl->List (List Gl)->List (List Gl)
 | [],a=>a
 | g :: r,a=>if 64<(Gl.clsS g).length then Gl.clsS g else Gl.orS r (a++Gl.clsS g)
def Gl.andS:List Gl->List (List Gl)->List (List Gl)
 | [],a=>a
 | g :: r,a=>if 64<(Gl.clsS g).length then Gl.clsS g else if 64<(F6 a (Gl.clsS g)).length then F6 a (Gl.clsS g) else Gl.andS r (F6 a (Gl.clsS g))
end
theorem Gl.clsS_eq (g:Gl):g.clsS=if g.kind=0 then [[]] else if g.kind=1 then [] else if g.kind=8 then Gl.orS g.goals [] else if g.kind=7 then Gl.andS g.goals [[]] else [[g]]:=by
 cases g;simp only [Gl.clsS,Gl.kind,Gl.goals];rfl
theorem Gl.orS_big:∀(r:List Gl) (a:List (List Gl)),64<a.length->64<(Gl.orS r a).length
 | [],a,h=>by simpa [Gl.orS] using h
 | g :: r,a,h=>by
  simp only [Gl.orS];split
  ·assumption
  ·exact Gl.orS_big r _ (by simp;omega)
theorem Gl.cls_same:∀g:Gl,g.clsI=if g.clsS.length<=64 then some g.clsS else none:=by
 intro g;induction g using Gl.ind' with
 | h t ih =>
  have key8:∀(l:List Gl) (a:List (List Gl)),(∀x,x∈l->x∈t.goals)->a.length<=64->Gl.orI l a=if (Gl.orS l a).length<=64 then some (Gl.orS l a) else none:=by
   intro l;induction l with
   | nil=>intro a _ ha;simp [Gl.orI,Gl.orS,ha]
   | cons x r ihr =>
    intro a hl ha;by_cases h1:64<x.clsS.length
    ·have e:Gl.orS (x :: r) a=x.clsS:=by simp only [Gl.orS,if_pos h1]
     simp only [Gl.orI];rw [e,ih x (hl x (by simp)),if_neg (by omega)]
    ·have e:Gl.orS (x :: r) a=Gl.orS r (a++x.clsS):=by simp only [Gl.orS,if_neg h1]
     simp only [Gl.orI];rw [e,ih x (hl x (by simp)),if_pos (by omega)];dsimp only;by_cases h2:64<(a++x.clsS).length
     ·rw [if_pos h2]
      have:=Gl.orS_big r _ h2;rw [if_neg (by omega)]
     ·rw [if_neg h2]
      exact ihr _ (fun y hy=>hl y (by simp [hy])) (by omega)
  have key7:∀(l:List Gl) (a:List (List Gl)),(∀x,x∈l->x∈t.goals)->a.length<=64->Gl.andI l a=if (Gl.andS l a).length<=64 then some (Gl.andS l a) else none:=by
   intro l;induction l with
   | nil=>intro a _ ha;simp [Gl.andI,Gl.andS,ha]
   | cons x r ihr =>
    intro a hl ha;by_cases h1:64<x.clsS.length
    ·have e:Gl.andS (x :: r) a=x.clsS:=by simp only [Gl.andS,if_pos h1]
     simp only [Gl.andI];rw [e,ih x (hl x (by simp)),if_neg (by omega)]
    ·have e:Gl.andS (x :: r) a=if 64<(F6 a x.clsS).length then F6 a x.clsS else Gl.andS r (F6 a x.clsS):=by simp only [Gl.andS,if_neg h1]
     simp only [Gl.andI];rw [e,ih x (hl x (by simp)),if_pos (by omega)];dsimp only;by_cases h2:64<(F6 a x.clsS).length
     ·rw [if_pos h2,if_pos h2,if_neg (by omega)]
     ·rw [if_neg h2,if_neg h2]
      exact ihr _ (fun y hy=>hl y (by simp [hy])) (by omega)
  rw [Gl.clsI_eq,Gl.clsS_eq];by_cases h0:t.kind=0
  ·simp [h0]
  ·simp only [if_neg h0]
   by_cases h1:t.kind=1
   ·simp [h1]
   ·simp only [if_neg h1]
    by_cases h8:t.kind=8
    ·simp only [if_pos h8];exact key8 t.goals [] (fun x hx=>hx) (by simp)
    ·simp only [if_neg h8]
     by_cases h7:t.kind=7
     ·simp only [if_pos h7];exact key7 t.goals [[]] (fun x hx=>hx) (by simp)
     ·simp [h7]
theorem Gl.clsS_len:∀g:Gl,g.clsS.length<=4096+64 * g.cnt:=by
 intro g;induction g using Gl.ind' with
 | h t ih =>
  have hb:∀x,x∈t.goals->x.cnt<=Gl.cnts t.goals:=by
   intro x hx;obtain ⟨a,b,hab⟩:=List.append_of_mem hx;rw [hab];clear hab hx ih;induction a with
   | nil=>simp [Gl.cnts]
   | cons y a iha=>simp only [j_,Gl.cnts];omega
  have key8:∀(l:List Gl) (a:List (List Gl)),(∀x,x∈l->x∈t.goals)->a.length+64 * Gl.cnts l<=64 * Gl.cnts t.goals->(Gl.orS l a).length<=4096+64 * Gl.cnts t.goals:=by
   intro l;induction l with
   | nil=>intro a _ ha;simp only [Gl.orS,Gl.cnts] at ha |-;omega
   | cons x r ihr =>
    intro a hl ha;have h1:=ih x (hl x (by simp));have h2:=hb x (hl x (by simp));have h3:=x.cnt_pos;simp only [Gl.orS,Gl.cnts] at ha |-;split
    ·omega
    ·refine ihr _ (fun y hy=>hl y (by simp [hy])) ?_
     rw [h_];omega
  have key7:∀(l:List Gl) (a:List (List Gl)),(∀x,x∈l->x∈t.goals)->a.length<=64->(Gl.andS l a).length<=4096+64 * Gl.cnts t.goals:=by
   intro l;induction l with
   | nil=>intro a _ ha;simp only [Gl.andS];omega
   | cons x r ihr =>
    intro a hl ha;have h1:=ih x (hl x (by simp));have h2:=hb x (hl x (by simp));simp only [Gl.andS];split
    ·omega
    ·split
     ·rw [ab3]
      have:a.length * x.clsS.length<=64 * 64:=Nat.mul_le_mul ha (by omega);omega
     ·exact ihr _ (fun y hy=>hl y (by simp [hy])) (by omega)
  rw [Gl.clsS_eq,Gl.cnt_eq];split
  ·simp;omega
  ·split
   ·simp
   ·split
    ·have:=key8 t.goals [] (fun x hx=>hx) (by simp);omega
    ·split
     ·have:=key7 t.goals [[]] (fun x hx=>hx) (by simp);omega
     ·simp;omega
theorem as9 {α:Type} {a l:List (List α)} {c:List α} (h:c∈F6 a l):∃x y,x∈a/\y∈l/\c=x++y:=by
 simp only [F6,x_,q_] at h;obtain ⟨x,hx,y,hy,e⟩:=h;exact ⟨x,y,hx,hy,e.symm⟩
theorem Gl.clsS_row:∀g:Gl,∀c,c∈g.clsS->c.length<=g.cnt/\∀x,x∈c->x∈g.subs:=by
 intro g;induction g using Gl.ind' with
 | h t ih =>
  have hb:∀x,x∈t.goals->x.cnt<=Gl.cnts t.goals:=by
   intro x hx;obtain ⟨a,b,hab⟩:=List.append_of_mem hx;rw [hab];clear hab hx ih;induction a with
   | nil=>simp [Gl.cnts]
   | cons y a iha=>simp only [j_,Gl.cnts];omega
  have hsub:∀x,x∈t.goals->∀y,y∈x.subs->y∈t.subs:=by
   intro x hx y hy;rw [Gl.subs_eq,Gl.subss_eq];exact List.mem_cons_of_mem _ (x_.2 ⟨x,hx,hy⟩)
  have key8:∀(l:List Gl) (a:List (List Gl)),(∀x,x∈l->x∈t.goals)->(∀c,c∈a->c.length<=Gl.cnts t.goals/\∀x,x∈c->x∈t.subs)->∀c,c∈Gl.orS l a->c.length<=Gl.cnts t.goals/\∀x,x∈c->x∈t.subs:=by
   intro l;induction l with
   | nil=>intro a _ ha;simpa only [Gl.orS] using ha
   | cons x r ihr =>
    intro a hl ha;have h1:=ih x (hl x (by simp));have h2:=hb x (hl x (by simp));have h3:∀c,c∈x.clsS->c.length<=Gl.cnts t.goals/\∀x,x∈c->x∈t.subs:=fun c hc=>⟨by have:=(h1 c hc).1;omega,fun y hy=>hsub x (hl x (by simp)) y ((h1 c hc).2 y hy)⟩;simp only [Gl.orS];split
    ·exact h3
    ·refine ihr _ (fun y hy=>hl y (by simp [hy])) fun c hc=>?_
     rcases u_.1 hc with h | h
     ·exact ha c h
     ·exact h3 c h
  have key7:∀(l:List Gl) (a:List (List Gl)) (m:Nat),(∀x,x∈l->x∈t.goals)->m+Gl.cnts l<=Gl.cnts t.goals->(∀c,c∈a->c.length<=m/\∀x,x∈c->x∈t.subs)->∀c,c∈Gl.andS l a->c.length<=Gl.cnts t.goals/\∀x,x∈c->x∈t.subs:=by
   intro l;induction l with
   | nil=>intro a m _ hm ha c hc;simp only [Gl.andS] at hc;have:=ha c hc;simp only [Gl.cnts] at hm;exact ⟨by omega,this.2⟩
   | cons x r ihr =>
    intro a m hl hm ha;have h1:=ih x (hl x (by simp));have h2:=hb x (hl x (by simp));simp only [Gl.cnts] at hm;have h3:∀c,c∈x.clsS->c.length<=x.cnt/\∀x,x∈c->x∈t.subs:=fun c hc=>⟨(h1 c hc).1,fun y hy=>hsub x (hl x (by simp)) y ((h1 c hc).2 y hy)⟩;have h4:∀c,c∈F6 a x.clsS->c.length<=m+x.cnt/\∀x,x∈c->x∈t.subs:=by
     intro c hc;obtain ⟨u,v,hu,hv,rfl⟩:=as9 hc;have k1:=ha u hu;have k2:=h3 v hv;refine ⟨by rw [h_];omega,fun y hy=>?_⟩;rcases u_.1 hy with h | h
     ·exact k1.2 y h
     ·exact k2.2 y h
    simp only [Gl.andS];split
    ·exact fun c hc=>⟨by have:=(h3 c hc).1;omega,(h3 c hc).2⟩
    ·split
     ·exact fun c hc=>⟨by have:=(h4 c hc).1;omega,(h4 c hc).2⟩
     ·exact ihr _ (m+x.cnt) (fun y hy=>hl y (by simp [hy])) (by omega) h4
  rw [Gl.clsS_eq,Gl.cnt_eq];intro c hc;split at hc
  ·simp at hc;subst hc;simp
  ·split at hc
   ·simp at hc
   ·split at hc
    ·have:=key8 t.goals [] (fun x hx=>hx) (by simp) c hc;exact ⟨by omega,this.2⟩
    ·split at hc
     ·have:=key7 t.goals [[]] 0 (fun x hx=>hx) (by omega) (by simp) c hc;exact ⟨by omega,this.2⟩
     ·simp at hc;subst hc
      refine ⟨by simp,fun x hx=>?_⟩;simp at hx;subst hx;rw [Gl.subs_eq];simp
def Gl.nI (g:Gl):Nat:=(g.clsI.getD []).length
def i64 (n:Int):Int:=IntKind.i64.wrap n
mutual
def Gl.leadI:Gl->List Int->Int×List Int
 | .mk k _ _ gs,cs=>if k=1 then (-1,cs) else if k=8 then
   (match cs with
   | []=>(-1,[])
   | c :: r=>if c<0\/(gs.length:Int)<=c then (-1,r) else Gl.leadAt gs c.toNat 0 r)
  else if k=7 then Gl.leadL gs 0 cs else (0,cs)
def Gl.leadAt:List Gl->Nat->Int->List Int->Int×List Int
 | [],_,_,cs=>(-1,cs)
 | g :: _,0,n,cs=>if (Gl.leadI g cs).1<0 then (-1,(Gl.leadI g cs).2) else (i64 (n+(Gl.leadI g cs).1),(Gl.leadI g cs).2)
 | g :: r,i+1,n,cs=>Gl.leadAt r i (i64 (n+g.nI)) cs
def Gl.leadL:List Gl->Int->List Int->Int×List Int
 | [],n,cs=>(n,cs)
 | g :: r,n,cs=>if (Gl.leadI g cs).1<0 then (-1,(Gl.leadI g cs).2) else Gl.leadL r (i64 (i64 (n * g.nI)+(Gl.leadI g cs).1)) (Gl.leadI g cs).2
end
theorem Gl.leadI_eq (g:Gl) (cs:List Int):g.leadI cs=if g.kind=1 then (-1,cs) else if g.kind=8 then
   (match cs with
   | []=>(-1,[])
   | c :: r=>if c<0\/(g.goals.length:Int)<=c then (-1,r) else Gl.leadAt g.goals c.toNat 0 r)
  else if g.kind=7 then Gl.leadL g.goals 0 cs else (0,cs):=by
 cases g;simp only [Gl.leadI,Gl.kind,Gl.goals];rfl
mutual
def Gl.idxS (cs:List Int):Gl->Nat->Bool->Int×Nat×Bool
 | .mk k _ _ gs,u,ok=>if k=1 then (0,u,false) else if k=8 then
   (match cs[u]? with
   | none=>(0,u,false)
   | some c=>if 0<=c/\c<=(gs.length:Int) - 1 then Gl.idxAt cs gs c.toNat [] (u+1) ok else (0,u,false))
  else if k=7 then Gl.idxL cs gs 0 u ok else (0,u,ok)
def Gl.idxAt (cs:List Int):List Gl->Nat->List Gl->Nat->Bool->Int×Nat×Bool
 | [],_,_,u,ok=>(0,u,ok)
 | g :: _,0,before,u,ok=>(before.foldl (fun k x=>i64 (k+x.clsS.length)) (Gl.idxS cs g u ok).1,(Gl.idxS cs g u ok).2)
 | g :: r,i+1,before,u,ok=>Gl.idxAt cs r i (before++[g]) u ok
def Gl.idxL (cs:List Int):List Gl->Int->Nat->Bool->Int×Nat×Bool
 | [],n,u,ok=>(n,u,ok)
 | g :: r,n,u,ok=>Gl.idxL cs r (i64 (i64 (n * g.clsS.length)+(Gl.idxS cs g u ok).1)) (Gl.idxS cs g u ok).2.1 (Gl.idxS cs g u ok).2.2
end
theorem Gl.idxS_eq (cs:List Int) (g:Gl) (u:Nat) (ok:Bool):g.idxS cs u ok=if g.kind=1 then (0,u,false) else if g.kind=8 then
   (match cs[u]? with
   | none=>(0,u,false)
   | some c=>if 0<=c/\c<=(g.goals.length:Int) - 1 then Gl.idxAt cs g.goals c.toNat [] (u+1) ok else (0,u,false))
  else if g.kind=7 then Gl.idxL cs g.goals 0 u ok else (0,u,ok):=by
 cases g;simp only [Gl.idxS,Gl.kind,Gl.goals];rfl
theorem Gl.leadAt_eq:∀(l:List Gl) (i:Nat) (x:Gl) (n:Int) (cs:List Int),l[i]? = some x->Gl.leadAt l i n cs=if (x.leadI cs).1<0 then (-1,(x.leadI cs).2) else (i64 ((l.take i).foldl (fun k x=>i64 (k+x.nI)) n+(x.leadI cs).1),(x.leadI cs).2)
 | [],i,x,n,cs,h=>by simp at h
 | g :: r,0,x,n,cs,h=>by simp at h;subst h;simp only [Gl.leadAt,X_,List.foldl_nil]
 | g :: r,i+1,x,n,cs,h=>by
  simp only [g_] at h;simp only [Gl.leadAt,t_,J_];exact Gl.leadAt_eq r i x _ cs h
theorem Gl.idxAt_eq (cs:List Int):∀(l:List Gl) (i:Nat) (x:Gl) (b:List Gl) (u:Nat) (ok:Bool),l[i]? = some x->Gl.idxAt cs l i b u ok=((b++l.take i).foldl (fun k x=>i64 (k+x.clsS.length)) (x.idxS cs u ok).1,(x.idxS cs u ok).2)
 | [],i,x,b,u,ok,h=>by simp at h
 | g :: r,0,x,b,u,ok,h=>by simp at h;subst h;simp only [Gl.idxAt,X_,K_]
 | g :: r,i+1,x,b,u,ok,h=>by
  simp only [g_] at h;simp only [Gl.idxAt,t_];rw [Gl.idxAt_eq cs r i x _ u ok h,z_];rfl
theorem Gl.idxS_place (cs:List Int):∀(g:Gl) (u:Nat) (ok:Bool),u<=cs.length->u<=(g.idxS cs u ok).2.1/\(g.idxS cs u ok).2.1<=cs.length/\((g.idxS cs u ok).2.2=true->ok=true):=by
 intro g;induction g using Gl.ind' with
 | h t ih =>
  intro u ok hu;have key:∀(l:List Gl) (n:Int) (u:Nat) (ok:Bool),(∀x,x∈l->x∈t.goals)->u<=cs.length->u<=(Gl.idxL cs l n u ok).2.1/\(Gl.idxL cs l n u ok).2.1<=cs.length/\((Gl.idxL cs l n u ok).2.2=true->ok=true):=by
   intro l;induction l with
   | nil=>intro n u ok _ hu;simpa only [Gl.idxL] using ⟨n_ u,hu,fun h=>h⟩
   | cons x r ihr =>
    intro n u ok hl hu;obtain ⟨h1,h2,h3⟩:=ih x (hl x (by simp)) u ok hu;simp only [Gl.idxL];obtain ⟨k1,k2,k3⟩:=ihr (i64 (i64 (n * x.clsS.length)+(x.idxS cs u ok).1)) _ (x.idxS cs u ok).2.2 (fun y hy=>hl y (by simp [hy])) h2;exact ⟨by omega,k2,fun h=>h3 (k3 h)⟩
  rw [Gl.idxS_eq];split
  ·simp [hu]
  ·split
   ·cases hc:cs[u]? with
    | none=>simp [hu]
    | some c =>
     dsimp only;split
     ·rename_i hb
      have hlt:c.toNat<t.goals.length:=by omega
      have hx:t.goals[c.toNat]? = some t.goals[c.toNat]:=a_ hlt;rw [Gl.idxAt_eq cs _ _ _ _ _ _ hx];have hul:u<cs.length:=by
       rcases B_ u cs.length with h | h
       ·exact h
       ·rw [af_ h] at hc;cases hc
      obtain ⟨h1,h2,h3⟩:=ih _ (y_ hlt) (u+1) ok (by omega);exact ⟨by dsimp only;omega,h2,h3⟩
     ·simp [hu]
   ·split
    ·exact key t.goals 0 u ok (fun x hx=>hx) hu
    ·simp [hu]
theorem aX3 {n:Int} (h1:-9223372036854775808<=n) (h2:n<=9223372036854775807):i64 n=n:=j6 h1 h2
theorem Gl.nI_eq {g:Gl} (h:g.clsS.length<=64):g.nI=g.clsS.length:=by simp [Gl.nI,Gl.cls_same,h]
theorem Gl.orS_parts:∀(l:List Gl) (a:List (List Gl)),(Gl.orS l a).length<=64->(∀x,x∈l->x.clsS.length<=64)/\(Gl.orS l a).length=a.length+(l.map fun x=>x.clsS.length).sum
 | [],a,h=>by simp [Gl.orS]
 | g :: r,a,h=>by
  simp only [Gl.orS] at h |-;by_cases h1:64<g.clsS.length
  ·rw [if_pos h1] at h;omega
  ·rw [if_neg h1] at h |-
   obtain ⟨k1,k2⟩:=Gl.orS_parts r _ h;refine ⟨fun x hx=>?_,?_⟩
   ·rcases d_.1 hx with rfl | hx
    ·omega
    ·exact k1 x hx
   ·rw [k2];simp;omega
theorem Gl.andS_parts:∀(l:List Gl) (a:List (List Gl)),(Gl.andS l a).length<=64->(∀x,x∈l->x.clsS.length<=64)
 | [],a,h=>by simp
 | g :: r,a,h=>by
  simp only [Gl.andS] at h;by_cases h1:64<g.clsS.length
  ·rw [if_pos h1] at h;omega
  ·rw [if_neg h1] at h
   by_cases h2:64<(F6 a g.clsS).length
   ·rw [if_pos h2] at h;omega
   ·rw [if_neg h2] at h
    have k1:=Gl.andS_parts r _ h;intro x hx;rcases d_.1 hx with rfl | hx
    ·omega
    ·exact k1 x hx
theorem ci3 (f:Gl->Nat):∀(l:List Gl) (k:Int),0<=k->(∀x,x∈l->f x<=64)->k+(l.map f).sum<=9223372036854775807->l.foldl (fun k x=>i64 (k+f x)) k=k+(l.map f).sum
 | [],k,h0,h1,h2=>by simp
 | x :: r,k,h0,h1,h2=>by
  simp only [e_,m_,J_] at h2 |-;rw [aX3 (by omega) (by omega),ci3 f r _ (by omega) (fun y hy=>h1 y (by simp [hy])) (by omega)];omega
theorem aV0 (f:Gl->Nat):∀(l:List Gl) (i:Nat) (x:Gl),l[i]? = some x->((l.take i).map f).sum+f x<=(l.map f).sum
 | [],i,x,h=>by simp at h
 | g :: r,0,x,h=>by simp at h;subst h;simp
 | g :: r,i+1,x,h=>by
  simp only [g_] at h;have:=aV0 f r i x h;simp only [t_,e_,m_];omega
theorem Gl.lead_same (cs:List Int):∀(g:Gl) (u:Nat),g.clsS.length<=64->u<=cs.length ->
  if (g.idxS cs u true).2.2=true then g.leadI (cs.drop u)=((g.idxS cs u true).1,cs.drop (g.idxS cs u true).2.1)/\0<=(g.idxS cs u true).1/\(g.idxS cs u true).1<g.clsS.length else (g.leadI (cs.drop u)).1=-1:=by
 intro g;induction g using Gl.ind' with
 | h t ih =>
  intro u hl hu;have key:∀(l:List Gl) (a:List (List Gl)) (n:Int) (u:Nat),(∀x,x∈l->x∈t.goals)->u<=cs.length->(Gl.andS l a).length<=64->0<=n->n<a.length->a.length<=64 ->
    if (Gl.idxL cs l n u true).2.2=true then Gl.leadL l n (cs.drop u)=((Gl.idxL cs l n u true).1,cs.drop (Gl.idxL cs l n u true).2.1)/\0<=(Gl.idxL cs l n u true).1/\(Gl.idxL cs l n u true).1<(Gl.andS l a).length else (Gl.leadL l n (cs.drop u)).1=-1:=by
   intro l;induction l with
   | nil=>intro a n u _ hu ha h0 h1 h2;simp only [Gl.idxL,Gl.leadL,Gl.andS,if_true];exact ⟨trivial,h0,h1⟩
   | cons x r ihr =>
    intro a n u hl hu ha h0 h1 h2;have hx:=Gl.andS_parts _ _ ha x (by simp);have h:=ih x (hl x (by simp)) u hx hu;have hp:=Gl.idxS_place cs x u true hu;simp only [Gl.idxL,Gl.leadL,Gl.nI_eq hx];by_cases hok:(x.idxS cs u true).2.2=true
    ·rw [if_pos hok] at h
     obtain ⟨e,e0,e1⟩:=h;rw [e,hok];dsimp only;rw [if_neg (show ¬(x.idxS cs u true).1<0 by omega)];have hpr:=ab3 a x.clsS;have hb:n * x.clsS.length+(x.idxS cs u true).1<(a.length * x.clsS.length:Nat):=by
      have h3:(n+1) * (x.clsS.length:Int)<=(a.length:Int) * x.clsS.length:=Int.mul_le_mul_of_nonneg_right (by omega) (by omega);rw [Int.add_mul,Int.one_mul] at h3;rw [Int.natCast_mul];omega
     have hnn:0<=n * (x.clsS.length:Int):=Int.mul_nonneg h0 (by omega);have hmm:(a.length * x.clsS.length:Nat)<=64 * 64:=Nat.mul_le_mul h2 hx;rw [aX3 (n:=n * (x.clsS.length:Int)) (by omega) (by omega),aX3 (by omega) (by omega)];have ha':=ha;simp only [Gl.andS] at ha';rw [if_neg (by omega)] at ha';by_cases h5:64<(F6 a x.clsS).length
     ·rw [if_pos h5] at ha';omega
     ·rw [if_neg h5] at ha'
      have e2:Gl.andS (x :: r) a=Gl.andS r (F6 a x.clsS):=by simp only [Gl.andS];rw [if_neg (by omega),if_neg h5]
      rw [e2];exact ihr _ _ _ (fun y hy=>hl y (by simp [hy])) hp.2.1 ha' (by omega) (by rw [hpr];omega) (by omega)
    ·rw [if_neg hok] at h
     simp only [Bool.not_eq_true] at hok;have hno:∀(m:Int),¬(Gl.idxL cs r m (x.idxS cs u true).2.1 (x.idxS cs u true).2.2).2.2=true:=by
      intro m hm;have key2:∀(l:List Gl) (m:Int) (u:Nat),u<=cs.length->(Gl.idxL cs l m u false).2.2=false:=by
       intro l;induction l with
       | nil=>intro m u _;simp only [Gl.idxL]
       | cons y s ihs =>
        intro m u hu;have hp:=Gl.idxS_place cs y u false hu;simp only [Gl.idxL];have:(y.idxS cs u false).2.2=false:=by
         cases hb:(y.idxS cs u false).2.2 with
         | false=>rfl
         | true=>exact absurd (hp.2.2 hb) (by decide)
        rw [this];exact ihs _ _ hp.2.1
      rw [hok,key2 _ _ _ hp.2.1] at hm;cases hm
     rw [if_neg (hno _),if_pos (by omega)]
  rw [Gl.idxS_eq,Gl.leadI_eq];rw [Gl.clsS_eq] at hl |-;by_cases h1:t.kind=1
  ·simp [h1]
  ·simp only [if_neg h1] at hl |-
   by_cases h8:t.kind=8
   ·have h0:¬t.kind=0:=by omega
    simp only [if_neg h0,if_pos h8] at hl |-;obtain ⟨hs1,hs2⟩:=Gl.orS_parts _ _ hl;cases hc:cs[u]? with
    | none =>
     have:cs.length<=u:=by rcases B_ u cs.length with h | h;rw [a_ h] at hc;cases hc;exact h
     rw [ae_ this];simp
    | some c =>
     have hul:u<cs.length:=by
      rcases B_ u cs.length with h | h
      ·exact h
      ·rw [af_ h] at hc;cases hc
     have hd:cs.drop u=c :: cs.drop (u+1):=by
      rw [p_ hul];rw [a_ hul] at hc;simp only [Option.some.injEq] at hc;rw [hc]
     rw [hd];dsimp only;by_cases hb:0<=c/\c<=(t.goals.length:Int) - 1
     ·have hlt:c.toNat<t.goals.length:=by omega
      have hx:t.goals[c.toNat]? = some t.goals[c.toNat]:=a_ hlt;have hxm:=y_ hlt;have hnb:¬(c<0\/(t.goals.length:Int)<=c):=by omega
      simp only [if_pos hb,if_neg hnb,Gl.idxAt_eq cs _ _ _ _ _ _ hx,Gl.leadAt_eq _ _ _ _ _ hx];generalize t.goals[c.toNat]=x at hx hxm;have h:=ih x hxm (u+1) (hs1 x hxm) (by omega);have hst:=aV0 (fun x=>x.clsS.length) _ _ _ hx;have hmt:∀y,y∈t.goals.take c.toNat->y∈t.goals:=fun y hy=>List.mem_of_mem_take hy;by_cases hok:(x.idxS cs (u+1) true).2.2=true
      ·rw [if_pos hok] at h |-
       obtain ⟨e,e0,e1⟩:=h;rw [e];dsimp only;rw [if_neg (by omega)];have hfn:∀(l:List Gl) (k:Int),(∀y,y∈l->y∈t.goals)->l.foldl (fun k x=>i64 (k+x.nI)) k=l.foldl (fun k x=>i64 (k+x.clsS.length)) k:=by
        intro l;induction l with
        | nil=>intro k _;rfl
        | cons y s ihs=>intro k hm;simp only [J_];rw [Gl.nI_eq (hs1 y (hm y (by simp)))];exact ihs _ (fun z hz=>hm z (by simp [hz]))
       rw [hfn _ _ hmt,C_];rw [hs2] at hl;simp only [v_,T_] at hl hs2;rw [ci3 (fun x=>x.clsS.length) _ 0 (by omega) (fun y hy=>hs1 y (hmt y hy)) (by omega),ci3 (fun x=>x.clsS.length) _ _ e0 (fun y hy=>hs1 y (hmt y hy)) (by omega),aX3 (by omega) (by omega),hs2];refine ⟨?_,by omega,by omega⟩;rw [Int.zero_add,Int.add_comm]
      ·rw [if_neg hok] at h |-
       rw [if_pos (by omega)]
     ·have hnb:c<0\/(t.goals.length:Int)<=c:=by omega
      simp only [if_neg hb,if_pos hnb];simp
   ·simp only [if_neg h8] at hl |-
    by_cases h7:t.kind=7
    ·have h0:¬t.kind=0:=by omega
     simp only [if_neg h0,if_pos h7] at hl |-;exact key t.goals [[]] 0 u (fun x hx=>hx) hu hl (by omega) (by simp) (by simp)
    ·simp only [if_neg h7]
     simp only [if_true];refine ⟨trivial,Int.le_refl 0,?_⟩;split<;>simp
theorem Tm.mrks_at:∀(l:List Tm) (k:Int) (i:Nat) (x:Tm),l[i]? = some x->(Tm.mrks k l)[i]? = some (x.mrk (k+Tm.mcnts (l.take i)))
 | [],k,i,x,h=>by simp at h
 | t :: r,k,0,x,h=>by simp at h;subst h;simp [Tm.mrks,Tm.mcnts]
 | t :: r,k,i+1,x,h=>by
  simp only [g_] at h;simp only [Tm.mrks,g_,t_,Tm.mcnts];rw [Tm.mrks_at r _ i x h];rw [show k+(t.mcnt:Int)+(Tm.mcnts (r.take i):Int)=k+((t.mcnt+Tm.mcnts (r.take i):Nat):Int) by omega]
theorem Gl.mrks_at:∀(l:List Gl) (k:Int) (i:Nat) (x:Gl),l[i]? = some x->(Gl.mrks k l)[i]? = some (x.mrk (k+Gl.mcnts (l.take i)))
 | [],k,i,x,h=>by simp at h
 | t :: r,k,0,x,h=>by simp at h;subst h;simp [Gl.mrks,Gl.mcnts]
 | t :: r,k,i+1,x,h=>by
  simp only [g_] at h;simp only [Gl.mrks,g_,t_,Gl.mcnts];rw [Gl.mrks_at r _ i x h];rw [show k+(t.mcnt:Int)+(Gl.mcnts (r.take i):Int)=k+((t.mcnt+Gl.mcnts (r.take i):Nat):Int) by omega]
def Gl.prd:List Gl->Nat
 | []=>1
 | g :: r=>g.clsS.length * Gl.prd r
end Go.Abs
namespace Go.Proofs.YtancdeoodnpimaaGreatDoor
open Go.Abs
set_option maxRecDepth 100000
set_option maxHeartbeats 4000000
def hTT (l:List Tm):Prop:=∀k:Int,0<=k->k+Tm.mcnts l<=1000000000000->Gives Tryz.prog 40 [.sl ((Tm.mrks k l).map Tm.enc),.int .i64 k] (.d (.int .i64 (k+Tm.mcnts l)))
theorem au7 (l:List Tm) (ih:∀x,x∈l->hTT x.args):hTT l:=by
 intro k h0 h1;have hml:=Tm.mrks_len l k;have hlm:=Tm.len_mcnts l;refine aE_ Tryz.func40 ?_;refine rS_ Tryz.func40 ?_;simp only [go_sem,seval];refine AW.lp [0] (fun i:Nat=>[(5,.d (.int .i64 i)),(1,.d (.int .i64 (k+Tm.mcnts (l.take i))))]) (fun H _=>H) (fun i=>i<=l.length) (fun i=>l.length - i) 0 (H_ _) (by refine ⟨by simp [mkS],by simp [mkS],by simp [mkS,O.refsLt],?_⟩;simp [mkS,Abs.get,C.refsLtT,C.refsLt,C.refsLt1,Tm.mcnts]) ?_;intro i hi hnext;by_cases h:i<l.length
 ·have hlt:(i:Int)<(l.length:Int):=by omega
  have hxi:l[i]? = some l[i]:=a_ h;have hix:=ih l[i] (y_ _);have hat:=Tm.mrks_at l k i _ hxi;have hnxt:l.take (i+1)=l.take i++[l[i]]:=by rw [D_,a_ h];rfl
  have hcn:Tm.mcnts (l.take (i+1))=Tm.mcnts (l.take i)+l[i].mcnt:=by rw [hnxt,Tm.mcnts_app];simp [Tm.mcnts]
  have hcl:Tm.mcnts l=Tm.mcnts (l.take i)+(l[i].mcnt+Tm.mcnts (l.drop (i+1))):=by
   conv=>lhs;rw [<-A_ i l,p_ h,Tm.mcnts_app]
   simp [Tm.mcnts]
  have hmc:=Tm.mcnt_eq l[i];have hnx:=fun s'=>hnext (i+1) s' h (by omega);clear hnext;simp only [hcn] at hnx;generalize hx:l[i]=x at *;generalize hk:k+(Tm.mcnts (l.take i):Int)=kk at *;generalize hy:x.mrk kk=y at *;have e2:kk+1+1=kk+2:=by omega
  have e3:kk+1+1+1=kk+3:=by omega
  have ye:y.kind=kk/\y.int=kk+1/\y.name=T9 (kk+1+1)/\y.args=Tm.mrks (kk+1+1+1) x.args:=by
   rw [<-hy,Tm.mrk_eq,e3,e2];exact ⟨rfl,rfl,rfl,rfl⟩
  have hrec:=hix (kk+1+1+1) (by omega) (by omega);have w1:IntKind.i64.wrap (kk+1)=kk+1:=j6 (by omega) (by omega);have w2:IntKind.i64.wrap (kk+1+1)=kk+1+1:=j6 (by omega) (by omega);have w3:IntKind.i64.wrap (kk+1+1+1)=kk+1+1+1:=j6 (by omega) (by omega);refine rS_ Tryz.func40 ?_;simp only [go_sem,seval,hlt,hml,j5 hat,ye.1,ye.2.1,ye.2.2.1,ye.2.2.2,w1,w2,w3]
  repeat' (first
   | ((refine D5 (fun hq=>?_) (fun hq=>?_))<;>(try simp only [go_sem,seval,hlt,hml,j5 hat,ye.1,ye.2.1,ye.2.2.1,ye.2.2.2,w1,w2,w3,hq]))
   | (simp (disch:=omega) only [j6])
   | ((first
    | (refine hrec.calls rfl ?_)
    | (refine (M4 _ sd sd).callQ rfl ?_))<;>(try simp only [go_sem,seval,hlt,hml,j5 hat,ye.1,ye.2.1,ye.2.2.1,ye.2.2.2,w1,w2,w3]))
   | fail)
  all_goals first | (exfalso;omega) | skip
  refine hnx _ ?_;refine ⟨by simp [mkS],by simp [mkS],by simp [mkS,O.refsLt],?_⟩;simp [mkS,Abs.get,C.refsLtT,C.refsLt,C.refsLt1];omega
 ·obtain rfl:i=l.length:=by omega
  refine rS_ Tryz.func40 ?_;simp only [go_sem,seval,hml,F_]
theorem by8:∀t:Tm,hTT t.args:=by
 intro t;induction t using Tm.ind' with
 | h t ih=>exact au7 t.args ih
theorem bp3 (l:List Tm):hTT l:=au7 l (fun x _=>by8 x)
theorem bK3:∀t:Tm,wtL t.enc<=1000000000->Gives Tryz.prog 36 [.agg t.enc,.agg t.enc] (.d (.bool true)):=by
 intro t;induction t using Tm.ind' with
 | h t ih =>
  intro hw;have hmx:maxLen=9223372036854775807:=rfl;have hl:t.args.length<=1000000000:=by
   have h1:wtR (t.args.map Tm.enc)<=1000000000:=by simp only [Tm.enc_eq t,wtL,D.wt] at hw;omega
   have:=D9 (t.args.map Tm.enc) 0;simp [Y7] at this;omega
  rw [Tm.enc_eq t];refine cw0 _ _ _ _ (bX1 _ (by rw [s_];omega) (fun x hx=>?_));obtain ⟨y,hy,rfl⟩:=q_.1 hx;exact ⟨Tm.enc_len y,ih y hy (by have:=aa6 hy;omega)⟩
theorem bz6 (l:List Tm) (hw:wtR (l.map Tm.enc)<=1000000000):Gives Tryz.prog 14 [.sl (l.map Tm.enc),.sl (l.map Tm.enc)] (.d (.bool true)):=by
 have hmx:maxLen=9223372036854775807:=rfl;have hl:l.length<=1000000000:=by
  have:=D9 (l.map Tm.enc) 0;simp [Y7] at this;omega
 refine bX1 _ (by rw [s_];omega) (fun x hx=>?_);obtain ⟨y,hy,rfl⟩:=q_.1 hx;exact ⟨Tm.enc_len y,bK3 y (by have:=G7 (l.map Tm.enc) y.enc (q_.2 ⟨y,hy,rfl⟩);omega)⟩
end Go.Proofs.YtancdeoodnpimaaGreatDoor
namespace Go.Abs
def V.sub (f:Int->V):V->V
 | .var n=>f n
 | .pair a b=>.pair (a.sub f) (b.sub f)
 | v=>v
def l9 (vs:List V) (n:Int):V:=vs.getD n.toNat .nil
theorem aU3 {vs:List V} {n:Int} (h0:0<=n) (h1:n<vs.length):vs[n.toNat]? = some (l9 vs n):=by
 have h:n.toNat<vs.length:=by omega
 rw [l9,r_,a_ h];rfl
abbrev FcV:=List UInt8×List V
def FcV.fc (f:FcV):Fc:=⟨f.1,f.2.map V.tm⟩
def Gl.testV (f:Int->V) (g:Gl):Bool:=
 match g.kind,g.terms with
 | 0,_=>true
 | 2,[a,b]=>decide ((a.V.sub f).cmp (b.V.sub f)=0)
 | 3,[a,b]=>!decide ((a.V.sub f).cmp (b.V.sub f)=0)
 | 4,[a]=>decide ((a.V.sub f).kind=2)
 | 5,[a]=>decide ((a.V.sub f).kind=3)
 | 6,[a,b]=>!(b.V.sub f).has (a.V.sub f).name
 | _,_=>false
def Gl.callV (f:Int->V) (g:Gl):FcV:=(g.name,g.terms.map fun t=>t.V.sub f)
def FcV.eq (a b:FcV):Bool:=decide (O6 a.1 a.2 b.1 b.2=0)
def al5 (f:Int->V):List Gl->List (Bool×FcV)->Bool
 | [],ks=>ks.isEmpty
 | g :: r,ks=>if g.kind=10 then false else if g.kind=9 then
   (match ks with
   | []=>false
   | k :: ks=>k.1 && k.2.eq (g.callV f) && al5 f r ks)
  else g.testV f && al5 f r ks
def F5 (f:Int->V) (c:List Gl):Bool:=c.all fun g=>decide (g.kind=9) || decide (g.kind=10) || g.testV f
def C9 (f:Int->V) (c:List Gl):List FcV:=(c.filter fun g=>decide (g.kind=9)).map (Gl.callV f)
def z8 (f:Int->V) (c:List Gl):List FcV:=((c.filter fun g=>decide (g.kind=10)).filterMap fun g=>g.goals.head?).map (Gl.callV f)
def Pg.headV (p:Pg) (rel:List UInt8) (vals:List Tm):FcV:=(rel,(vals.map Tm.V).take (match p.rels[(p.find rel).toNat]? with | some r=>r.arity.toNat | none=>0))
def Pg.prfAt (p:Pg) (rel:List UInt8) (cl:Int) (vals:List Tm) (ks:List (Bool×FcV)):Bool:=
 decide (0<=p.find rel) && (match p.rels[(p.find rel).toNat]? with
  | none=>false
  | some r=>decide ((vals.length:Int)=r.arity+r.locals) && (vals.all Tm.ground && (decide (r.body.clsS.length<=64) && (decide (0<=cl) && (match r.body.clsS[cl.toNat]? with
   | none=>false
   | some c=>al5 (l9 (vals.map Tm.V)) c ks)))))
mutual
def Pg.prf (p:Pg):Pf->Bool
 | .mk rel cl vals kids=>p.prfAt rel cl vals (Pg.prfs p kids)
def Pg.prfs (p:Pg):List Pf->List (Bool×FcV)
 | []=>[]
 | k :: r=>(p.prf k,p.headV k.rel k.values) :: p.prfs r
end
theorem Pg.prf_eq (p:Pg) (t:Pf):p.prf t=p.prfAt t.rel t.clause t.values (p.prfs t.kids):=by
 cases t;simp only [Pg.prf,Pf.rel,Pf.clause,Pf.values,Pf.kids]
theorem Pg.prfs_eq (p:Pg):∀l:List Pf,p.prfs l=l.map fun k=>(p.prf k,p.headV k.rel k.values)
 | []=>rfl
 | k :: r=>by simp only [Pg.prfs,e_,Pg.prfs_eq p r]
theorem F8 {t:Tm} (h:t.ground=true):L9 t=true:=by unfold Tm.ground at h;simp only [b_] at h;exact h.1
theorem bp7 {l:List Tm} (h:l.all Tm.ground=true):l=(l.map Tm.V).map V.tm:=by
 rw [L_];conv=>lhs;rw [<-List.map_id l]
 refine List.map_congr_left fun t ht=>?_;exact Tm.V_of (F8 (l_.1 h t ht))
theorem Pf.ind' {Q:Pf->Prop} (h:∀t:Pf,(∀x,x∈t.kids->Q x)->Q t):∀t,Q t:=by
 intro t;induction t using Pf.ind with
 | h a0 a1 a2 a3 ih=>exact h _ ih
theorem Pf.wt_kids {t x:Pf} (h:x∈t.kids):wtL x.enc<wtL t.enc:=by
 have:=G7 (t.kids.map Pf.enc) x.enc (q_.2 ⟨x,h,rfl⟩);simp only [Pf.enc_eq t,wtL,D.wt];omega
mutual
def Pf.cnt:Pf->Nat
 | .mk _ _ _ ks=>1+Pf.cnts ks
def Pf.cnts:List Pf->Nat
 | []=>0
 | k :: r=>k.cnt+Pf.cnts r
end
theorem Pf.cnt_eq (t:Pf):t.cnt=1+Pf.cnts t.kids:=by cases t;simp only [Pf.cnt,Pf.kids]
theorem Pf.cnt_pos (t:Pf):1<=t.cnt:=by rw [Pf.cnt_eq];omega
mutual
def Pf.countF:Pf->Int->Int
 | .mk _ _ _ ks,most=>Pf.countL ks most 1
def Pf.countL:List Pf->Int->Int->Int
 | [],_,n=>n
 | k :: r,most,n=>if n > most then n else Pf.countL r most (n+k.countF (most - n))
end
theorem Pf.countF_eq (t:Pf) (most:Int):t.countF most=Pf.countL t.kids most 1:=by cases t;simp only [Pf.countF,Pf.kids]
theorem Pf.count_spec:∀(t:Pf) (most:Int),1<=t.countF most/\t.countF most<=t.cnt/\((t.cnt:Int)<=most->t.countF most=t.cnt)/\(most<t.cnt->most<t.countF most):=by
 intro t;induction t using Pf.ind' with
 | h t ih =>
  have key:∀(l:List Pf),(∀x,x∈l->x∈t.kids)->∀(most n:Int),n<=Pf.countL l most n/\Pf.countL l most n<=n+Pf.cnts l/\(n+(Pf.cnts l:Int)<=most->Pf.countL l most n=n+Pf.cnts l)/\(most<n+Pf.cnts l->most<Pf.countL l most n):=by
   intro l;induction l with
   | nil=>intro _ most n;simp only [Pf.countL,Pf.cnts];omega
   | cons k r ihl =>
    intro hl most n;obtain ⟨i1,i2,i3,i4⟩:=ih k (hl k (by simp)) (most - n);obtain ⟨j1,j2,j3,j4⟩:=ihl (fun x hx=>hl x (by simp [hx])) most (n+k.countF (most - n));simp only [Pf.countL,Pf.cnts];have hp:=Pf.cnt_pos k;split
    ·omega
    ·refine ⟨by omega,by omega,fun h=>?_,fun h=>?_⟩
     ·have:=i3 (by omega);rw [j3 (by omega)];omega
     ·by_cases hk:(k.cnt:Int)<=most - n
      ·have:=i3 hk;exact j4 (by omega)
      ·have:=i4 (by omega);omega
  intro most;have:=key t.kids (fun x hx=>hx) most 1;rw [Pf.countF_eq,Pf.cnt_eq];omega
theorem Pf.cnt_le_wt:∀t:Pf,t.cnt<=1+wtL t.enc:=by
 intro t;induction t using Pf.ind' with
 | h t ih =>
  have key:∀(l:List Pf),(∀x,x∈l->x∈t.kids)->Pf.cnts l<=wtR (l.map Pf.enc):=by
   intro l;induction l with
   | nil=>intro _;simp [Pf.cnts]
   | cons k r ihl =>
    intro hl;have:=ih k (hl k (by simp));have:=ihl (fun x hx=>hl x (by simp [hx]));simp only [Pf.cnts,e_,wtR];omega
  have:=key t.kids (fun x hx=>hx);rw [Pf.cnt_eq,Pf.enc_eq];simp only [wtL,D.wt];omega
def Pg.prfOk (p:Pg) (t:Pf):Bool:=X6 p && (decide (t.cnt<=200) && p.prf t)
def aB8:Nat->List V->List Bd
 | _,[]=>[]
 | k,v :: r=>⟨k,v.tm⟩ :: aB8 (k+1) r
theorem ai7:∀(l:List V) (k:Nat),(aB8 k l).length=l.length
 | [],_=>rfl
 | v :: r,k=>by simp [aB8,ai7 r (k+1)]
theorem bs5:∀(l:List V) (k i:Nat) (v:V),l[i]? = some v->(aB8 k l)[i]? = some ⟨((k+i:Nat):Int),v.tm⟩
 | [],_,_,_,h=>by simp at h
 | v :: r,k,0,w,h=>by simp at h;subst h;rfl
 | v :: r,k,i+1,w,h=>by
  simp only [g_] at h;have:=bs5 r (k+1) i w h;simp only [aB8,g_,this];rw [show k+1+i=k+(i+1) by omega]
theorem bB2 {l:List V} {k i:Nat} {b:Bd} (h:(aB8 k l)[i]? = some b):∃v,l[i]? = some v/\b=⟨((k+i:Nat):Int),v.tm⟩:=by
 have hl:i<l.length:=by rw [<-ai7 l k];exact (o_.1 h).1
 have hv:l[i]? = some l[i]:=a_ hl;rw [bs5 l k i _ hv] at h;cases h;exact ⟨_,hv,rfl⟩
theorem aN1:∀(l:List V) (k:Nat) (v:V),aB8 k (l++[v])=aB8 k l++[⟨((k+l.length:Nat):Int),v.tm⟩]
 | [],k,v=>by simp [aB8]
 | w :: r,k,v=>by simp only [j_,aB8,aN1 r (k+1) v,c_,show k+1+r.length=k+(r.length+1) by omega]
mutual
def Gl.ins (f:Int->V):Gl->Gl
 | .mk k n ts gs=>.mk k n (ts.map fun t=>(t.V.sub f).tm) (Gl.inss f gs)
def Gl.inss (f:Int->V):List Gl->List Gl
 | []=>[]
 | g :: r=>g.ins f :: Gl.inss f r
end
theorem Gl.inss_eq (f:Int->V):∀l:List Gl,Gl.inss f l=l.map (Gl.ins f)
 | []=>rfl
 | g :: r=>by simp only [Gl.inss,e_,Gl.inss_eq f r]
theorem Gl.ins_eq (f:Int->V) (g:Gl):g.ins f=.mk g.kind g.name (g.terms.map fun t=>(t.V.sub f).tm) (g.goals.map (Gl.ins f)):=by
 cases g;simp only [Gl.ins,Gl.inss_eq,Gl.kind,Gl.name,Gl.terms,Gl.goals]
theorem V.fine_vars:∀v:V,v.fine=true->∀n,n∈v.vars->0<=n/\n<=100000
 | .nil,_,n,hn=>by simp [V.vars] at hn
 | .var m,h,n,hn=>by simp [V.vars] at hn;subst hn;simpa [V.fine] using h
 | .sym _,_,n,hn=>by simp [V.vars] at hn
 | .num _,_,n,hn=>by simp [V.vars] at hn
 | .pair a b,h,n,hn=>by
  simp only [V.fine,b_] at h;simp only [V.vars,u_] at hn;rcases hn with hn | hn
  ·exact V.fine_vars a h.1 n hn
  ·exact V.fine_vars b h.2 n hn
theorem bi7 {t:Tm} (h:L9 t=true):∀n,n∈t.vars->0<=n/\n<=100000:=by
 obtain ⟨v,rfl,hv⟩:=bi8 h;rw [V.vars_tm];exact V.fine_vars v hv
theorem Gl.vars_terms {t:Gl} {x:Tm} (h:x∈t.terms):∀n,n∈x.vars->n∈t.vars:=fun n hn=>by
 rw [Gl.vars_eq,Tm.varss_eq];exact List.mem_append_left _ (x_.2 ⟨x,h,hn⟩)
theorem Gl.vars_goals {t x:Gl} (h:x∈t.goals):∀n,n∈x.vars->n∈t.vars:=fun n hn=>by
 rw [Gl.vars_eq,Gl.varss_eq];exact List.mem_append_right _ (x_.2 ⟨x,h,hn⟩)
theorem Gl.vars_sub {t:Gl}:∀x,x∈t.subs->∀n,n∈x.vars->n∈t.vars:=
 Gl.subs_ind (Q:=fun y=>∀n,n∈y.vars->n∈t.vars) (fun y h x hx n hn=>h n (Gl.vars_goals hx n hn)) t (fun _ h=>h)
def Gl.inst (m:Nat) (g:Gl):Prop:=g.shape=true/\∀n,n∈g.vars->0<=n/\n<m
theorem Gl.inst_terms {m:Nat} {g:Gl} (h:g.inst m):∀t,t∈g.terms->t.enc=t.V.enc/\∀n,n∈t.V.vars->0<=n/\n<m:=fun t ht=>by
 have hok:=Gl.shape_terms h.1 t ht;refine ⟨Tm.enc_V hok,fun n hn=>?_⟩;rw [<-Tm.vars_V hok] at hn;exact h.2 n (Gl.vars_terms ht n hn)
theorem Gl.inst_goals {m:Nat} {g:Gl} (h:g.inst m):∀x,x∈g.goals->x.inst m:=fun x hx=>by
 have hs:=h.1;rw [Gl.shape_eq] at hs;simp only [b_,l_] at hs;exact ⟨hs.2 x hx,fun n hn=>h.2 n (Gl.vars_goals hx n hn)⟩
theorem Gl.inst_sub {m:Nat} {g:Gl} (h:g.inst m):∀x,x∈g.subs->x.inst m:=fun x hx=>⟨Gl.shape_sub h.1 x hx,fun n hn=>h.2 n (Gl.vars_sub x hx n hn)⟩
theorem Gl.vars_nonneg {g:Gl} (h:g.shape=true):∀n,n∈g.vars->0<=n:=fun n hn=>by
 rw [Gl.vars_subs] at hn;obtain ⟨x,hx,hn⟩:=x_.1 hn;rw [Tm.varss_eq] at hn;obtain ⟨t,ht,hn⟩:=x_.1 hn;exact (bi7 (Gl.shape_terms (Gl.shape_sub h x hx) t ht) n hn).1
theorem Pg.body_inst {p:Pg} (h:X6 p=true) {r:Rl} (hr:r∈p.rels) {m:Nat} (hm:(m:Int)=r.arity+r.locals):r.body.inst m/\0<=r.arity/\0<=r.locals/\r.arity<=4/\r.locals<=8/\r.body.cnt<=60:=by
 unfold X6 at h;simp only [b_] at h;obtain ⟨i,hi⟩:=ak3 h.2 r hr;unfold Pg.relOk at hi;simp only [b_,decide_eq_true_eq] at hi;obtain ⟨⟨⟨⟨⟨⟨⟨_,_⟩,ha⟩,hl⟩,hc⟩,hs⟩,hv⟩,_⟩:=hi;unfold Gl.varsLt at hv;simp only [l_,decide_eq_true_eq] at hv;exact ⟨⟨hs,fun n hn=>⟨Gl.vars_nonneg hs n hn,by have:=hv n hn;omega⟩⟩,ha.1,hl.1,ha.2,hl.2,hc⟩
theorem Gl.shape_cases {g:Gl} (h:g.shape=true) :
  ((g.kind=0\/g.kind=1)/\g.terms=[])\/((g.kind=2\/g.kind=3\/g.kind=6)/\∃a b,g.terms=[a,b]/\L9 a=true/\L9 b=true)\/((g.kind=4\/g.kind=5)/\∃a,g.terms=[a]/\L9 a=true)\/7<=g.kind:=by
 have ht:=Gl.shape_terms h;have hs:=h;rw [Gl.shape_eq] at hs;simp only [b_] at hs;have hf:=Gl.form_inv hs.1.1;by_cases h7:7<=g.kind
 ·exact .inr (.inr (.inr h7))
 have h0:(g.kind=0\/g.kind=1)->(g.terms.length:Int)=0:=fun hk=>by
  have e:r9 g.kind=0:=by rcases hk with hk | hk<;>rw [hk]<;>rfl
  rw [e] at hf;omega
 have h2:(g.kind=2\/g.kind=3\/g.kind=6)->(g.terms.length:Int)=2:=fun hk=>by
  have e:r9 g.kind=2:=by rcases hk with hk | hk | hk<;>rw [hk]<;>rfl
  rw [e] at hf;omega
 have h1:(g.kind=4\/g.kind=5)->(g.terms.length:Int)=1:=fun hk=>by
  have e:r9 g.kind=1:=by rcases hk with hk | hk<;>rw [hk]<;>rfl
  rw [e] at hf;omega
 by_cases c0:g.kind=0\/g.kind=1
 ·exact .inl ⟨c0,U_ (by have:=h0 c0;omega)⟩
 ·by_cases c1:g.kind=4\/g.kind=5
  ·obtain ⟨a,e⟩:=aQ4 (h1 c1)
   exact .inr (.inr (.inl ⟨c1,a,e,ht a (by simp [e])⟩))
  ·have c2:g.kind=2\/g.kind=3\/g.kind=6:=by omega
   obtain ⟨a,b,e⟩:=bn4 (h2 c2);exact .inr (.inl ⟨c2,a,b,e,ht a (by simp [e]),ht b (by simp [e])⟩)
theorem Gl.shape_len {g:Gl} (h:g.shape=true):g.terms.length<=4/\g.goals.length<=8:=by
 have hs:=h;rw [Gl.shape_eq] at hs;simp only [b_] at hs;have hf:=Gl.form_inv hs.1.1;have:=al7 g.kind;omega
theorem Gl.shape_not {g:Gl} (h:g.shape=true) (hk:g.kind=10):∃x,g.goals=[x]:=by
 have hs:=h;rw [Gl.shape_eq] at hs;simp only [b_] at hs;have hf:=Gl.form_inv hs.1.1;exact aQ4 (by omega)
theorem bs4:∀(l:List V) (k:Nat),(aB8 k l).map Bd.to=l.map V.tm
 | [],_=>rfl
 | v :: r,k=>by simp [aB8,bs4 r (k+1)]
def V5 (f:Int->V) (g:Gl):Bool:=decide (g.kind=9) || decide (g.kind=10) || g.testV f
def aB4 (f:Int->V) (c:List Gl):List Gl:=c.takeWhile (V5 f)
theorem aS9 {f:Int->V} {d s:List Gl} {g:Gl} (hd:d.all (V5 f)=true) (hg:V5 f g=false):aB4 f (d++g :: s)=d/\F5 f (d++g :: s)=false:=by
 constructor
 ·unfold aB4
  rw [W_ (fun x hx=>l_.1 hd x hx),List.takeWhile_cons_of_neg (by rw [hg];simp),K_]
 ·unfold F5
  rw [List.all_append,N_];have:(decide (g.kind=9) || decide (g.kind=10) || g.testV f)=false:=hg;rw [this];simp
theorem aB3 {f:Int->V} {d:List Gl} (hd:d.all (V5 f)=true):aB4 f d=d/\F5 f d=true:=by
 refine ⟨?_,hd⟩;have:=W_ (p:=V5 f) (l₁:=d) (l₂:=[]) (fun x hx=>l_.1 hd x hx);simpa [aB4] using this
theorem aw5 (f:Int->V) (d:List Gl) (g:Gl):C9 f (d++[g])=C9 f d++(if g.kind=9 then [g.callV f] else []):=by
 unfold C9;by_cases h:g.kind=9<;>simp [h]
theorem aw6 (f:Int->V) (d:List Gl) (g:Gl):z8 f (d++[g])=z8 f d++(if g.kind=10 then (g.goals.head?.toList.map (Gl.callV f)) else []):=by
 unfold z8;by_cases h:g.kind=10
 ·cases hh:g.goals.head?<;>simp [h,hh]
 ·simp [h]
def bQ4 (r:Rl) (i:Int) (vs:List V) (d:List Gl):Ru:=⟨⟨r.name,(vs.map V.tm).take r.arity.toNat⟩,i,vs.map V.tm,(C9 (l9 vs) d).map FcV.fc,(z8 (l9 vs) d).map FcV.fc⟩
theorem al4 (f:Int->V) (d:List Gl):(C9 f d).length<=d.length:=by unfold C9;rw [s_];exact Q_ _ _
theorem aB5 (f:Int->V) (d:List Gl):(z8 f d).length<=d.length:=by
 unfold z8;rw [s_];exact Nat.le_trans (List.length_filterMap_le _ _) (Q_ _ _)
mutual
def Pf.mcnt:Pf->Nat
 | .mk _ _ ts gs=>2+Tm.mcnts ts+Pf.mcnts gs
def Pf.mcnts:List Pf->Nat
 | []=>0
 | t :: r=>Pf.mcnt t+Pf.mcnts r
end
theorem Pf.mcnt_eq (t:Pf):t.mcnt=2+Tm.mcnts t.values+Pf.mcnts t.kids:=by cases t;simp only [Pf.mcnt,Pf.values,Pf.kids]
mutual
def Pf.mrk (k:Int):Pf->Pf
 | .mk _ _ ts gs=>.mk (T9 k) (k+1) (Tm.mrks (k+2) ts) (Pf.mrks (k+2+Tm.mcnts ts) gs)
def Pf.mrks (k:Int):List Pf->List Pf
 | []=>[]
 | t :: r=>Pf.mrk k t :: Pf.mrks (k+t.mcnt) r
end
theorem Pf.mrk_eq (k:Int) (t:Pf):t.mrk k=.mk (T9 k) (k+1) (Tm.mrks (k+2) t.values) (Pf.mrks (k+2+Tm.mcnts t.values) t.kids):=by cases t;simp only [Pf.mrk,Pf.values,Pf.kids]
theorem Pf.mrks_len:∀(l:List Pf) (k:Int),(Pf.mrks k l).length=l.length
 | [],_=>rfl
 | t :: r,k=>by simp [Pf.mrks,Pf.mrks_len r]
theorem Pf.mrks_app:∀(a b:List Pf) (k:Int),Pf.mrks k (a++b)=Pf.mrks k a++Pf.mrks (k+Pf.mcnts a) b
 | [],b,k=>by simp [Pf.mrks,Pf.mcnts]
 | t :: a,b,k=>by
  simp only [j_,Pf.mrks,Pf.mcnts,Pf.mrks_app a b];rw [show k+(t.mcnt:Int)+(Pf.mcnts a:Int)=k+((t.mcnt+Pf.mcnts a:Nat):Int) by omega]
theorem Pf.mcnts_app:∀(a b:List Pf),Pf.mcnts (a++b)=Pf.mcnts a+Pf.mcnts b
 | [],b=>by simp [Pf.mcnts]
 | t :: a,b=>by simp only [j_,Pf.mcnts,Pf.mcnts_app a b];omega
theorem Pf.len_mcnts:∀l:List Pf,l.length<=Pf.mcnts l
 | []=>by simp
 | t :: r=>by have:=Pf.len_mcnts r;have:=Pf.mcnt_eq t;simp only [Pf.mcnts,c_];omega
theorem Pf.mcnt_wt:∀t:Pf,t.mcnt<=3+3 * wtL t.enc:=by
 intro t;induction t using Pf.ind' with
 | h t ih =>
  have key:∀(l:List Pf),(∀x,x∈l->x∈t.kids)->Pf.mcnts l<=3 * wtR (l.map Pf.enc):=by
   intro l;induction l with
   | nil=>intro _;simp [Pf.mcnts]
   | cons x r ihr =>
    intro hl;have h1:=ih x (hl x (by simp));have h2:=ihr (fun x hx=>hl x (by simp [hx]));simp only [Pf.mcnts,e_,wtR];omega
  have h1:=key t.kids (fun x hx=>hx);have h2:=Tm.mcnts_wt t.values;rw [Pf.mcnt_eq];simp only [Pf.enc_eq t,wtL,D.wt];omega
theorem Pf.mcnts_wt:∀l:List Pf,Pf.mcnts l<=3 * wtR (l.map Pf.enc)
 | []=>by simp [Pf.mcnts]
 | t :: r=>by
  have h1:=Pf.mcnts_wt r;have h2:=Pf.mcnt_wt t;simp only [Pf.mcnts,e_,wtR];omega
end Go.Abs
namespace Go.Proofs.YtancdeoodnpimaaGreatDoor
open Go.Abs
set_option maxRecDepth 100000
set_option maxHeartbeats 4000000
theorem ab7 (k:Int):Gives Tryz.prog 39 [.sl [],.int .i64 k] (.d (.int .i64 k)):=by
 have z0:((0:Nat):Int)=0:=rfl;refine aE_ Tryz.func39 ?_;refine rS_ Tryz.func39 ?_;simp only [go_sem,seval]
 repeat' (first
  | ((refine AW.loop ?_<;>(refine rS_ Tryz.func39 ?_))<;>(try simp only [go_sem,seval,z0]))
  | fail)
 all_goals (exfalso;simp at *)
def mPT (l:List Pf):Prop:=∀(k:Int) (q e:Nat) (B:Nat->Prop),0<=k->k+Pf.mcnts l<=1000000000000 ->
 ACalls Tryz.prog 39 [.own 0 q,.d (.int .i64 k)] [.tree q 4 e (l.map Pf.enc) B none] fun c H'=>c=.d (.int .i64 (k+Pf.mcnts l))/\∃B',H'=[.tree q 4 e ((Pf.mrks k l).map Pf.enc) B' none]
theorem am4 (l:List Pf) (ih:∀x,x∈l->mPT x.kids):mPT l:=by
 intro k q e B h0 h1;have hlm:=Pf.len_mcnts l;refine aE_ Tryz.func39 ?_;refine rS_ Tryz.func39 ?_;simp only [go_sem,seval];refine AW.lp [0] (fun p:Nat×(Nat->Prop)=>[(5,.d (.int .i64 p.1)),(1,.d (.int .i64 (k+Pf.mcnts (l.take p.1))))]) (fun _ p=>[.tree q 4 e ((Pf.mrks k (l.take p.1)++l.drop p.1).map Pf.enc) p.2 none]) (fun p=>p.1<=l.length) (fun p=>l.length - p.1) (0,B) (H_ _) (by refine ⟨by simp [mkS],by simp [mkS,Pf.mrks],by simp [mkS,O.refsLt],?_⟩;simp [mkS,Abs.get,C.refsLtT,C.refsLt,C.refsLt1,Pf.mcnts]) ?_;rintro ⟨i,B1⟩ hi hnext;dsimp only at hi hnext |-;by_cases h:i<l.length
 ·have hlt:(i:Int)<(l.length:Int):=by omega
  have hd:l.drop i=l[i] :: l.drop (i+1):=p_ h;have hll:((Pf.mrks k (l.take i)).map Pf.enc++l[i].enc :: (l.drop (i+1)).map Pf.enc).length=l.length:=by simp [Pf.mrks_len];omega
  have hai:((Pf.mrks k (l.take i)).map Pf.enc).length=i:=by simp [Pf.mrks_len];omega
  have hnxt:l.take (i+1)=l.take i++[l[i]]:=by rw [D_,a_ h];rfl
  have hcn:Pf.mcnts (l.take (i+1))=Pf.mcnts (l.take i)+l[i].mcnt:=by rw [hnxt,Pf.mcnts_app];simp [Pf.mcnts]
  have hcl:Pf.mcnts l=Pf.mcnts (l.take i)+(l[i].mcnt+Pf.mcnts (l.drop (i+1))):=by
   conv=>lhs;rw [<-A_ i l,hd,Pf.mcnts_app]
   simp [Pf.mcnts]
  have hix:=ih l[i] (y_ _);have hmr:Pf.mrks k (l.take (i+1))=Pf.mrks k (l.take i)++[l[i].mrk (k+Pf.mcnts (l.take i))]:=by rw [hnxt,Pf.mrks_app];simp [Pf.mrks]
  have hmc:=Pf.mcnt_eq l[i];rw [hd,I_,e_];have hnx:=fun B' s'=>hnext (i+1,B') s' h (by dsimp only;omega);clear hnext;simp only [hmr,hcn,I_,e_,E_,Pf.mrk_eq] at hnx;generalize hx:l[i]=x at *;generalize hA:(Pf.mrks k (l.take i)).map Pf.enc=A at *;generalize hZ:(l.drop (i+1)).map Pf.enc=Z at *;generalize hk:k+(Pf.mcnts (l.take i):Int)=kk at *;have s1:=fun (y:List D)=>N8 (x:=x.enc) (y:=y) (r:=Z) hai;have s2:=fun (y y':List D)=>N8 (x:=y) (y:=y') (r:=Z) hai;have g1:=fun (y:List D)=>ap7 (x:=y) (r:=Z) hai;have xe:=Pf.enc_eq x;rw [xe] at hll |-;have zk4:∀zk:Nat,x.kids.map Pf.enc≠[]->(∀j,j∈x.kids->4=zk)->zk=4:=fun zk hne hz=>by
   cases ha:x.kids with
   | nil=>simp [ha] at hne
   | cons a r=>exact (hz a (by simp [ha])).symm
  have hrow:∀ts ks,(Pf.mk (T9 kk) (kk+1) ts ks).enc=[.str (T9 kk),.int .i64 (kk+1),.sl (ts.map Tm.enc),.sl (ks.map Pf.enc)]:=fun ts ks=>by
   rw [Pf.enc_eq];rfl
  have zt4:∀zk:Nat,x.values.map Tm.enc≠[]->(∀j,j∈x.values->4=zk)->zk=4:=fun zk hne hz=>by
   cases ha:x.values with
   | nil=>simp [ha] at hne
   | cons a r=>exact (hz a (by simp [ha])).symm
  simp only [hrow,z_,j_,C_] at hnx;have g2:=fun (y:List D) (Q:List D->Prop)=>j5 (g1 y) Q;refine l7 Tryz.func39 mixed 17 _ _ (by kernel_rfl) ?_;simp only [go_sem,seval,run.eq_1,hlt,hll,s2,g1,g2]
  repeat' (first
   | (refine H6 (fun hk0=>?_) (fun hk1 zk e' B2 B3 hzk=>?_)<;>(try simp only [go_sem,seval,hlt,hll,s2,g1,g2,run.eq_1]))
   | (simp (disch:=omega) only [j6])
   | ((first
    | (refine E9 (fun Bz=>?_))
    | (refine (Q8 _).calls rfl ?_)
    | (refine (M4 _ sd sd).calls rfl ?_)
    | (refine ⟨sd,?_⟩))<;>(try simp only [go_sem,seval,hlt,hll,s2,g1,g2,run.eq_1]))
   | fail)
  ·have ha:x.values=[]:=by simpa using hk0
   have hm0:Tm.mcnts x.values=0:=by rw [ha];rfl
   have e1:kk+1+1=kk+2+((0:Nat):Int):=by omega
   rw [ha] at hnx |-;refine rS_ Tryz.func39 ?_;simp only [go_sem,seval,hlt,hll,s2,g1,g2]
   repeat' (first
    | (refine H6 (fun hk0=>?_) (fun hk1 zk e' B2 B3 hzk=>?_)<;>(try simp only [go_sem,seval,hlt,hll,s2,g1,g2]))
    | (simp (disch:=omega) only [j6])
    | ((first
     | (refine (ab7 _).calls rfl ?_)
     | (refine ⟨sd,?_⟩))<;>(try simp only [go_sem,seval,hlt,hll,s2,g1,g2]))
    | fail)
   ·have hb:x.kids=[]:=by simpa using hk0
    have hn0:Pf.mcnts x.kids=0:=by rw [hb];rfl
    rw [hb] at hnx |-;refine hnx Bz _ ?_;refine ⟨by simp [mkS],by simp [mkS,Pf.mrks,Tm.mrks,Tm.mcnts,show kk+1+1=kk+2 by omega],by simp [mkS,O.refsLt],?_⟩;simp [mkS,Abs.get,C.refsLtT,C.refsLt,C.refsLt1];omega
   ·obtain rfl:=zk4 zk hk1 hzk
    refine (hix (kk+1+1) 0 e' B3 (by omega) (by omega)).at1 rfl 1 rfl rfl ?_;rintro c o' ⟨rfl,B4,ho⟩;cases ho;refine ⟨rfl,rfl,?_⟩;simp only [go_sem,seval,C.at1];try simp (disch:=omega) only [j6]
    try simp only [go_sem,seval,C.at1]
    refine AW.rejoin 0 1 rfl rfl (by decide) (fun B5=>?_);simp only [go_sem,seval,g1,s2];refine hnx B5 _ ?_;refine ⟨by simp [mkS],by simp [mkS,Pf.mrks,Tm.mrks,Tm.mcnts,show kk+1+1=kk+2 by omega],by simp [mkS,O.refsLt],?_⟩;simp [mkS,Abs.get,C.refsLtT,C.refsLt,C.refsLt1];omega
  ·obtain rfl:=zt4 zk hk1 hzk
   have e1:kk+1+1+(Tm.mcnts x.values:Int)=kk+2+(Tm.mcnts x.values:Int):=by omega
   have e2:kk+1+1=kk+2:=by omega
   refine (ak6 x.values (kk+1+1) 0 e' B3 (by omega) (by omega)).at1 rfl 1 rfl rfl ?_;rintro c o' ⟨rfl,B4,ho⟩;cases ho;refine ⟨rfl,rfl,?_⟩;simp only [go_sem,seval,C.at1,run.eq_1];refine AW.rejoin 0 1 rfl rfl (by decide) (fun B5=>?_);simp only [go_sem,seval,g1,s2];refine rS_ Tryz.func39 ?_;simp only [go_sem,seval,hlt,hll,s2,g1,g2]
   repeat' (first
    | (refine H6 (fun hk0=>?_) (fun hk1 zk e' B2 B3 hzk=>?_)<;>(try simp only [go_sem,seval,hlt,hll,s2,g1,g2]))
    | (simp (disch:=omega) only [j6])
    | ((first
     | (refine (ab7 _).calls rfl ?_)
     | (refine ⟨sd,?_⟩))<;>(try simp only [go_sem,seval,hlt,hll,s2,g1,g2]))
    | fail)
   ·have hb:x.kids=[]:=by simpa using hk0
    have hn0:Pf.mcnts x.kids=0:=by rw [hb];rfl
    rw [hb] at hnx |-;refine hnx B5 _ ?_;refine ⟨by simp [mkS],by simp [mkS,Pf.mrks,Tm.mrks,e2],by simp [mkS,O.refsLt],?_⟩;simp [mkS,Abs.get,C.refsLtT,C.refsLt,C.refsLt1];omega
   ·obtain rfl:=zk4 zk hk1 hzk
    refine (hix (kk+1+1+(Tm.mcnts x.values:Int)) 0 e' B3 (by omega) (by omega)).at1 rfl 2 rfl rfl ?_;rintro c o' ⟨rfl,B4,ho⟩;cases ho;refine ⟨rfl,rfl,?_⟩;simp only [go_sem,seval,C.at1];try simp (disch:=omega) only [j6]
    try simp only [go_sem,seval,C.at1]
    refine AW.rejoin 0 2 rfl rfl (by decide) (fun B5=>?_);simp only [go_sem,seval,g1,s2];refine hnx B5 _ ?_;refine ⟨by simp [mkS],by simp [mkS,Pf.mrks,Tm.mrks,e2],by simp [mkS,O.refsLt],?_⟩;simp [mkS,Abs.get,C.refsLtT,C.refsLt,C.refsLt1];omega
 ·obtain rfl:i=l.length:=by omega
  refine rS_ Tryz.func39 ?_;simp only [go_sem,seval,Pf.mrks_len,F_,List.drop_length]
  repeat' (first
   | (exact ⟨_,rfl⟩)
   | fail)
theorem bx6:∀t:Pf,mPT t.kids:=by
 intro t;induction t using Pf.ind' with
 | h t ih=>exact am4 t.kids ih
theorem bI0 (l:List Pf):mPT l:=am4 l (fun x _=>bx6 x)
theorem aQ0 (t:Pf) (k:Int) (q q' e e':Nat) (B B':Nat->Prop) (h0:0<=k) (h1:k+t.mcnt<=1000000000000) :
  ACalls Tryz.prog 19 [.agg [.d (.str t.rel),.d (.int .i64 t.clause),.own 0 q,.own 1 q'],.d (.int .i64 k)] [.tree q 4 e (t.values.map Tm.enc) B none,.tree q' 4 e' (t.kids.map Pf.enc) B' none]
   (fun c H'=>c=.d (.int .i64 (k+Tm.mcnts t.values+Pf.mcnts t.kids))/\∃B1 B2,H'=[.tree q 4 e ((Tm.mrks k t.values).map Tm.enc) B1 none,.tree q' 4 e' ((Pf.mrks (k+Tm.mcnts t.values) t.kids).map Pf.enc) B2 none]):=by
 have hmc:=Pf.mcnt_eq t;refine aE_ Tryz.func19 ?_;refine rS_ Tryz.func19 ?_;simp only [go_sem,seval]
 repeat' (first
  | (exact ⟨_,_,rfl⟩)
  | ((first
   | (refine (ak6 t.values k q e B (by omega) (by omega)).at1 rfl 0 rfl rfl ?_<;>(rintro c o' ⟨rfl,B4,ho⟩;cases ho;refine ⟨rfl,rfl,?_⟩))
   | (refine (bI0 t.kids (k+Tm.mcnts t.values) q' e' B' (by omega) (by omega)).at1 rfl 1 rfl rfl ?_<;>(rintro c o' ⟨rfl,B4,ho⟩;cases ho;refine ⟨rfl,rfl,?_⟩)))<;>(try simp only [go_sem,seval,C.at1]))
  | fail)
theorem Pf.mrks_at:∀(l:List Pf) (k:Int) (i:Nat) (x:Pf),l[i]? = some x->(Pf.mrks k l)[i]? = some (x.mrk (k+Pf.mcnts (l.take i)))
 | [],k,i,x,h=>by simp at h
 | t :: r,k,0,x,h=>by simp at h;subst h;simp [Pf.mrks,Pf.mcnts]
 | t :: r,k,i+1,x,h=>by
  simp only [g_] at h;simp only [Pf.mrks,g_,t_,Pf.mcnts];rw [Pf.mrks_at r _ i x h];rw [show k+(t.mcnt:Int)+(Pf.mcnts (r.take i):Int)=k+((t.mcnt+Pf.mcnts (r.take i):Nat):Int) by omega]
def hPT (l:List Pf):Prop:=∀k:Int,0<=k->k+Pf.mcnts l<=1000000000000->Gives Tryz.prog 41 [.sl ((Pf.mrks k l).map Pf.enc),.int .i64 k] (.d (.int .i64 (k+Pf.mcnts l)))
theorem an2 (l:List Pf) (ih:∀x,x∈l->hPT x.kids):hPT l:=by
 intro k h0 h1;have hml:=Pf.mrks_len l k;have hlm:=Pf.len_mcnts l;refine aE_ Tryz.func41 ?_;refine rS_ Tryz.func41 ?_;simp only [go_sem,seval];refine AW.lp [0] (fun i:Nat=>[(5,.d (.int .i64 i)),(1,.d (.int .i64 (k+Pf.mcnts (l.take i))))]) (fun H _=>H) (fun i=>i<=l.length) (fun i=>l.length - i) 0 (H_ _) (by refine ⟨by simp [mkS],by simp [mkS],by simp [mkS,O.refsLt],?_⟩;simp [mkS,Abs.get,C.refsLtT,C.refsLt,C.refsLt1,Pf.mcnts]) ?_;intro i hi hnext;by_cases h:i<l.length
 ·have hlt:(i:Int)<l.length:=by omega
  have hxi:l[i]? = some l[i]:=a_ h;have hix:=ih l[i] (y_ _);have hat:=Pf.mrks_at l k i _ hxi;have hnxt:l.take (i+1)=l.take i++[l[i]]:=by rw [D_,a_ h];rfl
  have hcn:Pf.mcnts (l.take (i+1))=Pf.mcnts (l.take i)+l[i].mcnt:=by rw [hnxt,Pf.mcnts_app];simp [Pf.mcnts]
  have hcl:Pf.mcnts l=Pf.mcnts (l.take i)+(l[i].mcnt+Pf.mcnts (l.drop (i+1))):=by
   conv=>lhs;rw [<-A_ i l,p_ h,Pf.mcnts_app]
   simp [Pf.mcnts]
  have hmc:=Pf.mcnt_eq l[i];have hnx:=fun s'=>hnext (i+1) s' h (by omega);clear hnext;simp only [hcn] at hnx;generalize hx:l[i]=x at *;generalize hk:k+(Pf.mcnts (l.take i):Int)=kk at *;generalize hy:x.mrk kk=y at *;have e2:kk+1+1=kk+2:=by omega
  have ye:y.rel=T9 kk/\y.clause=kk+1/\y.values=Tm.mrks (kk+1+1) x.values/\y.kids=Pf.mrks (kk+1+1+Tm.mcnts x.values) x.kids:=by
   rw [<-hy,Pf.mrk_eq,e2];exact ⟨rfl,rfl,rfl,rfl⟩
  have htv:=bp3 x.values (kk+1+1) (by omega) (by omega);have hrec:=hix (kk+1+1+Tm.mcnts x.values) (by omega) (by omega);have w1:IntKind.i64.wrap (kk+1)=kk+1:=j6 (by omega) (by omega);have w2:IntKind.i64.wrap (kk+1+1)=kk+1+1:=j6 (by omega) (by omega);refine rS_ Tryz.func41 ?_;simp only [go_sem,seval,hlt,hml,j5 hat,ye.1,ye.2.1,ye.2.2.1,ye.2.2.2,w1,w2]
  repeat' (first
   | ((refine D5 (fun hq=>?_) (fun hq=>?_))<;>(try simp only [go_sem,seval,hlt,hml,j5 hat,ye.1,ye.2.1,ye.2.2.1,ye.2.2.2,w1,w2,hq]))
   | (simp (disch:=omega) only [j6])
   | ((first
    | (refine htv.calls rfl ?_)
    | (refine hrec.calls rfl ?_)
    | (refine (M4 _ sd sd).callQ rfl ?_))<;>(try simp only [go_sem,seval,hlt,hml,j5 hat,ye.1,ye.2.1,ye.2.2.1,ye.2.2.2,w1,w2]))
   | fail)
  all_goals first | (exfalso;omega) | skip
  refine hnx _ ?_;refine ⟨by simp [mkS],by simp [mkS],by simp [mkS,O.refsLt],?_⟩;simp [mkS,Abs.get,C.refsLtT,C.refsLt,C.refsLt1];omega
 ·obtain rfl:i=l.length:=by omega
  refine rS_ Tryz.func41 ?_;simp only [go_sem,seval,hml,F_]
theorem by9:∀t:Pf,hPT t.kids:=by
 intro t;induction t using Pf.ind' with
 | h t ih=>exact an2 t.kids ih
theorem bJ3 (l:List Pf):hPT l:=an2 l (fun x _=>by9 x)
theorem au8 (t:Pf) (k:Int) (h0:0<=k) (h1:k+t.mcnt<=1000000000000):Gives Tryz.prog 20 [.agg [.str t.rel,.int .i64 t.clause,.sl ((Tm.mrks k t.values).map Tm.enc),.sl ((Pf.mrks (k+Tm.mcnts t.values) t.kids).map Pf.enc)],.int .i64 k] (.d (.int .i64 (k+Tm.mcnts t.values+Pf.mcnts t.kids))):=by
 have hmc:=Pf.mcnt_eq t;have htv:=bp3 t.values k (by omega) (by omega);have hpk:=bJ3 t.kids (k+Tm.mcnts t.values) (by omega) (by omega);refine aE_ Tryz.func20 ?_;refine rS_ Tryz.func20 ?_;simp only [go_sem,seval]
 repeat' (first
  | ((refine D5 (fun hq=>?_) (fun hq=>?_))<;>(try simp only [go_sem,seval,hq]))
  | ((first
   | (refine htv.calls rfl ?_)
   | (refine hpk.calls rfl ?_))<;>(try simp only [go_sem,seval]))
  | fail)
 all_goals first | (exfalso;omega) | skip
theorem bq9:∀t:Pf,wtL t.enc<=1000000000->Gives Tryz.prog 12 [.agg t.enc,.agg t.enc] (.d (.bool true)):=by
 intro t;induction t using Pf.ind' with
 | h t ih =>
  intro hw;have hmx:maxLen=9223372036854775807:=rfl;have hwv:wtR (t.values.map Tm.enc)<=1000000000:=by
   simp only [Pf.enc_eq t,wtL,D.wt] at hw;omega
  have hl:t.kids.length<=1000000000:=by
   have h1:wtR (t.kids.map Pf.enc)<=1000000000:=by simp only [Pf.enc_eq t,wtL,D.wt] at hw;omega
   have:=D9 (t.kids.map Pf.enc) 0;simp [Y7] at this;omega
  rw [Pf.enc_eq t];refine cV2 _ _ _ _ (bz6 t.values hwv) (cU9 _ (by rw [s_];omega) (fun x hx=>?_));obtain ⟨y,hy,rfl⟩:=q_.1 hx;exact ⟨Pf.enc_len y,ih y hy (by have:=Pf.wt_kids hy;omega)⟩
end Go.Proofs.YtancdeoodnpimaaGreatDoor
namespace Go.Abs
mutual
def Gl.cn:Gl->Nat->List (List UInt8)
 | .mk k n _ gs,i=>if k=8 then Gl.cnOr gs i else if k=7 then Gl.cnAnd gs i else if k=9 then [n] else []
def Gl.cnOr:List Gl->Nat->List (List UInt8)
 | [],_=>[]
 | g :: r,i=>if i<g.clsS.length then Gl.cn g i else Gl.cnOr r (i - g.clsS.length)
def Gl.cnAnd:List Gl->Nat->List (List UInt8)
 | [],_=>[]
 | g :: r,i=>Gl.cn g (i / Gl.prd r % g.clsS.length)++Gl.cnAnd r i
end
theorem Gl.cn_eq (g:Gl) (i:Nat):g.cn i=if g.kind=8 then Gl.cnOr g.goals i else if g.kind=7 then Gl.cnAnd g.goals i else if g.kind=9 then [g.name] else []:=by
 cases g;simp only [Gl.cn,Gl.kind,Gl.goals,Gl.name];rfl
def R7 (c:List Gl):List (List UInt8):=(c.filter fun g=>decide (g.kind=9)).map Gl.name
theorem FcV.eq_rel {a b:FcV} (h:a.eq b=true):a.1=b.1:=by
 simp only [FcV.eq,decide_eq_true_eq] at h;unfold O6 at h;split at h
 ·split at h<;>omega
 ·rename_i hh;exact Decidable.not_not.1 hh
theorem bg1 (a b:List Gl):R7 (a++b)=R7 a++R7 b:=by simp [R7,List.filter_append]
theorem ac4 {f:Int->V}:∀{c:List Gl} {ks:List (Bool×FcV)},al5 f c ks=true->(ks.map fun k=>k.2.1)=R7 c/\∀k,k∈ks->k.1=true
 | [],ks,h=>by
  simp only [al5,List.isEmpty_iff] at h;subst h;simp [R7]
 | g :: r,ks,h=>by
  simp only [al5] at h;by_cases h10:g.kind=10
  ·rw [if_pos h10] at h;cases h
  ·rw [if_neg h10] at h
   by_cases h9:g.kind=9
   ·rw [if_pos h9] at h
    cases ks with
    | nil=>cases h
    | cons k ks =>
     simp only [b_] at h;obtain ⟨i1,i2⟩:=ac4 h.2;refine ⟨by rw [e_,i1,FcV.eq_rel h.1.2];simp [R7,h9,Gl.callV],fun x hx=>?_⟩;rcases d_.1 hx with rfl | hx
     ·exact h.1.1
     ·exact i2 x hx
   ·rw [if_neg h9] at h
    simp only [b_] at h;obtain ⟨i1,i2⟩:=ac4 h.2;exact ⟨by rw [i1];simp [R7,h9],i2⟩
theorem aW4 {α:Type}:∀(a l:List (List α)) (i:Nat) (c:List α),(F6 a l)[i]? = some c->∃x y,a[i / l.length]? = some x/\l[i % l.length]? = some y/\c=x++y
 | [],l,i,c,h=>by simp [F6] at h
 | x :: a,l,i,c,h=>by
  have hp:F6 (x :: a) l=(l.map fun y=>x++y)++F6 a l:=by simp [F6]
  rw [hp] at h;have hl0:0<l.length:=by
   rcases Nat.eq_zero_or_pos l.length with h0 | h0
   ·have:l=[]:=O_.1 h0
    subst this;have hz:(F6 a ([]:List (List α))).length=0:=by rw [ab3];simp
    rw [O_.1 hz] at h;simp at h
   ·exact h0
  by_cases hi:i<l.length
  ·rw [ab_ (by simpa using hi)] at h
   simp only [List.getElem?_map,Option.map_eq_some_iff] at h;obtain ⟨y,hy,rfl⟩:=h;refine ⟨x,y,?_,?_,rfl⟩
   ·rw [Nat.div_eq_of_lt hi];rfl
   ·rw [Nat.mod_eq_of_lt hi];exact hy
  ·rw [aa_ (by simp;omega)] at h
   simp only [s_] at h;obtain ⟨u,y,h1,h2,h3⟩:=aW4 a l _ c h;obtain ⟨j,rfl⟩:∃j,i=j+l.length:=⟨i - l.length,by omega⟩;rw [Nat.add_sub_cancel] at h1 h2;refine ⟨u,y,?_,?_,h3⟩
   ·rw [Nat.add_div_right _ hl0];simpa using h1
   ·rw [Nat.add_mod_right];exact h2
theorem Gl.cn_calls:∀(t:Gl),t.clsS.length<=64->∀(i:Nat) (c:List Gl),t.clsS[i]? = some c->R7 c=t.cn i:=by
 intro t;induction t using Gl.ind' with
 | h t ih =>
  intro hl i c hc;rw [Gl.cn_eq];rw [Gl.clsS_eq] at hl hc;by_cases h0:t.kind=0
  ·rw [if_pos h0] at hc
   rw [if_neg (by omega),if_neg (by omega),if_neg (by omega)];cases i with
   | zero=>simp at hc;subst hc;rfl
   | succ i=>simp at hc
  rw [if_neg h0] at hl hc;by_cases h1:t.kind=1
  ·rw [if_pos h1] at hc;simp at hc
  rw [if_neg h1] at hl hc;by_cases h8:t.kind=8
  ·rw [if_pos h8] at hl hc |-
   have key:∀(l:List Gl) (a:List (List Gl)) (j:Nat),(∀x,x∈l->x∈t.goals)->(Gl.orS l a).length<=64->(Gl.orS l a)[a.length+j]? = some c->R7 c=Gl.cnOr l j:=by
    intro l;induction l with
    | nil=>intro a j _ _ h;simp [Gl.orS] at h
    | cons g r ihr =>
     intro a j hm hle h;have hp:=(Gl.orS_parts _ _ hle).1;have hg:=hp g (by simp);simp only [Gl.orS,if_neg (show ¬64<g.clsS.length by omega)] at h hle;simp only [Gl.cnOr];by_cases hj:j<g.clsS.length
     ·rw [if_pos hj]
      refine ih g (hm g (by simp)) hg j c ?_;have hpre:∀(l:List Gl) (a:List (List Gl)) (k:Nat),(Gl.orS l a).length<=64->k<a.length->(Gl.orS l a)[k]? = a[k]?:=by
       intro l;induction l with
       | nil=>intro a k _ _;simp [Gl.orS]
       | cons x r ih2 =>
        intro a k h1 h2;have:=(Gl.orS_parts _ _ h1).1 x (by simp);simp only [Gl.orS,if_neg (show ¬64<x.clsS.length by omega)] at h1 |-;rw [ih2 _ k h1 (by simp;omega),ab_ h2]
      rw [hpre r _ _ hle (by simp;omega),aa_ (by omega)] at h;simpa using h
     ·rw [if_neg hj]
      refine ihr (a++g.clsS) (j - g.clsS.length) (fun x hx=>hm x (by simp [hx])) hle ?_;rw [<-h];congr 1;simp;omega
   exact key t.goals [] i (fun x hx=>hx) hl (by simpa using hc)
  rw [if_neg h8] at hl hc |-;by_cases h7:t.kind=7
  ·rw [if_pos h7] at hl hc |-
   have key:∀(l:List Gl) (a:List (List Gl)) (j:Nat),(∀x,x∈l->x∈t.goals)->(Gl.andS l a).length<=64->(Gl.andS l a)[j]? = some c->∃u,a[j / Gl.prd l]? = some u/\R7 c=R7 u++Gl.cnAnd l j:=by
    intro l;induction l with
    | nil=>intro a j _ _ h;simp only [Gl.andS] at h;exact ⟨c,by simpa [Gl.prd] using h,by simp [Gl.cnAnd]⟩
    | cons g r ihr =>
     intro a j hm hle h;have hg:=Gl.andS_parts _ _ hle g (by simp);simp only [Gl.andS,if_neg (show ¬64<g.clsS.length by omega)] at h hle;by_cases h2:64<(F6 a g.clsS).length
     ·rw [if_pos h2] at hle;omega
     rw [if_neg h2] at h hle;obtain ⟨u,hu,hcu⟩:=ihr _ j (fun x hx=>hm x (by simp [hx])) hle h;obtain ⟨x,y,hx,hy,rfl⟩:=aW4 _ _ _ _ hu;have hny:=ih g (hm g (by simp)) hg _ y hy;refine ⟨x,?_,?_⟩
     ·rw [<-hx];congr 1
      simp only [Gl.prd];rw [Nat.div_div_eq_div_mul,Nat.mul_comm]
     ·simp only [Gl.cnAnd]
      rw [hcu,bg1,hny,z_]
   obtain ⟨u,hu,he⟩:=key t.goals [[]] i (fun x hx=>hx) hl hc;rw [he];cases hq:i / Gl.prd t.goals with
   | zero=>rw [hq] at hu;simp at hu;subst hu;simp [R7]
   | succ n=>rw [hq] at hu;simp at hu
  rw [if_neg h7] at hl hc |-;cases i with
  | zero =>
   simp at hc;subst hc;by_cases h9:t.kind=9
   ·simp [R7,h9]
   ·simp [R7,h9]
  | succ i=>simp at hc
theorem Pg.prf_kids {p:Pg} {t:Pf} (h:p.prf t=true):0<=p.find t.rel/\∃r,p.rels[(p.find t.rel).toNat]? = some r/\r∈p.rels/\r.body.clsS.length<=64/\0<=t.clause/\t.clause.toNat<r.body.clsS.length/\t.kids.map Pf.rel=r.body.cn t.clause.toNat/\∀k,k∈t.kids->p.prf k=true:=by
 rw [Pg.prf_eq] at h;unfold Pg.prfAt at h;simp only [b_,decide_eq_true_eq] at h;obtain ⟨h0,h1⟩:=h;refine ⟨h0,?_⟩;split at h1
 ·exact absurd h1 (by simp)
 ·rename_i r hr
  simp only [b_,decide_eq_true_eq] at h1;obtain ⟨_,_,h2,h3,h4⟩:=h1;split at h4
  ·cases h4
  ·rename_i c hc
   obtain ⟨i1,i2⟩:=ac4 h4;refine ⟨r,hr,i_ hr,h2,h3,(o_.1 hc).1,?_,fun k hk=>?_⟩
   ·rw [<-Gl.cn_calls _ h2 _ c hc,<-i1,Pg.prfs_eq,L_];rfl
   ·rw [Pg.prfs_eq] at i2
    exact i2 _ (q_.2 ⟨k,hk,rfl⟩)
def dec (n:Int):List UInt8:=Lib.itoa n
theorem al3 {n:Int} (h0:-1000000000<=n) (h1:n<=1000000000):(dec n).length<=21:=Lib.itoa_length_le n (by omega) (by omega)
theorem aa0 {n:Int} (h:0<=n):dec n=Lib.decDigits n.toNat:=by unfold dec Lib.itoa;rw [if_neg (by omega)]
theorem aa1 {n:Int} (h:n<0):dec n=45 :: Lib.decDigits n.natAbs:=by unfold dec Lib.itoa;rw [if_pos h]
def ac0 (by_:List UInt8):List (List UInt8)->List UInt8
 | []=>[]
 | x :: r=>x++r.flatMap fun y=>by_++y
namespace V
def txs:V->List UInt8×List UInt8
 | nil=>([40,41],[41])
 | var n=>(63 :: dec n,[32,46,32]++(63 :: dec n)++[41])
 | sym s=>(s,[32,46,32]++s++[41])
 | num n=>(dec n,[32,46,32]++dec n++[41])
 | pair a b=>(40 :: (a.txs.1++b.txs.2),32 :: (a.txs.1++b.txs.2))
def txt (v:V):List UInt8:=v.txs.1
def tl (v:V):List UInt8:=v.txs.2
theorem txt_pair (a b:V):(pair a b).txt=40 :: (a.txt++b.tl):=rfl
theorem tl_pair (a b:V):(pair a b).tl=32 :: (a.txt++b.tl):=rfl
theorem tl_nil:nil.tl=[41]:=rfl
theorem tl_atom {v:V} (h:v.kind≠4) (h0:v.kind≠0):v.tl=[32,46,32]++v.txt++[41]:=by
 cases v<;>first | rfl | exact absurd rfl h | exact absurd rfl h0
theorem txs_len:∀v:V,v.fine=true->v.txt.length<=26 * v.size/\v.tl.length<=26 * v.size/\1<=v.txt.length
 | nil,_=>by simp [txt,tl,txs,size]
 | var n,h=>by
  simp [fine] at h;have:=al3 (n:=n) (by omega) (by omega);simp [txt,tl,txs,size];omega
 | sym s,h=>by
  have:=J4 (s:=s) h;simp [txt,tl,txs,size];omega
 | num n,h=>by
  simp [fine] at h;have:=al3 (n:=n) (by omega) (by omega);have h1:1<=(dec n).length:=by
   have hd:∀u,1<=(Lib.decDigits u).length:=fun u=>by rw [Lib.decDigits];split<;>simp
   by_cases hn:n<0
   ·rw [aa1 hn];simp
   ·rw [aa0 (by omega)];exact hd _
  simp [txt,tl,txs,size];omega
 | pair a b,h=>by
  simp [fine] at h;have h1:=txs_len a h.1;have h2:=txs_len b h.2;simp only [txt_pair,tl_pair,c_,h_,size];omega
theorem txt_len {v:V} (h:v.ok=true):v.txt.length<=130000:=by
 simp [ok] at h;have:=(txs_len v h.1).1;omega
theorem txt_ne {v:V} (h:v.fine=true):v.txt≠[]:=fun e=>by have:=(txs_len v h).2.2;rw [e] at this;simp at this
end V
def ax9 (k:Int):List UInt8:=
 if k=0 then [116,114,117,101] else if k=1 then [102,97,105,108] else if k=2 then [61] else if k=3 then [47,61] else if k=4 then [115,121,109,98,111,108] else
 if k=5 then [110,117,109,98,101,114] else if k=6 then [97,98,115,101,110,116] else if k=7 then [97,110,100] else if k=8 then [111,114] else if k=10 then [110,111,116] else []
theorem au9 (k:Int):(ax9 k).length<=6:=by
 unfold ax9;repeat' split
 all_goals decide
mutual
def Gl.txt:Gl->List UInt8
 | .mk k n ts gs=>if k<=1 then ax9 k++n else 40 :: (ac0 [32] ((ax9 k++n) :: (ts.map (fun t=>t.V.txt)++Gl.txts gs))++[41])
def Gl.txts:List Gl->List (List UInt8)
 | []=>[]
 | g :: r=>Gl.txt g :: Gl.txts r
end
theorem Gl.txts_eq:∀l:List Gl,Gl.txts l=l.map Gl.txt
 | []=>by simp only [Gl.txts,E_]
 | g :: r=>by simp only [Gl.txts,e_,Gl.txts_eq r]
def Gl.words (g:Gl):List (List UInt8):=(ax9 g.kind++g.name) :: (g.terms.map (fun t=>t.V.txt)++g.goals.map Gl.txt)
theorem Gl.txt_eq (g:Gl):g.txt=if g.kind<=1 then ax9 g.kind++g.name else 40 :: (ac0 [32] g.words++[41]):=by
 cases g;simp only [Gl.txt,Gl.txts_eq,Gl.words,Gl.kind,Gl.name,Gl.terms,Gl.goals];rfl
theorem aX6 (by_:List UInt8):∀l:List (List UInt8),(l.flatMap fun y=>by_++y).length=l.length * by_.length+(l.map List.length).sum
 | []=>by simp
 | x :: r=>by
  have:=aX6 by_ r;simp only [S_,h_,c_,e_,m_,this,V_];omega
theorem bj4 {l:List Nat} {b:Nat} (h:∀x,x∈l->x<=b):l.sum<=l.length * b:=by
 induction l with
 | nil=>simp
 | cons x r ih =>
  have h1:=h x (by simp);have h2:=ih (fun y hy=>h y (by simp [hy]));simp only [m_,c_,V_];omega
theorem Gl.form_sizes {g:Gl} (h:g.form=true):(g.kind≠9->g.name=[])/\g.name.length<=12/\g.terms.length<=4/\g.goals.length<=8/\0<=g.kind/\g.kind<=10:=by
 rcases Gl.form_inv h with ⟨h1,h2,h3,h4⟩ | h
 ·have:E8 g.name=true:=by unfold U0 at h2;simp at h2;exact h2.2
  have:=J4 this;exact ⟨fun h=>absurd h1 h,by omega,by omega,by omega,by omega,by omega⟩
 ·have:=al7 g.kind
  rcases h with h | h<;>(try rcases h with h | h)<;>(try rcases h with h | h)<;>simp_all<;>omega
theorem au4 (by_:List UInt8) (l:List (List UInt8)):(ac0 by_ l).length<=l.length * by_.length+(l.map List.length).sum:=by
 cases l with
 | nil=>simp [ac0]
 | cons x r =>
  simp only [ac0,h_,aX6,c_,e_,m_,V_];omega
theorem Gl.cnts_sum:∀l:List Gl,Gl.cnts l=(l.map Gl.cnt).sum
 | []=>by simp only [Gl.cnts,E_,List.sum_nil]
 | g :: r=>by simp only [Gl.cnts,e_,m_,Gl.cnts_sum r]
theorem Gl.cnt_mem {g x:Gl} (h:x∈g.goals):x.cnt<g.cnt:=by
 have hc:=Gl.cnt_eq g;rw [Gl.cnts_sum] at hc;have:∀l:List Gl,x∈l->x.cnt<=(l.map Gl.cnt).sum:=by
  intro l hl;induction l with
  | nil=>simp at hl
  | cons y r ih =>
   simp only [e_,m_];rcases d_.1 hl with rfl | hl
   ·omega
   ·have:=ih hl;omega
 have:=this _ h;omega
theorem Gl.words_len {g:Gl} (h:g.shape=true) (ih:∀x,x∈g.goals->x.txt.length+20<=600000 * x.cnt):(ac0 [32] g.words).length+22<=600000 * g.cnt:=by
 rw [Gl.shape_eq] at h;simp only [b_] at h;obtain ⟨⟨h1,h2⟩,h3⟩:=h;obtain ⟨_,f2,f3,f4,_,_⟩:=Gl.form_sizes h1;have hj:=au4 [32] g.words;have hh:=au9 g.kind;have ht:((g.terms.map fun t=>t.V.txt).map List.length).sum<=g.terms.length * 130000:=by
  have:=bj4 (l:=(g.terms.map fun t=>t.V.txt).map List.length) (b:=130000) (fun x hx=>by
   simp only [L_,q_,Function.comp_apply] at hx;obtain ⟨t,ht,rfl⟩:=hx;obtain ⟨v,e,hv⟩:=aD0 (l_.1 h2 t ht);have:t.V=v:=by
    have hf:v.fine=true:=by simp [V.ok] at hv;exact hv.1
    rw [e];simp [Tm.V,V.v?_tm v hf]
   rw [this];exact V.txt_len hv)
  simpa using this
 have hg:((g.goals.map Gl.txt).map List.length).sum+g.goals.length<=600000 * (g.goals.map Gl.cnt).sum:=by
  generalize g.goals=l at ih;induction l with
  | nil=>simp
  | cons x r ihr =>
   have a:=ih x (by simp);have b:=ihr (fun y hy=>ih y (by simp [hy]));simp only [e_,m_,c_];omega
 have hc:=Gl.cnt_eq g;rw [Gl.cnts_sum] at hc;simp only [Gl.words,c_,h_,s_,e_,I_,m_,List.sum_append,v_] at hj |-;omega
theorem Gl.txt_len:∀g:Gl,g.shape=true->g.txt.length+20<=600000 * g.cnt:=by
 intro g;induction g using Gl.ind' with
 | h g ih =>
  intro h;have h3:g.goals.all Gl.shape=true:=by rw [Gl.shape_eq] at h;simp only [b_] at h;exact h.2
  have hw:=Gl.words_len h (fun x hx=>ih x hx (l_.1 h3 x hx));rw [Gl.txt_eq];split
  ·have h1:g.form=true:=by rw [Gl.shape_eq] at h;simp only [b_] at h;exact h.1.1
   have:=(Gl.form_sizes h1).2.1;have hh:=au9 g.kind;have:=g.cnt_pos;rw [h_];omega
  ·simp only [c_,h_,v_];omega
def bh2 (by_:List UInt8) (l r:List (List UInt8)) (acc:List UInt8):Prop:=(r.length=l.length->acc=[])/\(r.length<l.length->acc++r.flatMap (fun y=>by_++y)=ac0 by_ l)
theorem aA5 {by_:List UInt8} {l r:List (List UInt8)} {x acc:List UInt8} {i:Nat} (hd:l.drop i=x :: r) (h:bh2 by_ l (x :: r) acc):(i=0->acc=[]/\bh2 by_ l r x)/\(0<i->bh2 by_ l r (acc++by_++x)):=by
 have hl:r.length+1=l.length - i:=by have:=congrArg List.length hd;simp at this;omega
 refine ⟨fun h0=>?_,fun h0=>?_⟩
 ·subst h0
  simp at hd;subst hd;refine ⟨h.1 rfl,fun e=>by simp at e,fun _=>by simp [ac0]⟩
 ·have:=h.2 (by simp only [c_];omega)
  refine ⟨fun e=>by omega,fun _=>?_⟩;rw [<-this];simp
theorem bo5 {by_:List UInt8} {l r:List (List UInt8)} {x acc:List UInt8} {i:Nat} (hd:l.drop i=x :: r) (h:bh2 by_ l (x :: r) acc):acc.length+x.length+(if 0<i then by_.length else 0)<=(ac0 by_ l).length:=by
 obtain ⟨h1,h2⟩:=aA5 hd h;have hl:r.length+1=l.length - i:=by have:=congrArg List.length hd;simp at this;omega
 split
 ·rename_i h0
  have:=congrArg List.length ((h2 h0).2 (by omega));simp only [h_] at this;omega
 ·obtain ⟨rfl,h3⟩:=h1 (by omega)
  by_cases hr:r.length<l.length
  ·have:=congrArg List.length (h3.2 hr)
   simp only [h_] at this;simp;omega
  ·omega
theorem bo6 {by_:List UInt8} {l:List (List UInt8)} {acc:List UInt8} (h:bh2 by_ l [] acc):acc=ac0 by_ l:=by
 cases l with
 | nil=>exact h.1 rfl
 | cons x r=>simpa using h.2 (by simp)
theorem ae4:∀l:List UInt8,bytesOf (bytesD l)=some (l.map fun b=>(b.toNat:Int))
 | []=>rfl
 | x :: r=>by
  have:=ae4 r;simp only [bytesD,e_] at this |-;simp only [bytesOf,this,Option.map_some]
theorem bg2 (l:List UInt8):(l.map fun b=>(b.toNat:Int)).map (fun n=>UInt8.ofNat n.toNat)=l:=by
 rw [L_];conv=>rhs;rw [<-List.map_id l]
 apply List.map_congr_left;intro b _;simp
theorem ad9 (a b:List UInt8):(bytesD a++b.map fun b=>[D.int .u8 b.toNat])=bytesD (a++b):=by simp [bytesD]
def Fc.gl (f:Fc):Gl:=.mk 9 f.rel f.args []
def Fc.txt (f:Fc):List UInt8:=if aa4 f.gl=true/\f.gl.vars=[] then f.gl.txt else []
theorem bp8 (f:Fc):f.gl.enc=[.int .i64 9,.str f.rel,.sl (f.args.map Tm.enc),.sl []]:=by simp [Fc.gl,Gl.enc_eq,Gl.kind,Gl.name,Gl.terms,Gl.goals]
theorem ck4 (f:Fc):wtL f.gl.enc=wtL f.enc:=by simp [bp8,Fc.enc_eq,wtL,D.wt,wtR]
theorem bL4 (l:List Int):(O7 l=[])↔l=[]:=by
 constructor
 ·intro h
  cases l with
  | nil=>rfl
  | cons x r=>have:=(R9 (l:=x :: r) (x:=x)).2 (by simp);rw [h] at this;simp at this
 ·rintro rfl;rfl
def Rl.hdW (r:Rl) (i:Nat):List (List UInt8):=r.name :: (List.range i).map fun k:Nat=>63 :: dec k
def Rl.txt (r:Rl):List UInt8:=[40,100,101,102,105,110,101,32,40]++ac0 [32] (r.hdW r.arity.toNat)++[41,32]++r.body.txt++[41,10]
def Pg.txt (p:Pg):List UInt8:=p.rels.flatMap Rl.txt
theorem Rl.hd_len {r:Rl} (hn:r.name.length<=12) {i:Nat} (hi:i<=4):(ac0 [32] (r.hdW i)).length<=1000:=by
 have h:=au4 [32] (r.hdW i);have hs:(((List.range i).map fun k:Nat=>63 :: dec k).map List.length).sum<=i * 23:=by
  have:=bj4 (l:=((List.range i).map fun k:Nat=>63 :: dec k).map List.length) (b:=23) (fun x hx=>by
   simp only [L_,q_,Function.comp_apply,Z_] at hx;obtain ⟨k,hk,rfl⟩:=hx;have:=al3 (n:=(k:Int)) (by omega) (by omega);simp only [c_];omega)
  simpa using this
 simp only [Rl.hdW,c_,s_,List.length_range,e_,m_,v_] at h |-;omega
theorem Rl.txt_len {r:Rl} (hn:r.name.length<=12) (ha:r.arity<=4) (hs:r.body.shape=true) (hc:r.body.cnt<=80):r.txt.length<=49000000:=by
 have h1:=Rl.hd_len hn (i:=r.arity.toNat) (by omega);have h2:=Gl.txt_len r.body hs;simp only [Rl.txt,h_,c_,v_];omega
theorem bl4 {p:Pg} {i:Nat} {r:Rl} (h:p.relOk i r=true):r.name.length<=12/\0<=r.arity/\r.arity<=4/\r.body.shape=true/\r.body.cnt<=80:=by
 unfold Pg.relOk at h;simp only [b_,decide_eq_true_eq] at h;have h1:U0 r.name=true:=h.1.1.1.1.1.1.2;have h2:E8 r.name=true:=by unfold U0 at h1;simp at h1;exact h1.2
 have:=J4 h2;have h3:=h.1.1.1.1.1.2;have h4:=h.1.1.1.2;exact ⟨by omega,by omega,by omega,h.1.1.2,by omega⟩
theorem aM4:∀(l:List Rl),(∀r,r∈l->r.txt.length<=49000000)->(l.flatMap Rl.txt).length<=49000000 * l.length
 | [],_=>by simp
 | x :: r,h=>by
  have h1:=h x (by simp);have h2:=aM4 r (fun y hy=>h y (by simp [hy]));simp only [S_,h_,c_];omega
theorem Pg.txt_len {p:Pg} (h:X6 p=true):p.txt.length<=400000000:=by
 unfold X6 at h;simp only [b_,decide_eq_true_eq] at h;have:=aM4 p.rels (fun r hr=>by
  obtain ⟨i,hi⟩:=ak3 h.2 r hr;obtain ⟨a,_,b,c,d⟩:=bl4 hi;exact Rl.txt_len a b c d)
 unfold Pg.txt;omega
def grp (l:List (List UInt8)):List UInt8:=40 :: (ac0 [32] l++[41])
theorem bp6 (l:List (List UInt8)):(grp l).length<=2+l.length+(l.map List.length).sum:=by
 have:=au4 [32] l;simp only [grp,c_,h_,v_] at this |-;omega
mutual
def Pf.txt:Pf->List UInt8
 | .mk rel cl vals kids=>grp (rel :: dec cl :: grp (vals.map fun t=>t.V.txt) :: Pf.txts kids)
def Pf.txts:List Pf->List (List UInt8)
 | []=>[]
 | k :: r=>Pf.txt k :: Pf.txts r
end
theorem Pf.txts_eq:∀l:List Pf,Pf.txts l=l.map Pf.txt
 | []=>by simp only [Pf.txts,E_]
 | g :: r=>by simp only [Pf.txts,e_,Pf.txts_eq r]
def Pf.vals (t:Pf):List (List UInt8):=t.values.map fun t=>t.V.txt
def Pf.words (t:Pf):List (List UInt8):=t.rel :: dec t.clause :: grp t.vals :: t.kids.map Pf.txt
theorem Pf.txt_eq (t:Pf):t.txt=grp t.words:=by
 cases t;simp only [Pf.txt,Pf.txts_eq,Pf.words,Pf.vals,Pf.rel,Pf.clause,Pf.values,Pf.kids]
theorem Pg.prf_node {p:Pg} {t:Pf} (hp:X6 p=true) (h:p.prf t=true):t.values.length<=12/\t.values.all L9=true/\0<=t.clause/\t.clause<=64/\∀k,k∈t.kids->p.prf k=true:=by
 obtain ⟨_,r,hr,hrm,h3,h4,h5,_,h6⟩:=Pg.prf_kids h;rw [Pg.prf_eq] at h;unfold Pg.prfAt at h;rw [hr] at h;simp only [b_,decide_eq_true_eq] at h;obtain ⟨_,hl,hg,_⟩:=h;unfold X6 at hp;simp only [b_,decide_eq_true_eq] at hp;obtain ⟨i,hi⟩:=ak3 hp.2 r hrm;unfold Pg.relOk at hi;simp only [b_,decide_eq_true_eq] at hi;have ha:=hi.1.1.1.1.1.2;have hb:=hi.1.1.1.1.2;refine ⟨by omega,?_,h4,by omega,h6⟩;rw [l_] at hg |-;intro x hx;have:=hg x hx;unfold Tm.ground at this;simp only [b_] at this;exact this.1
theorem bu1 {t:Pf} (h1:t.values.length<=12) (h2:t.values.all L9=true):(grp t.vals).length<=1600000:=by
 have h:=bp6 t.vals;have hs:(t.vals.map List.length).sum<=t.values.length * 130000:=by
  have:=bj4 (l:=t.vals.map List.length) (b:=130000) (fun x hx=>by
   simp only [Pf.vals,L_,q_,Function.comp_apply] at hx;obtain ⟨t,ht,rfl⟩:=hx;obtain ⟨v,e,hv⟩:=aD0 (l_.1 h2 t ht);have:t.V=v:=by
    have hf:v.fine=true:=by simp [V.ok] at hv;exact hv.1
    rw [e];simp [Tm.V,V.v?_tm v hf]
   rw [this];exact V.txt_len hv)
  simpa [Pf.vals] using this
 have:t.vals.length=t.values.length:=by simp [Pf.vals]
 omega
theorem Pf.cnts_sum:∀l:List Pf,Pf.cnts l=(l.map Pf.cnt).sum
 | []=>by simp only [Pf.cnts,E_,List.sum_nil]
 | g :: r=>by simp only [Pf.cnts,e_,m_,Pf.cnts_sum r]
theorem Pf.cnt_mem {g x:Pf} (h:x∈g.kids):x.cnt<g.cnt/\g.kids.length<g.cnt:=by
 have hc:=Pf.cnt_eq g;rw [Pf.cnts_sum] at hc;have h2:∀l:List Pf,l.length<=(l.map Pf.cnt).sum:=by
  intro l;induction l with
  | nil=>simp
  | cons y r ih=>have:=y.cnt_pos;simp only [e_,m_,c_];omega
 have:∀l:List Pf,x∈l->x.cnt<=(l.map Pf.cnt).sum:=by
  intro l hl;induction l with
  | nil=>simp at hl
  | cons y r ih =>
   simp only [e_,m_];rcases d_.1 hl with rfl | hl
   ·omega
   ·have:=ih hl;omega
 have:=this _ h;have:=h2 g.kids;omega
theorem Pf.words_len {p:Pg} {t:Pf} (hp:X6 p=true) (h:p.prf t=true) (hw:t.rel.length<=1048576) (ih:∀x,x∈t.kids->x.txt.length+20<=3000000 * x.cnt) :
  (grp t.words).length+20<=3000000 * t.cnt:=by
 obtain ⟨n1,n2,n3,n4,_⟩:=Pg.prf_node hp h;have hv:=bu1 n1 n2;have hd:=al3 (n:=t.clause) (by omega) (by omega);have hg:=bp6 t.words;have hk:((t.kids.map Pf.txt).map List.length).sum+t.kids.length<=3000000 * (t.kids.map Pf.cnt).sum:=by
  generalize t.kids=l at ih;induction l with
  | nil=>simp
  | cons x r ihr =>
   have a:=ih x (by simp);have b:=ihr (fun y hy=>ih y (by simp [hy]));simp only [e_,m_,c_];omega
 have hc:=Pf.cnt_eq t;rw [Pf.cnts_sum] at hc;simp only [Pf.words,c_,s_,e_,m_] at hg |-;omega
theorem Pf.txt_len {p:Pg} (hp:X6 p=true):∀t:Pf,p.prf t=true->wtL t.enc<=1048576->t.txt.length+20<=3000000 * t.cnt:=by
 intro t;induction t using Pf.ind' with
 | h t ih =>
  intro h hw;obtain ⟨_,_,_,_,n5⟩:=Pg.prf_node hp h;rw [Pf.txt_eq];refine Pf.words_len hp h (by simp only [Pf.enc_eq,wtL,D.wt] at hw;omega) (fun x hx=>ih x hx (n5 x hx) ?_);have:=Pf.wt_kids hx;omega
def okB (c:UInt8):Bool:=c == 10 || (decide (32<=c.toNat) && decide (c.toNat<=126))
def bI6 (c:UInt8):Bool:=c == 32 || c == 10 || c == 40 || c == 41 || c == 59
def bm3 (c:UInt8):Bool:=!bI6 c
def bW6 (c:UInt8):Bool:=c != 10
theorem O0 {α:Type} (p:α->Bool):∀l:List α,(l.dropWhile p).length<=l.length
 | []=>n_ _
 | a :: r=>by
  simp only [R_];split
  ·have:=O0 p r;simp;omega
  ·exact n_ _
def toks:List UInt8->List (List UInt8)
 | []=>[]
 | c :: r =>
  if c=32\/c=10 then toks r
  else if c=59 then toks (r.dropWhile bW6)
  else if c=40\/c=41 then [c] :: toks r
  else (c :: r.takeWhile bm3) :: toks (r.dropWhile bm3)
termination_by l=>l.length
decreasing_by
 ·simp
 ·have:=O0 bW6 r;simp;omega
 ·simp
 ·have:=O0 bm3 r;simp;omega
theorem aU5:toks []=[]:=by rw [toks]
theorem X3 (c:UInt8) (r:List UInt8):toks (c :: r)=if c=32\/c=10 then toks r
  else if c=59 then toks (r.dropWhile bW6)
  else if c=40\/c=41 then [c] :: toks r
  else (c :: r.takeWhile bm3) :: toks (r.dropWhile bm3):=by rw [toks]
def cx9 (s:List UInt8):Option (List (List UInt8)):=if s.length<=100000/\s.all okB=true/\(toks s).length<=20000 then some (toks s) else none
theorem ch0 {α:Type} {p:α->Bool} {s:List α}:∀(d i k:Nat),k=i+d->k<=s.length->(∀j,i<=j->j<k->∀c,s[j]? = some c->p c=true) ->
  (s.drop i).takeWhile p=(s.take k).drop i++(s.drop k).takeWhile p/\(s.drop i).dropWhile p=(s.drop k).dropWhile p
 | 0,i,k,hk,hl,h=>by
  obtain rfl:k=i:=by omega
  have h0:(s.take k).drop k=[]:=ae_ (by rw [List.length_take];omega);rw [h0];exact ⟨rfl,rfl⟩
 | d+1,i,k,hk,hl,h=>by
  have hi:i<s.length:=by omega
  have hc:s[i]? = some s[i]:=a_ hi;have hp:=h i (n_ _) (by omega) _ hc;obtain ⟨h1,h2⟩:=ch0 d (i+1) k (by omega) hl (fun j a b c hc=>h j (by omega) b c hc);have hd:s.drop i=s[i] :: s.drop (i+1):=p_ hi;have ht:(s.take k).drop i=s[i] :: (s.take k).drop (i+1):=by
   have hi':i<(s.take k).length:=by rw [List.length_take];omega
   rw [p_ hi'];congr 1;exact List.getElem_take
  rw [hd,List.takeWhile_cons,R_,hp,ht];simp only [if_true];exact ⟨by rw [h1];rfl,h2⟩
theorem drop_at {s:List UInt8} {i:Nat} {c:UInt8} (h:s[i]? = some c):s.drop i=c :: s.drop (i+1):=by
 obtain ⟨h1,h2⟩:=o_.1 h;rw [<-h2];exact p_ h1
theorem ch2 {s:List UInt8} {i:Nat} {c:UInt8} (h:s[i]? = some c) (hc:c=32\/c=10):toks (s.drop i)=toks (s.drop (i+1)):=by
 rw [drop_at h,X3,if_pos hc]
theorem bY6 {c:UInt8} {n:Nat} (hn:n<256):c=UInt8.ofNat n↔(c.toNat:Int)=n:=by
 constructor
 ·rintro rfl
  simp only [UInt8.toNat_ofNat'];omega
 ·intro h
  apply UInt8.toNat_inj.1;simp only [UInt8.toNat_ofNat'];omega
def brI (b:Int):Bool:=decide (b=32) || decide (b=10) || decide (b=40) || decide (b=41) || decide (b=59)
theorem bT3 (c:UInt8):brI c.toNat=bI6 c:=by
 unfold brI bI6;have h:∀n:Nat,n<256->decide ((c.toNat:Int)=n)=(c == UInt8.ofNat n):=fun n hn=>by
  rw [Bool.eq_iff_iff,decide_eq_true_eq,beq_iff_eq];exact (bY6 hn).symm
 rw [show ((32:Int))=((32:Nat):Int) from rfl,show ((10:Int))=((10:Nat):Int) from rfl,show ((40:Int))=((40:Nat):Int) from rfl,show ((41:Int))=((41:Nat):Int) from rfl,show ((59:Int))=((59:Nat):Int) from rfl,h 32 (by omega),h 10 (by omega),h 40 (by omega),h 41 (by omega),h 59 (by omega)];rfl
open Go
theorem az9:∀(l r:List UInt8) (acc a:Nat),Lib.parseUint10 acc l=.ok a->Lib.parseUint10 acc (l++r)=Lib.parseUint10 a r
 | [],r,acc,a,h=>by
  simp only [Lib.parseUint10,Lib.NumEnd.ok.injEq] at h;subst h;rfl
 | c :: l,r,acc,a,h=>by
  simp only [j_,Lib.parseUint10] at h |-;split
  ·rename_i hc
   rw [if_pos hc] at h;split
   ·rename_i h1;rw [if_pos h1] at h;cases h
   ·rename_i h1
    rw [if_neg h1] at h;split
    ·rename_i h2;rw [if_pos h2] at h;cases h
    ·rename_i h2
     rw [if_neg h2] at h;exact az9 l r _ a h
  ·rename_i hc;rw [if_neg hc] at h;cases h
theorem K4 {d:Nat} (hd:d<10):(UInt8.ofNat (48+d)).toNat=48+d:=by
 simp only [UInt8.toNat_ofNat'];omega
theorem ak1:∀(n u:Nat),u<=n->u<18446744073709551616->Lib.parseUint10 0 (Lib.decDigits u)=.ok u
 | n,u,hn,hu=>by
  rw [Lib.decDigits];split
  ·rename_i h
   have e:=K4 (d:=u) (by omega);simp only [Lib.parseUint10,e];rw [if_pos (by omega),if_neg (by omega),if_neg (by omega)];simp
  ·rename_i h
   match n,hn with
   | 0,hn=>omega
   | n+1,hn =>
    rw [az9 _ _ _ _ (ak1 n (u / 10) (by omega) (by omega))];have e:=K4 (d:=u % 10) (by omega);simp only [Lib.parseUint10,e];rw [if_pos (by omega),if_neg (by omega),if_neg (by omega)];congr 1;omega
theorem K9:∀(n u:Nat),u<=n->∃c r,Lib.decDigits u=c :: r/\48<=c.toNat/\c.toNat<=57
 | n,u,hn=>by
  rw [Lib.decDigits];split
  ·rename_i h
   have e:=K4 (d:=u) (by omega);exact ⟨_,[],rfl,by omega,by omega⟩
  ·rename_i h
   match n,hn with
   | 0,hn=>omega
   | n+1,hn =>
    obtain ⟨c,r,h1,h2,h3⟩:=K9 n (u / 10) (by omega);exact ⟨c,r++[UInt8.ofNat (48+u % 10)],by rw [h1];rfl,h2,h3⟩
theorem bX5 {n:Int} (h0:-9223372036854775808<=n) (h1:n<=9223372036854775807):Lib.atoiAll (dec n)=.ok n:=by
 by_cases h:n<0
 ·rw [aa1 h,Lib.atoiAll_minus]
  obtain ⟨c,r,e1,e2,e3⟩:=K9 n.natAbs n.natAbs (n_ _);have hp:Lib.parseMag (Lib.decDigits n.natAbs)=.ok n.natAbs:=by
   unfold Lib.parseMag;rw [if_neg (by rw [e1];simp),ak1 _ _ (n_ _) (by omega)]
  rw [hp];simp only [Lib.signed];rw [if_neg (by omega)];congr 1;omega
 ·rw [aa0 (by omega)]
  obtain ⟨c,r,e1,e2,e3⟩:=K9 n.toNat n.toNat (n_ _);have hp:Lib.parseMag (Lib.decDigits n.toNat)=.ok n.toNat:=by
   unfold Lib.parseMag;rw [if_neg (by rw [e1];simp),ak1 _ _ (n_ _) (by omega)]
  rw [e1] at hp |-;rw [Lib.atoiAll_plain c r (by omega) (by omega),hp];simp only [Lib.signless];rw [if_neg (by omega)];congr 1;omega
def bh4 (s:List UInt8):Option Int:=match Lib.atoiAll s with
 | .ok v=>if dec v=s then some v else none
 | _=>none
theorem bm1 {s:List UInt8} {n:Int} (h:bh4 s=some n):dec n=s/\-9223372036854775808<=n/\n<=9223372036854775807:=by
 unfold bh4 at h;split at h
 ·rename_i v hv
  split at h
  ·rename_i he
   cases h;have:=Lib.atoiAll_bounds hv;exact ⟨he,this.1,this.2⟩
  ·cases h
 ·cases h
def bh6 (l:List UInt8):Nat:=l.foldl (fun a c=>a * 10+(c.toNat - 48)) 0
theorem aw3 (l:List UInt8) (c:UInt8):bh6 (l++[c])=bh6 l * 10+(c.toNat - 48):=by unfold bh6;rw [List.foldl_append];rfl
theorem aF9:∀(n u:Nat),u<=n->bh6 (Lib.decDigits u)=u
 | n,u,hn=>by
  rw [Lib.decDigits];split
  ·rename_i h
   have e:=K4 (d:=u) (by omega);simp [bh6,e];omega
  ·rename_i h
   match n,hn with
   | 0,hn=>omega
   | n+1,hn =>
    have e:=K4 (d:=u % 10) (by omega);rw [aw3,aF9 n (u / 10) (by omega),e];omega
theorem aG0:∀(n u:Nat),u<=n->∀c,c∈Lib.decDigits u->48<=c.toNat/\c.toNat<=57
 | n,u,hn=>by
  rw [Lib.decDigits];split
  ·rename_i h
   have e:=K4 (d:=u) (by omega);intro c hc;simp at hc;subst hc;have e:(48+UInt8.ofNat u).toNat=48+u:=by
    have:=K4 (d:=u) (by omega);simpa using this
   omega
  ·rename_i h
   match n,hn with
   | 0,hn=>omega
   | n+1,hn =>
    intro c hc;rcases u_.1 hc with hc | hc
    ·exact aG0 n (u / 10) (by omega) c hc
    ·have e:=K4 (d:=u % 10) (by omega)
     rw [List.mem_singleton] at hc;subst hc;omega
theorem aM6:∀(l r:List UInt8),bh6 l<=bh6 (l++r)
 | l,[]=>by simp
 | l,c :: r=>by
  have h1:=aM6 (l++[c]) r;rw [aw3,z_] at h1;have h2:l++([c]++r)=l++c :: r:=rfl;rw [h2] at h1;omega
def atom (big:Bool) (t:List UInt8):Option V:=
 if E8 t=true then some (.sym t)
 else if t.head? = some 63 then (match bh4 t.tail with | some n=>if 0<=n/\n<=100000 then some (.var n) else none | none=>none)
 else match bh4 t with | some n=>if big=true\/(-1000000000<=n/\n<=1000000000) then some (.num n) else none | none=>none
def lst (l:List V) (t:V):V:=l.foldr .pair t
mutual
def rdT (big:Bool) (T:List (List UInt8)):Nat->Nat->Option (V×Nat)
 | 0,_=>none
 | n+1,i=>match T[i]? with
  | none=>none
  | some t=>if t=[41]\/t=[46] then none else if t=[40] then rdL big T n (i+1) [] else match atom big t with | some v=>some (v,i+1) | none=>none
def rdL (big:Bool) (T:List (List UInt8)):Nat->Nat->List V->Option (V×Nat)
 | 0,_,_=>none
 | n+1,i,acc=>match T[i]? with
  | none=>none
  | some t=>if t=[41] then some (lst acc .nil,i+1)
   else if t=[46] then (match rdT big T n (i+1) with | some (v,j)=>if acc≠[]/\T[j]? = some [41] then some (lst acc v,j+1) else none | none=>none)
   else match rdT big T n i with | some (v,j)=>rdL big T n j (acc++[v]) | none=>none
end
def V.low:V->Bool
 | .sym s=>decide (s.length<=12)
 | .pair a b=>a.low && b.low
 | _=>true
theorem V.wt_low:∀v:V,v.low=true->wtL v.enc<=16 * v.size
 | .nil,_=>by simp [V.enc_nil,wtL,D.wt,wtR,V.size]
 | .var _,_=>by simp [V.enc_var,wtL,D.wt,wtR,V.size]
 | .num _,_=>by simp [V.enc_num,wtL,D.wt,wtR,V.size]
 | .sym s,h=>by
  simp only [V.low,decide_eq_true_eq] at h;simp only [V.enc_sym,wtL,D.wt,wtR,V.size];omega
 | .pair a b,h=>by
  simp only [V.low,b_] at h;have h1:=V.wt_low a h.1;have h2:=V.wt_low b h.2;simp only [V.enc_pair,wtL,D.wt,wtR,V.size,v_];omega
def rdO (big:Bool) (T:List (List UInt8)) (i:Nat):Option (V×Nat):=match rdT big T (2 * T.length+1) i with
 | some (v,j)=>if v.ok=true then some (v,j) else none
 | none=>none
theorem ao5:∀(n:Nat) (l:List UInt8),l.length<=n->∀t,t∈toks l->t≠[]/\t.length<=l.length
 | 0,l,h=>by
  obtain rfl:=U_ (by omega:l.length=0);rw [aU5];simp
 | n+1,[],h=>by rw [aU5];simp
 | n + 1,c :: r,h=>by
  intro t ht;rw [X3] at ht;simp only [c_] at h |-;have h4:=O0 bW6 r;have h5:=O0 bm3 r;split at ht
  ·have:=ao5 n r (by omega) t ht;exact ⟨this.1,by omega⟩
  ·split at ht
   ·have:=ao5 n _ (by omega) t ht;exact ⟨this.1,by omega⟩
   ·split at ht
    ·rcases d_.1 ht with rfl | ht
     ·simp
     ·have:=ao5 n r (by omega) t ht;exact ⟨this.1,by omega⟩
    ·rcases d_.1 ht with rfl | ht
     ·have:=(List.takeWhile_prefix (p:=bm3) (l:=r)).length_le
      simp;omega
     ·have:=ao5 n _ (by omega) t ht;exact ⟨this.1,by omega⟩
theorem bj0 {α:Type} {T:List α} {i:Nat} {c:α} (h:T[i]? = some c):T.take (i+1)=T.take i++[c]:=by
 rw [D_,h];rfl
theorem aY0 {T:List UInt8} {u:Nat} (hT:T=Lib.decDigits u) {i:Nat} {c:UInt8} (hc:T[i]? = some c):48<=c.toNat/\c.toNat<=57/\bh6 (T.take (i+1))=bh6 (T.take i) * 10+(c.toNat - 48)/\bh6 (T.take (i+1))<=u:=by
 have h1:=aG0 u u (n_ _) c (by rw [<-hT];exact i_ hc);refine ⟨h1.1,h1.2,by rw [bj0 hc,aw3],?_⟩;have h2:=aM6 (T.take (i+1)) (T.drop (i+1));rw [A_,hT,aF9 u u (n_ _),<-hT] at h2;exact h2
theorem bl7 {x:Int} (h:x<=0):x.tdiv 10=-((-x) / 10):=by
 obtain ⟨m,rfl⟩:∃m:Nat,x=-(m:Int):=⟨x.natAbs,by omega⟩;rw [Int.neg_tdiv,ac_ (by omega)];simp
structure Rdg (l T:List UInt8) (i:Nat) (acc:Int):Prop where
 lo:-9223372036854775808<=acc
 hi:acc<=0
 is:∀n,bh4 l=some n->acc=-(bh6 (T.take i):Int)
theorem Rdg.bad {l T:List UInt8} {i:Nat} {acc:Int} (h:Rdg l T i acc) (hT:∀n,bh4 l=some n->T=Lib.decDigits n.natAbs) {c:UInt8} (hc:T[i]? = some c)
  (hb:¬((0:Int)<=(c.toNat:Int) - 48/\(c.toNat:Int) - 48<=9)\/acc<(-9223372036854775808+((c.toNat:Int) - 48)).tdiv 10):bh4 l=none:=by
 cases hp:bh4 l with
 | none=>rfl
 | some n =>
  exfalso;obtain ⟨_,b0,b1⟩:=bm1 hp;obtain ⟨h1,h2,h3,h4⟩:=aY0 (hT n hp) hc;have h5:=h.is n hp;rcases hb with hb | hb
  ·omega
  ·rw [bl7 (by omega)] at hb
   omega
theorem Rdg.next {l T:List UInt8} {i:Nat} {acc:Int} (h:Rdg l T i acc) (hT:∀n,bh4 l=some n->T=Lib.decDigits n.natAbs) {c:UInt8} (hc:T[i]? = some c)
  (h0:(0:Int)<=(c.toNat:Int) - 48) (h9:(c.toNat:Int) - 48<=9) (hq:¬acc<(-9223372036854775808+((c.toNat:Int) - 48)).tdiv 10) :
  Rdg l T (i+1) (acc * 10 - ((c.toNat:Int) - 48)):=by
 have hlo:=h.lo;have hhi:=h.hi;rw [bl7 (by omega)] at hq;refine ⟨by omega,by omega,fun n hp=>?_⟩;obtain ⟨h1,h2,h3,h4⟩:=aY0 (hT n hp) hc;have h5:=h.is n hp;rw [h3,h5];omega
theorem Rdg.done {l T:List UInt8} {acc:Int} (h:Rdg l T T.length acc) (hT:∀n,bh4 l=some n->T=Lib.decDigits n.natAbs):∀n,bh4 l=some n->acc=-(n.natAbs:Int):=fun n hp=>by
 have h1:=h.is n hp;rw [F_] at h1;have h2:=hT n hp;rw [h1];have h3:bh6 T=n.natAbs:=by rw [h2,aF9 _ _ (n_ _)]
 rw [h3]
def bnd (R:List UInt8):Prop:=R=[]\/∃c r,R=c :: r/\bI6 c=true
def wrd (w:List UInt8):Prop:=w≠[]/\∀c,c∈w->bI6 c=false
theorem aI6 {p:UInt8->Bool}:∀(w R:List UInt8),(∀c,c∈w->p c=true)->(R=[]\/∃c r,R=c :: r/\p c=false)->(w++R).takeWhile p=w/\(w++R).dropWhile p=R
 | [],R,_,h=>by
  rcases h with rfl | ⟨c,r,rfl,hc⟩
  ·exact ⟨rfl,rfl⟩
  ·simp [hc]
 | c :: w,R,hw,h=>by
  obtain ⟨h1,h2⟩:=aI6 w R (fun d hd=>hw d (by simp [hd])) h;have hc:=hw c (by simp);simp only [j_,List.takeWhile_cons,R_,hc,if_true,h1,h2,and_self]
theorem bI5 {c:UInt8} (h:bI6 c=false):c≠32/\c≠10/\c≠40/\c≠41/\c≠59:=by
 unfold bI6 at h;simp only [G_,beq_eq_false_iff_ne,ne_eq] at h;exact ⟨h.1.1.1.1,h.1.1.1.2,h.1.1.2,h.1.2,h.2⟩
theorem aO0 {w R:List UInt8} (hw:wrd w) (hR:bnd R):toks (w++R)=w :: toks R:=by
 obtain ⟨hne,hall⟩:=hw;cases w with
 | nil=>exact absurd rfl hne
 | cons c w =>
  obtain ⟨n1,n2,n3,n4,n5⟩:=bI5 (hall c (by simp));have hR':R=[]\/∃c r,R=c :: r/\bm3 c=false:=by
   rcases hR with h | ⟨d,r,h,hd⟩
   ·exact .inl h
   ·exact .inr ⟨d,r,h,by unfold bm3;rw [hd];rfl⟩
  obtain ⟨h1,h2⟩:=aI6 (p:=bm3) w R (fun d hd=>by unfold bm3;rw [hall d (by simp [hd])];rfl) hR';rw [j_,X3,if_neg (fun h=>h.elim n1 n2),if_neg n5,if_neg (fun h=>h.elim n3 n4),h1,h2]
theorem aO2 (R:List UInt8):toks (32 :: R)=toks R:=by rw [X3,if_pos (.inl rfl)]
theorem bi5 (R:List UInt8):toks (40 :: R)=[40] :: toks R:=by rw [X3];simp
theorem aO1 (R:List UInt8):toks (41 :: R)=[41] :: toks R:=by rw [X3];simp
theorem bD4 (R:List UInt8):bnd (32 :: R):=.inr ⟨_,_,rfl,rfl⟩
theorem bD3 (R:List UInt8):bnd (41 :: R):=.inr ⟨_,_,rfl,rfl⟩
def nmB (c:UInt8):Prop:=c.toNat=45\/(48<=c.toNat/\c.toNat<=57)\/(97<=c.toNat/\c.toNat<=122)\/c.toNat=63\/c.toNat=46
theorem bR4 {c:UInt8} (h:nmB c):bI6 c=false:=by
 rw [<-bT3];unfold brI;unfold nmB at h;simp only [G_,decide_eq_false_iff_not];omega
theorem bm8 {s:List UInt8} (h:E8 s=true):∀c,c∈s->nmB c:=by
 intro c hc;obtain ⟨j,hj⟩:=List.getElem?_of_mem hc;unfold E8 at h;simp only [b_,l_,Z_] at h;have h1:=h.1.1 j (o_.1 hj).1;unfold aA2 ac6 at h1;rw [hj] at h1;simp only [Option.getD_some,P_,b_,decide_eq_true_eq,bne_iff_ne,ne_eq,beq_iff_eq] at h1;unfold nmB;omega
theorem aY2 (n:Int):∀c,c∈dec n->nmB c:=by
 intro c hc;by_cases hn:n<0
 ·rw [aa1 hn] at hc
  rcases d_.1 hc with rfl | hc
  ·exact .inl rfl
  ·exact .inr (.inl (aG0 _ _ (n_ _) c hc))
 ·rw [aa0 (by omega)] at hc
  exact .inr (.inl (aG0 _ _ (n_ _) c hc))
theorem bA3 (n:Int):∃c r,dec n=c :: r/\(c.toNat=45\/(48<=c.toNat/\c.toNat<=57)):=by
 by_cases hn:n<0
 ·exact ⟨_,_,aa1 hn,.inl rfl⟩
 ·rw [aa0 (by omega)]
  obtain ⟨c,r,h1,h2,h3⟩:=K9 _ n.toNat (n_ _);exact ⟨c,r,h1,.inr ⟨h2,h3⟩⟩
namespace V
def wd:V->List UInt8
 | var n=>63 :: dec n
 | sym s=>s
 | num n=>dec n
 | _=>[]
def leafB:V->Bool
 | var _=>true
 | sym _=>true
 | num _=>true
 | _=>false
def tkp:V->List (List UInt8)×List (List UInt8)
 | nil=>([[40],[41]],[[41]])
 | pair a b=>([40] :: (a.tkp.1++b.tkp.2),a.tkp.1++b.tkp.2)
 | v=>([v.wd],[[46],v.wd,[41]])
def tks (v:V):List (List UInt8):=v.tkp.1
def tlk (v:V):List (List UInt8):=v.tkp.2
theorem bu7 (a b:V):(pair a b).tks=[40] :: (a.tks++b.tlk):=rfl
theorem bu6 (a b:V):(pair a b).tlk=a.tks++b.tlk:=rfl
theorem bu8 {v:V} (h:v.leafB=true):v.tks=[v.wd]/\v.tlk=[[46],v.wd,[41]]/\v.txt=v.wd/\v.tl=[32,46,32]++v.wd++[41]:=by
 cases v<;>first | exact ⟨rfl,rfl,rfl,rfl⟩ | cases h
theorem bE5 {v:V} (h:v.leafB=true) (hf:v.fine=true):v.wd≠[]/\∀c,c∈v.wd->nmB c:=by
 cases v with
 | nil=>cases h
 | pair a b=>cases h
 | var n =>
  refine ⟨by simp [wd],fun c hc=>?_⟩;rcases d_.1 hc with rfl | hc
  ·exact .inr (.inr (.inr (.inl rfl)))
  ·exact aY2 n c hc
 | sym s =>
  have:=J4 hf;refine ⟨fun e=>?_,bm8 hf⟩;simp only [wd] at e;rw [e] at this;simp at this
 | num n =>
  obtain ⟨c,r,h1,_⟩:=bA3 n;exact ⟨by simp only [wd];rw [h1];simp,aY2 n⟩
theorem bN7 {v:V} (h:v.leafB=true) (hf:v.fine=true):wrd v.wd:=by
 obtain ⟨h1,h2⟩:=bE5 h hf;exact ⟨h1,fun c hc=>bR4 (h2 c hc)⟩
theorem bP5:∀v:V,∀R,bnd (v.tl++R):=fun v R=>by
 cases v with
 | nil=>exact bD3 R
 | _=>exact bD4 _
theorem ar2 {v:V} (hv:v.leafB=true) (h:v.fine=true):(∀R,bnd R->toks (v.txt++R)=v.tks++toks R)/\∀R,toks (v.tl++R)=v.tlk++toks R:=by
 have hw:=bN7 hv h;obtain ⟨k1,k2,k3,k4⟩:=bu8 hv;refine ⟨fun R hR=>?_,fun R=>?_⟩
 ·rw [k3,k1,aO0 hw hR];rfl
 ·rw [k4,k2]
  have e:[32,46,32]++v.wd++[41]++R=32 :: ([46]++(32 :: (v.wd++(41 :: R)))):=by simp
  rw [e,aO2,aO0 (w:=[46]) ⟨by simp,by intro c hc;simp at hc;subst hc;rfl⟩ (bD4 _),aO2,aO0 hw (bD3 _),aO1];rfl
theorem bW1:∀v:V,v.fine=true->(∀R,bnd R->toks (v.txt++R)=v.tks++toks R)/\∀R,toks (v.tl++R)=v.tlk++toks R:=by
 intro v;induction v with
 | pair a b iha ihb =>
  intro h;simp only [fine,b_] at h;obtain ⟨a1,a2⟩:=iha h.1;obtain ⟨b1,b2⟩:=ihb h.2;have hab:∀R,toks ((a.txt++b.tl)++R)=(a.tks++b.tlk)++toks R:=fun R=>by
   rw [z_,a1 _ (bP5 b R),b2 R,z_]
  refine ⟨fun R _=>?_,fun R=>?_⟩
  ·rw [txt_pair,bu7,j_,bi5,hab R];rfl
  ·rw [tl_pair,bu6,j_,aO2,hab R]
 | nil =>
  intro _;refine ⟨fun R _=>?_,fun R=>?_⟩
  ·show toks (40 :: 41 :: R)=_
   rw [bi5,aO1];rfl
  ·show toks (41 :: R)=_
   rw [aO1];rfl
 | var n=>exact ar2 (v:=.var n) rfl
 | sym s=>exact ar2 (v:=.sym s) rfl
 | num n=>exact ar2 (v:=.num n) rfl
end V
theorem V.fineLow:∀v:V,v.fine=true->v.low=true
 | .nil,_=>rfl
 | .var _,_=>rfl
 | .num _,_=>rfl
 | .sym s,h=>by simp [V.low,(J4 h).2]
 | .pair a b,h=>by
  simp only [V.fine,b_] at h;simp only [V.low,b_];exact ⟨V.fineLow a h.1,V.fineLow b h.2⟩
theorem bR3 {v:V} (h:v.ok=true):wtL v.enc<=80000:=by
 unfold V.ok at h;simp only [b_,decide_eq_true_eq] at h;have:=V.wt_low v (V.fineLow v h.1);omega
theorem aP6:∀(l:List V),l.all V.ok=true->wtR (l.map V.enc)<=80001 * l.length
 | [],_=>by simp [wtR]
 | v :: r,h=>by
  simp only [N_,b_] at h;have h1:=bR3 h.1;have h2:=aP6 r h.2;simp only [e_,wtR,c_];omega
def ax2 (p:Nat->Bool) (n:Nat):Nat:=(List.range n).findIdx p
theorem bG5 {p:Nat->Bool} {n k:Nat} (hk:k<=n) (h1:∀i,i<k->p i=false) (h2:k<n->p k=true):ax2 p n=k:=by
 unfold ax2;rcases B_ k n with h | h
 ·rw [List.findIdx_eq (by simpa using h)]
  simp only [List.getElem_range];exact ⟨h2 h,h1⟩
 ·obtain rfl:k=n:=by omega
  have:=List.findIdx_eq_length_of_false (p:=p) (xs:=List.range k) (fun x hx=>h1 x (Z_.1 hx));simpa using this
def bound (s:List Bd) (v:Int):Bool:=s.any (fun b=>b.var == v)
def cl4 (s:List Bd) (v:Int):Int:=
 match s[ax2 (fun i=>match s[i]? with | some b=>decide (v<=b.var) | none=>false) s.length]? with
 | some b=>if b.var=v then (ax2 (fun i=>match s[i]? with | some b=>decide (v<=b.var) | none=>false) s.length:Int) else -1
 | none=>-1
def geB (s:List Bd) (v:Int) (i:Nat):Bool:=match s[i]? with | some b=>decide (v<=b.var) | none=>false
theorem bX4 (s:List Bd) (v:Int):cl4 s v=match s[ax2 (geB s v) s.length]? with | some b=>if b.var=v then (ax2 (geB s v) s.length:Int) else -1 | none=>-1:=rfl
theorem ag9 {p:Nat->Bool} {n:Nat}:ax2 p n<=n/\(∀i,i<ax2 p n->p i=false)/\(ax2 p n<n->p (ax2 p n)=true):=by
 unfold ax2;have hl:(List.range n).findIdx p<=(List.range n).length:=List.findIdx_le_length;rw [List.length_range] at hl;refine ⟨hl,fun i hi=>?_,fun h=>?_⟩
 ·have:=List.not_of_lt_findIdx hi
  simpa using this
 ·have:=List.findIdx_getElem (w:=by simpa using h) (p:=p) (xs:=List.range n)
  simpa using this
def prs:List V->Option (List Bd)
 | []=>some []
 | .var i :: t :: r=>(match prs r with | some l=>some (⟨i,t.tm⟩ :: l) | none=>none)
 | _=>none
theorem cj5 (i:Int) (t:V) (r:List V):prs (.var i :: t :: r)=match prs r with | some l=>some (⟨i,t.tm⟩ :: l) | none=>none:=rfl
def Bd.mcnt (t:Bd):Nat:=4+Tm.mcnts t.to.args
def Bd.mrk (k:Int) (t:Bd):Bd:=⟨k,.mk (k+1) (k+2) (T9 (k+3)) (Tm.mrks (k+4) t.to.args)⟩
def Bd.mcnts:List Bd->Nat
 | []=>0
 | t :: r=>Bd.mcnt t+Bd.mcnts r
def Bd.mrks (k:Int):List Bd->List Bd
 | []=>[]
 | t :: r=>Bd.mrk k t :: Bd.mrks (k+t.mcnt) r
theorem Bd.mrks_len:∀(l:List Bd) (k:Int),(Bd.mrks k l).length=l.length
 | [],_=>rfl
 | t :: r,k=>by simp [Bd.mrks,Bd.mrks_len r]
theorem Bd.mcnts_app:∀(a b:List Bd),Bd.mcnts (a++b)=Bd.mcnts a+Bd.mcnts b
 | [],b=>by simp [Bd.mcnts]
 | t :: a,b=>by simp only [j_,Bd.mcnts,Bd.mcnts_app a b];omega
theorem Bd.mrks_app:∀(a b:List Bd) (k:Int),Bd.mrks k (a++b)=Bd.mrks k a++Bd.mrks (k+Bd.mcnts a) b
 | [],b,k=>by simp [Bd.mrks,Bd.mcnts]
 | t :: a,b,k=>by
  simp only [j_,Bd.mrks,Bd.mcnts,Bd.mrks_app a b];rw [show k+(t.mcnt:Int)+(Bd.mcnts a:Int)=k+((t.mcnt+Bd.mcnts a:Nat):Int) by omega]
theorem Bd.len_mcnts:∀l:List Bd,l.length<=Bd.mcnts l
 | []=>by simp
 | t :: r=>by have:=Bd.len_mcnts r;simp only [Bd.mcnts,Bd.mcnt,c_];omega
theorem Bd.mcnts_wt:∀l:List Bd,Bd.mcnts l<=4 * wtR (l.map Bd.enc)
 | []=>by simp [Bd.mcnts]
 | t :: r=>by
  have h1:=Bd.mcnts_wt r;have h2:=Tm.mcnts_wt t.to.args;simp only [Bd.mcnts,Bd.mcnt,e_,wtR,Bd.enc_eq,wtL,D.wt];omega
theorem Bd.mrks_at:∀(l:List Bd) (k:Int) (i:Nat) (x:Bd),l[i]? = some x->(Bd.mrks k l)[i]? = some (x.mrk (k+Bd.mcnts (l.take i)))
 | [],k,i,x,h=>by simp at h
 | t :: r,k,0,x,h=>by simp at h;subst h;simp [Bd.mrks,Bd.mcnts]
 | t :: r,k,i+1,x,h=>by
  simp only [g_] at h;simp only [Bd.mrks,g_,t_,Bd.mcnts];rw [Bd.mrks_at r _ i x h];rw [show k+(t.mcnt:Int)+(Bd.mcnts (r.take i):Int)=k+((t.mcnt+Bd.mcnts (r.take i):Nat):Int) by omega]
theorem Bd.wts (l:List Bd) (m:Nat) (h:∀x,x∈l->wtL x.to.enc<=m):wtR (l.map Bd.enc)<=(m+1) * l.length:=by
 induction l with
 | nil=>simp [wtR]
 | cons t r ih =>
  have h1:=h t (by simp);have h2:=ih (fun x hx=>h x (by simp [hx]));have h3:wtL t.enc=wtL t.to.enc:=by rw [Bd.enc_eq,Tm.enc_eq];simp only [wtL,D.wt];omega
  simp only [e_,wtR,c_,Nat.mul_add];omega
structure Lin {α:Type} (c:α->α->Int):Prop where
 zero:∀a b,c a b=0↔a=b
 neg:∀a b,c a b<0↔0<c b a
 tr:∀a b d,c a b<0->c b d<0->c a d<0
theorem aw9:∀a b:List UInt8,Op.bytesLess a b=true->Op.bytesLess b a=false
 | _,[],h=>by simp [Op.bytesLess] at h
 | [],_ :: _,_=>rfl
 | a :: r,b :: q,h=>by
  simp only [Op.bytesLess,P_,decide_eq_true_eq,b_,beq_iff_eq,G_,decide_eq_false_iff_not,ag_] at h |-;rcases h with h | ⟨h,h2⟩
  ·exact ⟨fun h'=>by rw [UInt8.lt_iff_toNat_lt] at h h';omega,fun e=>by subst e;exact absurd h (by rw [UInt8.lt_iff_toNat_lt];omega)⟩
  ·subst h
   exact ⟨by rw [UInt8.lt_iff_toNat_lt];omega,fun _=>aw9 r q h2⟩
theorem bs2:∀a b:List UInt8,a≠b->Op.bytesLess a b=false->Op.bytesLess b a=true
 | [],[],h,_=>absurd rfl h
 | _ :: _,[],_,_=>rfl
 | [],_ :: _,_,h=>by simp [Op.bytesLess] at h
 | a :: r,b :: q,h,h2=>by
  simp only [Op.bytesLess,P_,decide_eq_true_eq,b_,beq_iff_eq,G_,decide_eq_false_iff_not,ag_] at h2 |-;by_cases e:a=b
  ·subst e
   exact .inr ⟨rfl,bs2 r q (fun e=>h (by rw [e])) (h2.2 rfl)⟩
  ·left
   have h1:=h2.1;rw [UInt8.lt_iff_toNat_lt] at h1 |-;have:a.toNat≠b.toNat:=fun e'=>e (UInt8.toNat_inj.1 e');omega
theorem bL2:∀a b c:List UInt8,Op.bytesLess a b=true->Op.bytesLess b c=true->Op.bytesLess a c=true
 | _,[],_,h,_=>by simp [Op.bytesLess] at h
 | _,_ :: _,[],_,h=>by simp [Op.bytesLess] at h
 | [],_ :: _,_ :: _,_,_=>rfl
 | a :: r,b :: q,c :: s,h1,h2=>by
  simp only [Op.bytesLess,P_,decide_eq_true_eq,b_,beq_iff_eq] at h1 h2 |-;rcases h1 with h1 | ⟨e1,h1⟩<;>rcases h2 with h2 | ⟨e2,h2⟩
  ·left;rw [UInt8.lt_iff_toNat_lt] at h1 h2 |-;omega
  ·subst e2;exact .inl h1
  ·subst e1;exact .inl h2
  ·subst e1;subst e2;exact .inr ⟨rfl,bL2 r q s h1 h2⟩
def V.k3 (a b:V):Int:=if a.kind≠b.kind then (if a.kind<b.kind then -1 else 1) else if a.int≠b.int then (if a.int<b.int then -1 else 1) else if a.name≠b.name then (if Op.bytesLess a.name b.name then -1 else 1) else 0
def V.r3:V->V->Int
 | .pair a1 a2,.pair b1 b2=>if V.cmp a1 b1≠0 then V.cmp a1 b1 else V.cmp a2 b2
 | _,_=>0
theorem V.cmp_k3 (a b:V):V.cmp a b=if V.k3 a b≠0 then V.k3 a b else V.r3 a b:=by
 rw [V.cmp.eq_def];unfold V.k3 V.r3;by_cases h1:a.kind=b.kind
 ·by_cases h2:a.int=b.int
  ·by_cases h3:a.name=b.name
   ·simp only [h1,h2,h3,ne_eq,not_true,if_false,reduceIte]
    rfl
   ·simp only [h1,h2,h3,ne_eq,not_true,not_false_eq_true,if_false,if_true,reduceIte]
    split<;>simp
  ·simp only [h1,h2,ne_eq,not_true,not_false_eq_true,if_false,if_true,reduceIte]
   split<;>simp
 ·simp only [h1,ne_eq,not_false_eq_true,if_true,reduceIte]
  split<;>simp
theorem V.k3_zero (a b:V):V.k3 a b=0↔a.kind=b.kind/\a.int=b.int/\a.name=b.name:=by
 unfold V.k3;by_cases h1:a.kind=b.kind
 ·by_cases h2:a.int=b.int
  ·by_cases h3:a.name=b.name
   ·simp [h1,h2,h3]
   ·simp only [h1,h2,h3,ne_eq,not_true,not_false_eq_true,if_false,if_true,reduceIte]
    split<;>simp
  ·simp only [h1,h2,ne_eq,not_true,not_false_eq_true,if_false,if_true,reduceIte]
   split<;>simp
 ·simp only [h1,ne_eq,not_false_eq_true,if_true,reduceIte]
  split<;>simp
theorem V.k3_neg (a b:V):V.k3 a b<0↔a.kind<b.kind\/(a.kind=b.kind/\(a.int<b.int\/(a.int=b.int/\a.name≠b.name/\Op.bytesLess a.name b.name=true))):=by
 unfold V.k3;repeat' split
 all_goals simp_all
 all_goals omega
theorem V.k3_pos (a b:V):0<V.k3 a b↔b.kind<a.kind\/(a.kind=b.kind/\(b.int<a.int\/(a.int=b.int/\a.name≠b.name/\Op.bytesLess a.name b.name=false))):=by
 unfold V.k3;repeat' split
 all_goals simp_all
 all_goals omega
theorem V.k3_lin (a b:V):V.k3 a b<0↔0<V.k3 b a:=by
 rw [V.k3_neg,V.k3_pos];constructor
 ·rintro (h | ⟨h1,h | ⟨h2,h3,h4⟩⟩)
  ·exact .inl h
  ·exact .inr ⟨h1.symm,.inl h⟩
  ·exact .inr ⟨h1.symm,.inr ⟨h2.symm,fun e=>h3 e.symm,aw9 _ _ h4⟩⟩
 ·rintro (h | ⟨h1,h | ⟨h2,h3,h4⟩⟩)
  ·exact .inl h
  ·exact .inr ⟨h1.symm,.inl h⟩
  ·exact .inr ⟨h1.symm,.inr ⟨h2.symm,fun e=>h3 e.symm,bs2 _ _ h3 h4⟩⟩
theorem V.k3_tr (a b d:V) (h1:V.k3 a b<0) (h2:V.k3 b d<0):V.k3 a d<0:=by
 rw [V.k3_neg] at h1 h2 |-;rcases h1 with h1 | ⟨e1,h1 | ⟨f1,g1,h1⟩⟩<;>rcases h2 with h2 | ⟨e2,h2 | ⟨f2,g2,h2⟩⟩
 all_goals first
  | (left;omega)
  | (right;refine ⟨by omega,?_⟩;left;omega)
  | skip
 refine .inr ⟨by omega,.inr ⟨by omega,fun e=>?_,bL2 _ _ _ h1 h2⟩⟩;rw [<-e] at h2;rw [aw9 _ _ h1] at h2;cases h2
theorem V.k3_eq {a b:V} (h:V.k3 a b=0) (d:V):V.k3 a d=V.k3 b d/\V.k3 d a=V.k3 d b:=by
 obtain ⟨h1,h2,h3⟩:=(V.k3_zero a b).1 h;unfold V.k3;rw [h1,h2,h3];exact ⟨rfl,rfl⟩
theorem V.cmp_zero:∀a b:V,V.cmp a b=0↔a=b:=by
 intro a;induction a with
 | pair a1 a2 ih1 ih2 =>
  intro b;rw [V.cmp_k3];by_cases hk:V.k3 (.pair a1 a2) b=0
  ·rw [if_neg (by simpa using hk)]
   obtain ⟨h1,_,_⟩:=(V.k3_zero _ _).1 hk;cases b with
   | pair b1 b2 =>
    simp only [V.r3];by_cases h:V.cmp a1 b1=0
    ·rw [if_neg (by simpa using h),ih2 b2]
     have:=(ih1 b1).1 h;subst this;simp
    ·rw [if_pos h]
     have:¬a1=b1:=fun e=>h ((ih1 b1).2 e);simp [h,this]
   | _=>simp [V.kind] at h1
  ·rw [if_pos hk]
   refine ⟨fun h=>absurd h hk,fun e=>?_⟩;subst e;exact absurd ((V.k3_zero _ _).2 ⟨rfl,rfl,rfl⟩) hk
 | _ =>
  intro b;rw [V.cmp_k3];split
  ·rename_i hk
   refine ⟨fun h=>absurd h hk,fun e=>?_⟩;subst e;exact absurd ((V.k3_zero _ _).2 ⟨rfl,rfl,rfl⟩) hk
  ·rename_i hk
   have hk:=(V.k3_zero _ _).1 (Decidable.not_not.1 hk);cases b<;>simp_all [V.kind,V.int,V.name,V.r3]
theorem V.cmp_neg:∀a b:V,V.cmp a b<0↔0<V.cmp b a:=by
 intro a;induction a with
 | pair a1 a2 ih1 ih2 =>
  intro b;rw [V.cmp_k3,V.cmp_k3 b];have hl:=V.k3_lin (.pair a1 a2) b;have hl2:=V.k3_lin b (.pair a1 a2);by_cases hk:V.k3 (.pair a1 a2) b=0
  ·have hk2:V.k3 b (.pair a1 a2)=0:=by omega
   rw [if_neg (by simpa using hk),if_neg (by simpa using hk2)];obtain ⟨h1,_,_⟩:=(V.k3_zero _ _).1 hk;cases b with
   | pair b1 b2 =>
    simp only [V.r3];have i1:=ih1 b1;have i2:=ih2 b2;by_cases h:V.cmp a1 b1=0
    ·have e:=(V.cmp_zero _ _).1 h
     subst e;rw [if_neg (by simpa using h),if_neg (by simpa using h)];exact i2
    ·have h':V.cmp b1 a1≠0:=fun e=>h ((V.cmp_zero _ _).2 ((V.cmp_zero _ _).1 e).symm)
     rw [if_pos h,if_pos h'];exact i1
   | _=>simp [V.kind] at h1
  ·have hk2:V.k3 b (.pair a1 a2)≠0:=by omega
   rw [if_pos hk,if_pos hk2];exact hl
 | _ =>
  intro b;rw [V.cmp_k3,V.cmp_k3 b]
  first
   | (have hl:=V.k3_lin V.nil b;have hl2:=V.k3_lin b V.nil)
   | skip
  split
  ·rename_i hk
   rw [if_pos (by have h1:=(V.k3_lin b);intro e;have:=(V.k3_zero _ _).1 e;exact hk ((V.k3_zero _ _).2 ⟨this.1.symm,this.2.1.symm,this.2.2.symm⟩))];exact V.k3_lin _ _
  ·rename_i hk
   have hk:=(V.k3_zero _ _).1 (Decidable.not_not.1 hk);rw [if_neg (by have:=(V.k3_zero b _).2 ⟨hk.1.symm,hk.2.1.symm,hk.2.2.symm⟩;simpa using this)];cases b<;>simp_all [V.kind,V.int,V.name,V.r3]
theorem V.cmp_tr:∀a b d:V,V.cmp a b<0->V.cmp b d<0->V.cmp a d<0:=by
 intro a;induction a with
 | pair a1 a2 ih1 ih2 =>
  intro b d h1 h2;rw [V.cmp_k3] at h1 h2 |-;by_cases k1:V.k3 (.pair a1 a2) b=0
  ·rw [if_neg (by simpa using k1)] at h1
   rw [(V.k3_eq k1 d).1];by_cases k2:V.k3 b d=0
   ·rw [if_neg (by simpa using k2)] at h2 |-
    obtain ⟨e1,_,_⟩:=(V.k3_zero _ _).1 k1;obtain ⟨e2,_,_⟩:=(V.k3_zero _ _).1 k2;cases b with
    | pair b1 b2 =>
     cases d with
     | pair d1 d2 =>
      simp only [V.r3] at h1 h2 |-;by_cases c1:V.cmp a1 b1=0
      ·have:=(V.cmp_zero _ _).1 c1
       subst this;rw [if_neg (by simpa using c1)] at h1;by_cases c2:V.cmp a1 d1=0
       ·rw [if_neg (by simpa using c2)] at h2 |-
        exact ih2 _ _ h1 h2
       ·rw [if_pos c2] at h2 |-;exact h2
      ·rw [if_pos c1] at h1
       by_cases c2:V.cmp b1 d1=0
       ·have:=(V.cmp_zero _ _).1 c2
        subst this;rw [if_pos c1];exact h1
       ·rw [if_pos c2] at h2
        have h3:=ih1 _ _ h1 h2;rw [if_pos (by omega)];exact h3
     | _=>simp [V.kind] at e2
    | _=>simp [V.kind] at e1
   ·rw [if_pos k2] at h2 |-;exact h2
  ·rw [if_pos k1] at h1
   by_cases k2:V.k3 b d=0
   ·rw [<-(V.k3_eq k2 (.pair a1 a2)).2,if_pos k1];exact h1
   ·rw [if_pos k2] at h2
    have h3:=V.k3_tr _ _ _ h1 h2;rw [if_pos (by omega)];exact h3
 | _ =>
  intro b d h1 h2;rw [V.cmp_k3] at h1 h2 |-;split at h1
  ·rename_i k1
   split at h2
   ·rename_i k2
    have h3:=V.k3_tr _ _ _ h1 h2;rw [if_pos (by omega)];exact h3
   ·rename_i k2
    have k2:=Decidable.not_not.1 k2;rw [<-(V.k3_eq k2 _).2,if_pos k1];exact h1
  ·rename_i k1
   have hk:=(V.k3_zero _ _).1 (Decidable.not_not.1 k1);cases b<;>simp_all [V.kind,V.int,V.name,V.r3]
theorem V.cmp_lin:Lin V.cmp:=⟨V.cmp_zero,V.cmp_neg,V.cmp_tr⟩
theorem V.cmpL_lin:Lin V.cmpL:=by
 have z:∀a b:List V,V.cmpL a b=0↔a=b:=by
  intro a;induction a with
  | nil =>
   intro b;rw [V.cmpL_nil_left];unfold F7;cases b with
   | nil=>simp
   | cons x r=>simp
  | cons x r ih =>
   intro b;cases b with
   | nil=>rw [V.cmpL_nil_right];unfold F7;simp;split<;>omega
   | cons y q =>
    rw [V.cmpL_cons];by_cases h:V.cmp x y=0
    ·have:=(V.cmp_zero _ _).1 h
     subst this;rw [if_neg (by simpa using h),ih q];simp
    ·rw [if_pos h]
     have:¬x=y:=fun e=>h ((V.cmp_zero _ _).2 e);simp [h,this]
 refine ⟨z,?_,?_⟩
 ·intro a
  induction a with
  | nil =>
   intro b;rw [V.cmpL_nil_left,V.cmpL_nil_right];unfold F7;repeat' split
   all_goals omega
  | cons x r ih =>
   intro b;cases b with
   | nil =>
    rw [V.cmpL_nil_left,V.cmpL_nil_right];unfold F7;repeat' split
    all_goals omega
   | cons y q =>
    rw [V.cmpL_cons,V.cmpL_cons];by_cases h:V.cmp x y=0
    ·have:=(V.cmp_zero _ _).1 h
     subst this;rw [if_neg (by simpa using h),if_neg (by simpa using h)];exact ih q
    ·have h':V.cmp y x≠0:=fun e=>h ((V.cmp_zero _ _).2 ((V.cmp_zero _ _).1 e).symm)
     rw [if_pos h,if_pos h'];exact V.cmp_neg x y
 ·intro a
  induction a with
  | nil =>
   intro b d h1 h2;rw [V.cmpL_nil_left] at h1 |-;cases d with
   | nil =>
    rw [V.cmpL_nil_right] at h2;unfold F7 at h1 h2;exfalso;revert h1 h2
    repeat' split
    all_goals omega
   | cons=>unfold F7;rw [if_pos (by simp)];omega
  | cons x r ih =>
   intro b d h1 h2;cases b with
   | nil =>
    rw [V.cmpL_nil_right] at h1;exfalso;revert h1;unfold F7;repeat' split
    all_goals simp_all
    all_goals omega
   | cons y q =>
    cases d with
    | nil =>
     rw [V.cmpL_nil_right] at h2;exfalso;revert h2;unfold F7;repeat' split
     all_goals simp_all
     all_goals omega
    | cons w s =>
     rw [V.cmpL_cons] at h1 h2 |-;by_cases c1:V.cmp x y=0
     ·have:=(V.cmp_zero _ _).1 c1
      subst this;rw [if_neg (by simpa using c1)] at h1;by_cases c2:V.cmp x w=0
      ·rw [if_neg (by simpa using c2)] at h2 |-
       exact ih _ _ h1 h2
      ·rw [if_pos c2] at h2 |-;exact h2
     ·rw [if_pos c1] at h1
      by_cases c2:V.cmp y w=0
      ·have:=(V.cmp_zero _ _).1 c2
       subst this;rw [if_pos c1];exact h1
      ·rw [if_pos c2] at h2
       have h3:=V.cmp_tr _ _ _ h1 h2;rw [if_pos (by omega)];exact h3
def FcV.cmp (a b:FcV):Int:=O6 a.1 a.2 b.1 b.2
theorem FcV.cmp_lin:Lin FcV.cmp:=by
 have hL:=V.cmpL_lin;refine ⟨fun a b=>?_,fun a b=>?_,fun a b d h1 h2=>?_⟩
 ·obtain ⟨r,l⟩:=a
  obtain ⟨q,m⟩:=b;unfold FcV.cmp O6;by_cases h:r=q
  ·subst h
   simp [hL.zero]
  ·rw [if_pos h]
   simp only [Prod.mk.injEq,h,false_and,iff_false];split<;>omega
 ·obtain ⟨r,l⟩:=a
  obtain ⟨q,m⟩:=b;unfold FcV.cmp O6;by_cases h:r=q
  ·subst h
   simp only [ne_eq,not_true,if_false,reduceIte];exact hL.neg l m
  ·rw [if_pos h,if_pos (fun e=>h e.symm)]
   dsimp only;cases hb:Op.bytesLess r q with
   | true=>rw [aw9 _ _ hb];simp
   | false=>rw [bs2 _ _ h hb];simp
 ·obtain ⟨r,l⟩:=a
  obtain ⟨q,m⟩:=b;obtain ⟨s,k⟩:=d;unfold FcV.cmp O6 at *;by_cases e1:r=q
  ·subst e1
   by_cases e2:r=s
   ·subst e2
    simp only [ne_eq,not_true,if_false,reduceIte] at *;exact hL.tr _ _ _ h1 h2
   ·rw [if_pos e2] at h2 |-;exact h2
  ·rw [if_pos e1] at h1
   by_cases e2:q=s
   ·subst e2;rw [if_pos e1];exact h1
   ·rw [if_pos e2] at h2
    have b1:Op.bytesLess r q=true:=by
     cases hb:Op.bytesLess r q with
     | true=>rfl
     | false=>rw [hb] at h1;simp at h1
    have b2:Op.bytesLess q s=true:=by
     cases hb:Op.bytesLess q s with
     | true=>rfl
     | false=>rw [hb] at h2;simp at h2
    have b3:=bL2 _ _ _ b1 b2;have e3:r≠s:=fun e=>by subst e;rw [aw9 _ _ b1] at b2;cases b2
    rw [if_pos e3,b3];simp
section
variable {α:Type} {c:α->α->Int}
theorem Lin.irr (h:Lin c) (a:α):c a a=0:=(h.zero a a).2 rfl
theorem Lin.pos (h:Lin c) {a b:α}:0<c a b↔c b a<0:=(h.neg b a).symm
theorem Lin.wk (h:Lin c):Wk (fun a b=>decide (c a b<0)):=by
 refine ⟨fun a b hab=>?_,fun a b d h1 h2=>?_⟩
 ·simp only [decide_eq_true_eq,decide_eq_false_iff_not] at hab |-
  have:=(h.neg a b).1 hab;omega
 ·simp only [decide_eq_false_iff_not] at h1 h2 |-
  intro h3;by_cases e:c b a=0
  ·have:=(h.zero _ _).1 e;subst this;exact h2 h3
  ·by_cases e2:c d b=0
   ·have:=(h.zero _ _).1 e2;subst this;exact h1 h3
   ·have k1:c a b<0:=(h.neg a b).2 (by omega)
    have k2:c b d<0:=(h.neg b d).2 (by omega);have k3:=h.tr _ _ _ k1 k2;have:=(h.neg a d).1 k3;omega
def an8 (c:α->α->Int) (l:List α):Prop:=l.Pairwise fun a b=>c a b<0
def ap4 (c:α->α->Int):List α->α->List α
 | [],x=>[x]
 | y :: r,x=>if c y x<0 then y :: ap4 c r x else if c y x=0 then y :: r else x :: y :: r
def ao0 (c:α->α->Int) (l:List α):List α:=l.foldl (ap4 c) []
theorem aE9 (h:Lin c):∀(l:List α) (x z:α),z∈ap4 c l x↔z=x\/z∈l
 | [],x,z=>by simp [ap4]
 | y :: r,x,z=>by
  unfold ap4;split
  ·simp only [d_,aE9 h r x z]
   constructor
   ·rintro (h | h | h)<;>simp [h]
   ·rintro (h | h | h)<;>simp [h]
  ·split
   ·rename_i e
    have:=(h.zero _ _).1 e;subst this;simp
   ·simp
theorem aX0 (h:Lin c):∀(l:List α) (x:α),an8 c l->an8 c (ap4 c l x)
 | [],x,_=>List.pairwise_singleton _ _
 | y :: r,x,ha=>by
  unfold an8 at ha |-;rw [k_] at ha;unfold ap4;split
  ·rename_i hy
   rw [k_];refine ⟨fun z hz=>?_,aX0 h r x ha.2⟩;rcases (aE9 h r x z).1 hz with rfl | hz
   ·exact hy
   ·exact ha.1 z hz
  ·split
   ·exact k_.2 ha
   ·rename_i h1 h2
    have hxy:c x y<0:=(h.neg x y).2 (by omega);rw [k_];refine ⟨fun z hz=>?_,k_.2 ha⟩;rcases d_.1 hz with rfl | hz
    ·exact hxy
    ·exact h.tr _ _ _ hxy (ha.1 z hz)
theorem al1 (h:Lin c):∀(l acc:List α),an8 c acc->an8 c (l.foldl (ap4 c) acc)/\∀z,z∈l.foldl (ap4 c) acc↔z∈acc\/z∈l
 | [],acc,ha=>⟨ha,fun z=>by simp⟩
 | x :: r,acc,ha=>by
  obtain ⟨h1,h2⟩:=al1 h r (ap4 c acc x) (aX0 h acc x ha);refine ⟨h1,fun z=>?_⟩;rw [J_,h2,aE9 h];simp only [d_];constructor
  ·rintro ((h | h) | h)<;>simp [h]
  ·rintro (h | h | h)<;>simp [h]
theorem ar5 (h:Lin c) (l:List α):an8 c (ao0 c l):=(al1 h l [] List.Pairwise.nil).1
theorem aJ0 (h:Lin c) (l:List α) (z:α):z∈ao0 c l↔z∈l:=by
 have:=(al1 h l [] List.Pairwise.nil).2 z;unfold ao0;simpa using this
theorem aY7 (h:Lin c):∀(l m:List α),an8 c l->an8 c m->(∀z,z∈l↔z∈m)->l=m
 | [],[],_,_,_=>rfl
 | [],y :: q,_,_,he=>by have:=(he y).2 (by simp);simp at this
 | x :: r,[],_,_,he=>by have:=(he x).1 (by simp);simp at this
 | x :: r,y :: q,hl,hm,he=>by
  unfold an8 at hl hm;rw [k_] at hl hm;have hxy:x=y:=by
   rcases d_.1 ((he x).1 (by simp)) with e | e
   ·exact e
   ·rcases d_.1 ((he y).2 (by simp)) with e' | e'
    ·exact e'.symm
    ·have h1:=hm.1 x e
     have h2:=hl.1 y e';have:=(h.neg x y).1 h2;omega
  subst hxy;congr 1;refine aY7 h r q hl.2 hm.2 (fun z=>⟨fun hz=>?_,fun hz=>?_⟩)
  ·rcases d_.1 ((he z).1 (by simp [hz])) with e | e
   ·subst e;have:=hl.1 z hz;rw [h.irr] at this;omega
   ·exact e
  ·rcases d_.1 ((he z).2 (by simp [hz])) with e | e
   ·subst e;have:=hm.1 z hz;rw [h.irr] at this;omega
   ·exact e
def ddC (c:α->α->Int):Option α->List α->List α
 | _,[]=>[]
 | none,x :: r=>x :: ddC c (some x) r
 | some y,x :: r=>if c y x=0 then ddC c (some x) r else x :: ddC c (some x) r
theorem aG1 (h:Lin c):∀(l:List α) (y:α),l.Pairwise (fun a b=>¬c b a<0)->(∀z,z∈l->¬c z y<0)->an8 c (ddC c (some y) l)/\(∀z,z∈ddC c (some y) l->c y z<0)/\∀z,z∈ddC c (some y) l\/z=y↔z∈l\/z=y
 | [],y,_,_=>⟨List.Pairwise.nil,fun z hz=>by simp [ddC] at hz,fun z=>by simp [ddC]⟩
 | x :: r,y,hp,hy=>by
  rw [k_] at hp;have hyx:=hy x (by simp);obtain ⟨i1,i2,i3⟩:=aG1 h r x hp.2 hp.1;unfold ddC;split
  ·rename_i e
   have:=(h.zero _ _).1 e;subst this;refine ⟨i1,i2,fun z=>?_⟩;rw [i3 z];simp only [d_];constructor
   ·rintro (h | h)<;>simp [h]
   ·rintro ((h | h) | h)<;>simp [h]
  ·rename_i e
   have hlt:c y x<0:=by
    have:=(h.neg x y);have:=(h.pos (a:=y) (b:=x));omega
   refine ⟨k_.2 ⟨i2,i1⟩,fun z hz=>?_,fun z=>?_⟩
   ·rcases d_.1 hz with rfl | hz
    ·exact hlt
    ·exact h.tr _ _ _ hlt (i2 z hz)
   ·have:=i3 z
    simp only [d_];constructor
    ·rintro ((e | e) | e)
     ·exact .inl (.inl e)
     ·rcases this.1 (.inl e) with e' | e'
      ·exact .inl (.inr e')
      ·exact .inl (.inl e')
     ·exact .inr e
    ·rintro ((e | e) | e)
     ·exact .inl (.inl e)
     ·rcases this.2 (.inl e) with e' | e'
      ·exact .inl (.inr e')
      ·exact .inl (.inl e')
     ·exact .inr e
theorem bA4 (h:Lin c) {l s:List α} (hm:∀z,z∈s↔z∈l) (hs:s.Pairwise (fun a b=>¬c b a<0)):ddC c none s=ao0 c l:=by
 refine aY7 h _ _ ?_ (ar5 h l) (fun z=>?_)
 ·cases s with
  | nil=>exact List.Pairwise.nil
  | cons x r =>
   rw [k_] at hs;obtain ⟨i1,i2,_⟩:=aG1 h r x hs.2 hs.1;exact k_.2 ⟨i2,i1⟩
 ·rw [aJ0 h,<-hm z]
  cases s with
  | nil=>simp [ddC]
  | cons x r =>
   rw [k_] at hs;obtain ⟨_,_,i3⟩:=aG1 h r x hs.2 hs.1;have:=i3 z;show z∈x :: ddC c (some x) r↔_;simp only [d_];constructor
   ·rintro (e | e)
    ·exact .inl e
    ·rcases this.1 (.inl e) with e' | e'
     ·exact .inr e'
     ·exact .inl e'
   ·rintro (e | e)
    ·exact .inl e
    ·rcases this.2 (.inl e) with e' | e'
     ·exact .inr e'
     ·exact .inl e'
theorem bA5 (l:List α) (p:Option α) (x:α):ddC c p (l++[x])=ddC c p l++(match (p.toList++l).getLast? with | some y=>if c y x=0 then [] else [x] | none=>[x]):=by
 induction l generalizing p with
 | nil=>cases p with
  | none=>rfl
  | some y=>simp only [C_,ddC,Option.toList_some,K_,List.getLast?_singleton]
 | cons y r ih =>
  have hl:((some y).toList++r).getLast? = (p.toList++y :: r).getLast?:=by
   cases p with
   | none=>rfl
   | some w=>exact (List.getLast?_cons_cons ..).symm
  cases p with
  | none =>
   simp only [j_,ddC];rw [ih (some y),hl];try simp
  | some w =>
   simp only [j_,ddC];split
   ·rw [ih (some y),hl]
   ·rw [ih (some y),hl]
    rfl
def geC (c:α->α->Int) (l:List α) (f:α) (i:Nat):Bool:=match l[i]? with | some x=>decide (0<=c x f) | none=>false
theorem aT5 {l:List α} (ha:an8 c l) {i j:Nat} {a b:α} (hij:i<j) (h1:l[i]? = some a) (h2:l[j]? = some b):c a b<0:=by
 obtain ⟨k1,rfl⟩:=o_.1 h1;obtain ⟨k2,rfl⟩:=o_.1 h2;exact List.pairwise_iff_getElem.1 ha i j k1 k2 hij
theorem bz2 (h:Lin c) {l:List α} (ha:an8 c l) (f:α):∀i j,i<=j->j<l.length->geC c l f i=true->geC c l f j=true:=by
 intro i j hij hj hi;unfold geC at hi |-;have hbj:l[j]? = some l[j]:=a_ hj;have hbi:l[i]? = some (l[i]'(by omega)):=a_ (by omega);rw [hbi] at hi;rw [hbj];simp only [decide_eq_true_eq] at hi |-;rcases B_ i j with k | k
 ·have h1:=aT5 ha k hbi hbj
  rcases Int.lt_or_le (c l[j] f) 0 with h2 | h2
  ·have:=h.tr _ _ _ h1 h2;omega
  ·exact h2
 ·obtain rfl:i=j:=by omega
  exact hi
theorem bv6 (h:Lin c) {l:List α} (ha:an8 c l) (f:α):(match l[ax2 (geC c l f) l.length]? with | some x=>c x f=0 | none=>False)↔f∈l:=by
 obtain ⟨k1,k2,k3⟩:=ag9 (p:=geC c l f) (n:=l.length);generalize ax2 (geC c l f) l.length=k at k1 k2 k3;constructor
 ·intro hh
  split at hh
  ·rename_i x hx
   rw [<-(h.zero _ _).1 hh];exact i_ hx
  ·exact hh.elim
 ·intro hf
  obtain ⟨j,hj⟩:=List.getElem?_of_mem hf;have hjl:=(o_.1 hj).1;have hgj:geC c l f j=true:=by unfold geC;rw [hj];simp [h.irr]
  have hkj:k<=j:=by
   rcases B_ j k with e | e
   ·rw [k2 j e] at hgj;cases hgj
   ·exact e
  have hkl:k<l.length:=by omega
  have hbk:l[k]? = some l[k]:=a_ hkl;have hgk:=k3 hkl;unfold geC at hgk;rw [hbk] at hgk |-;simp only [decide_eq_true_eq] at hgk;dsimp only;rcases B_ k j with e | e
  ·have:=aT5 ha e hbk hj;omega
  ·obtain rfl:k=j:=by omega
   rw [hj] at hbk;cases hbk;exact h.irr _
def aF6 (c:α->α->Int) (l:List α) (k:Nat) (x:α):Bool:=match l[k]? with | some y=>decide (c y x=0) | none=>false
theorem bo9 (h:Lin c):∀(l:List α) (x:α) (k:Nat),an8 c l->k<=l.length->(∀i y,i<k->l[i]? = some y->c y x<0)->(∀i y,k<=i->l[i]? = some y->¬c y x<0) ->
  ap4 c l x=if aF6 c l k x then l else l.take k++x :: l.drop k
 | [],x,k,_,hk,_,_=>by
  have:k=0:=by simpa using hk
  subst this;simp [ap4,aF6]
 | y :: r,x,0,ha,hk,h1,h2=>by
  have:=h2 0 y (n_ _) rfl;unfold ap4;rw [if_neg this];simp [aF6]
 | y :: r,x,k+1,ha,hk,h1,h2=>by
  have hy:=h1 0 y (by omega) rfl;unfold ap4;rw [if_pos hy];unfold an8 at ha;rw [k_] at ha;rw [bo9 h r x k ha.2 (by simpa using hk) (fun i z hi hz=>h1 (i+1) z (by omega) (by simpa using hz)) (fun i z hi hz=>h2 (i+1) z (by omega) (by simpa using hz))];have e:aF6 c (y :: r) (k+1) x=aF6 c r k x:=rfl;rw [e];cases aF6 c r k x<;>rfl
end
def aq9:Option V->List Tm->Bool
 | _,[]=>true
 | p,t :: r=>t.ground && (match p with | some q=>decide (q.cmp t.V<0) | none=>true) && aq9 (some t.V) r
def S9 (u:List Tm):Bool:=decide (1<=u.length) && decide (u.length<=8) && aq9 none u
theorem aU4:∀(u:List Tm) (p:Option V),aq9 p u=true->an8 V.cmp (u.map Tm.V)/\(∀q,p=some q->∀t,t∈u->q.cmp t.V<0)/\u.all Tm.ground=true
 | [],_,_=>⟨List.Pairwise.nil,fun _ _ t ht=>by simp at ht,rfl⟩
 | t :: r,p,h=>by
  simp only [aq9,b_] at h;obtain ⟨i1,i2,i3⟩:=aU4 r _ h.2;refine ⟨k_.2 ⟨fun z hz=>?_,i1⟩,fun q hq x hx=>?_,by simp [h.1.1,i3]⟩
  ·obtain ⟨x,hx,rfl⟩:=q_.1 hz
   exact i2 _ rfl x hx
  ·subst hq
   have h0:=h.1.2;simp only [decide_eq_true_eq] at h0;rcases d_.1 hx with rfl | hx
   ·exact h0
   ·exact V.cmp_tr _ _ _ h0 (i2 _ rfl x hx)
structure Uni (u:List V):Prop where
 pos:1<=u.length
 le:u.length<=8
 ok:∀v,v∈u->v.ok=true
 gr:∀v,v∈u->v.vars=[]
 asc:an8 V.cmp u
theorem Uni.of {u:List Tm} (h:S9 u=true):Uni (u.map Tm.V)/\u=(u.map Tm.V).map V.tm:=by
 unfold S9 at h;simp only [b_,decide_eq_true_eq] at h;obtain ⟨h1,_,h3⟩:=aU4 u none h.2;have hg:∀t,t∈u->t.ground=true:=l_.1 h3;refine ⟨⟨by simpa using h.1.1,by simpa using h.1.2,fun v hv=>?_,fun v hv=>?_,h1⟩,bp7 h3⟩
 ·obtain ⟨t,ht,rfl⟩:=q_.1 hv
  obtain ⟨v,e1,e2⟩:=aD0 (F8 (hg t ht));rw [e1];have:(V.tm v).V=v:=by
   unfold V.ok at e2;rw [b_] at e2;simp [Tm.V,V.v?_tm v e2.1]
  rw [this];exact e2
 ·obtain ⟨t,ht,rfl⟩:=q_.1 hv
  have hk:=F8 (hg t ht);have h4:=hg t ht;unfold Tm.ground at h4;simp only [b_,decide_eq_true_eq] at h4;rw [<-Tm.vars_V hk];exact h4.2
structure RV where
 head:FcV
 clause:Int
 values:List V
 pos:List FcV
 neg:List FcV
def RV.ru (r:RV):Ru:=⟨r.head.fc,r.clause,r.values.map V.tm,r.pos.map FcV.fc,r.neg.map FcV.fc⟩
def H8 (u:List V):Nat->Nat->List V
 | 0,_=>[]
 | n+1,k=>u.getD (k % u.length) .nil :: H8 u n (k / u.length)
theorem Y3 (u:List V):∀n k,(H8 u n k).length=n
 | 0,_=>rfl
 | n+1,k=>by simp [H8,Y3 u n]
theorem Y2 {u:List V} (h:1<=u.length):∀n k v,v∈H8 u n k->v∈u
 | 0,_,_,hv=>by simp [H8] at hv
 | n+1,k,v,hv=>by
  rcases d_.1 hv with rfl | hv
  ·have hlt:k % u.length<u.length:=Nat.mod_lt _ (by omega)
   rw [r_,a_ hlt];exact y_ _
  ·exact Y2 h n _ v hv
def aF1 (u:List V) (f:FcV):Bool:=f.2.all fun t=>decide (t∈u)
def aV8 (r:Rl) (i:Int) (c:List Gl) (vs:List V):RV:=⟨(r.name,vs.take r.arity.toNat),i,vs,C9 (l9 vs) c,z8 (l9 vs) c⟩
theorem bG6 (r:Rl) (i:Int) (c:List Gl) (vs:List V):(aV8 r i c vs).ru=bQ4 r i vs c:=by
 unfold aV8 RV.ru bQ4 FcV.fc;simp [List.map_take]
def ah0 (u:List V) (c:List Gl) (vs:List V):Bool:=F5 (l9 vs) c && (C9 (l9 vs) c).all (aF1 u) && (z8 (l9 vs) c).all (aF1 u)
def rvK (u:List V) (r:Rl) (i:Int) (c:List Gl) (k:Nat):Option RV:=
 if ah0 u c (H8 u (r.arity+r.locals).toNat k)=true then some (aV8 r i c (H8 u (r.arity+r.locals).toNat k)) else none
def ba4 (u:List V) (r:Rl) (i:Int) (c:List Gl):Nat->Nat->List RV
 | _,0=>[]
 | k,m+1=>(rvK u r i c k).toList++ba4 u r i c (k+1) m
def aJ5 (u:List V) (r:Rl) (n:Nat):Int->List (List Gl)->List RV
 | _,[]=>[]
 | i,c :: cs=>ba4 u r i c 0 n++aJ5 u r n (i+1) cs
def Rl.ways (u:List V) (r:Rl):Nat:=u.length ^ (r.arity+r.locals).toNat
def Pg.gnd (u:List V):List Rl->List RV
 | []=>[]
 | r :: rs=>aJ5 u r (r.ways u) 0 r.body.clsS++Pg.gnd u rs
def Rl.gOk (u:List V) (r:Rl):Bool:=decide (r.body.clsS.length<=64) && decide (r.ways u<=4096)
def Pg.gr (p:Pg) (u:List V):Option (List RV):=if p.rels.all (Rl.gOk u)=true/\(Pg.gnd u p.rels).length<=2000 then some (Pg.gnd u p.rels) else none
def RV.fires (F G:List FcV) (r:RV):Bool:=r.pos.all (fun f=>decide (f∈F)) && r.neg.all fun f=>!decide (f∈G)
def ab5 (rs:List RV) (F G:List FcV):List FcV:=ao0 FcV.cmp ((rs.filter (RV.fires F G)).map RV.head)
theorem ah7 {rs:List RV} {F G:List FcV} {f:FcV}:f∈ab5 rs F G↔∃r,r∈rs/\r.fires F G=true/\r.head=f:=by
 unfold ab5;rw [aJ0 FcV.cmp_lin,q_];constructor
 ·rintro ⟨r,h1,h2⟩
  rw [List.mem_filter] at h1;exact ⟨r,h1.1,h1.2,h2⟩
 ·rintro ⟨r,h1,h2,h3⟩
  exact ⟨r,List.mem_filter.2 ⟨h1,h2⟩,h3⟩
theorem bm6 (rs:List RV) (F G:List FcV):an8 FcV.cmp (ab5 rs F G):=ar5 FcV.cmp_lin _
theorem bm4 {rs:List RV} {F F':List FcV} (h:∀f,f∈F->f∈F'):∀f,f∈ab5 rs F []->f∈ab5 rs F' []:=fun f hf=>by
 rw [ah7] at hf |-;obtain ⟨r,h1,h2,h3⟩:=hf;refine ⟨r,h1,?_,h3⟩;unfold RV.fires at h2 |-;simp only [b_,l_,decide_eq_true_eq] at h2 |-;exact ⟨fun x hx=>h x (h2.1 x hx),h2.2⟩
theorem aJ1 {α:Type} {c:α->α->Int} (l:List α):(ao0 c l).length<=l.length:=by
 have ins:∀(l:List α) (x:α),(ap4 c l x).length<=l.length+1:=fun l x=>by
  induction l with
  | nil=>simp [ap4]
  | cons y r ih =>
   unfold ap4;split
   ·simp only [c_];omega
   ·split<;>simp
 have key:∀(l acc:List α),(l.foldl (ap4 c) acc).length<=acc.length+l.length:=fun l=>by
  induction l with
  | nil=>simp
  | cons x r ih =>
   intro acc;have h1:=ih (ap4 c acc x);have h2:=ins acc x;simp only [J_,c_];omega
 have:=key l [];simpa [ao0] using this
theorem bm5 (rs:List RV) (F G:List FcV):(ab5 rs F G).length<=rs.length:=by
 have h1:=aJ1 (c:=FcV.cmp) ((rs.filter (RV.fires F G)).map RV.head);rw [s_] at h1;exact Nat.le_trans h1 (Q_ _ _)
theorem ap8 {α:Type} {c:α->α->Int} (h:Lin c):∀(l m:List α),an8 c l->an8 c m->(∀z,z∈l->z∈m)->l.length<=m.length/\(l.length=m.length->l=m)
 | [],m,_,_,_=>⟨by simp,fun e=>by cases m with | nil=>rfl | cons=>simp at e⟩
 | x :: r,[],_,_,hs=>by have:=hs x (by simp);simp at this
 | x :: r,y :: q,hl,hm,hs=>by
  have hl':=hl;have hm':=hm;unfold an8 at hl' hm';rw [k_] at hl' hm';rcases d_.1 (hs x (by simp)) with e | e
  ·subst e
   obtain ⟨i1,i2⟩:=ap8 h r q hl'.2 hm'.2 (fun z hz=>by
    rcases d_.1 (hs z (by simp [hz])) with e | e
    ·subst e;have:=hl'.1 z hz;rw [h.irr] at this;omega
    ·exact e)
   exact ⟨by simp only [c_];omega,fun e=>by rw [i2 (by simpa using e)]⟩
  ·have h1:=hm'.1 x e
   obtain ⟨i1,i2⟩:=ap8 h (x :: r) q hl hm'.2 (fun z hz=>by
    rcases d_.1 (hs z hz) with e' | e'
    ·subst e'
     rcases d_.1 hz with e2 | e2
     ·subst e2;rw [h.irr] at h1;omega
     ·have h2:=hl'.1 z e2
      have:=h.tr _ _ _ h1 h2;rw [h.irr] at this;omega
    ·exact e')
   refine ⟨by simp only [c_] at i1 |-;omega,fun e'=>?_⟩;exfalso;simp only [c_] at i1 e';omega
def stg (rs:List RV):Nat->List FcV
 | 0=>[]
 | k+1=>ab5 rs (stg rs k) []
theorem Y9 (rs:List RV):∀k,an8 FcV.cmp (stg rs k)
 | 0=>List.Pairwise.nil
 | k+1=>bm6 _ _ _
theorem aD2 (rs:List RV):∀k f,f∈stg rs k->f∈stg rs (k+1)
 | 0,f,h=>by simp [stg] at h
 | k+1,f,h=>bm4 (aD2 rs k) f h
theorem bC5 (rs:List RV) {j k:Nat} (h:j<=k):∀f,f∈stg rs j->f∈stg rs k:=by
 induction h with
 | refl=>exact fun f hf=>hf
 | step _ ih=>exact fun f hf=>aD2 rs _ f (ih f hf)
theorem V6 (rs:List RV) (k:Nat):(stg rs k).length<=rs.length:=by
 cases k with
 | zero=>simp [stg]
 | succ k=>exact bm5 _ _ _
theorem bv2 {rs:List RV} {k:Nat} (h:stg rs (k+1)=stg rs k):∀j,k<=j->stg rs j=stg rs k:=by
 intro j hj;induction hj with
 | refl=>rfl
 | step _ ih=>show ab5 rs (stg rs _) []=_;rw [ih];exact h
theorem az0 {rs:List RV} {k:Nat}:(stg rs (k+1)).length=(stg rs k).length↔stg rs (k+1)=stg rs k:=
 ⟨fun h=>((ap8 FcV.cmp_lin _ _ (Y9 rs k) (Y9 rs (k+1)) (aD2 rs k)).2 h.symm).symm,fun h=>by rw [h]⟩
theorem bv3 {rs:List RV} {k:Nat} (h:stg rs (k+1)≠stg rs k):(stg rs k).length<(stg rs (k+1)).length:=by
 have h1:=(ap8 FcV.cmp_lin _ _ (Y9 rs k) (Y9 rs (k+1)) (aD2 rs k)).1;have h2:(stg rs (k+1)).length≠(stg rs k).length:=fun e=>h (az0.1 e);omega
def top (rs:List RV):Nat:=ax2 (fun k=>decide (stg rs (k+1)=stg rs k)) (rs.length+1)
theorem O9 (rs:List RV):top rs<=rs.length/\stg rs (top rs+1)=stg rs (top rs)/\∀k,k<top rs->stg rs (k+1)≠stg rs k:=by
 obtain ⟨k1,k2,k3⟩:=ag9 (p:=fun k=>decide (stg rs (k+1)=stg rs k)) (n:=rs.length+1);have h2:∀k,k<top rs->stg rs (k+1)≠stg rs k:=fun k hk=>by have:=k2 k hk;simpa using this
 have h4:∀k,k<=top rs->k<=(stg rs k).length:=fun k=>by
  induction k with
  | zero=>intro _;omega
  | succ k ih =>
   intro hk;have h5:=bv3 (h2 k (by omega));have h6:=ih (by omega);omega
 have h5:=h4 (top rs) (n_ _);have h6:=V6 rs (top rs);have h7:top rs<rs.length+1:=by omega
 refine ⟨by omega,?_,h2⟩;have:=k3 h7;exact of_decide_eq_true this
theorem bC2 {rs:List RV} {k:Nat} (h:stg rs (k+1)=stg rs k) (hb:∀j,j<k->stg rs (j+1)≠stg rs j):k=top rs:=by
 obtain ⟨_,t2,t3⟩:=O9 rs;rcases Nat.lt_trichotomy k (top rs) with e | e | e
 ·exact absurd h (t3 k e)
 ·exact e
 ·exact absurd t2 (hb _ e)
theorem bG4 (rs:List RV) (n:Nat):stg rs (min n (top rs))=stg rs n:=by
 rcases Nat.le_total n (top rs) with h | h
 ·rw [Nat.min_eq_left h]
 ·rw [Nat.min_eq_right h];exact (bv2 (O9 rs).2.1 n h).symm
def hgt (rs:List RV) (f:FcV):Int:=
 if f∈stg rs (top rs) then (ax2 (fun k=>decide (f∈stg rs k)) (top rs+1):Int) else -1
def J6 (b L:Nat):Nat->Nat->Nat
 | 0,k=>k
 | n+1,k=>if k<=L then J6 b L n (k * b) else k
theorem ay9 {b L:Nat} (hb:1<=b):∀n k,(k * b ^ n<=L->J6 b L n k=k * b ^ n)/\(L<k * b ^ n->L<J6 b L n k)
 | 0,k=>by simp [J6]
 | n+1,k=>by
  have e:k * b ^ (n+1)=k * b * b ^ n:=by rw [Nat.pow_succ,Nat.mul_comm (b ^ n) b,Nat.mul_assoc]
  obtain ⟨h1,h2⟩:=ay9 (L:=L) hb n (k * b);have hp:1<=b ^ (n+1):=Nat.one_le_pow _ _ hb;have hk:k<=k * b ^ (n+1):=Nat.le_mul_of_pos_right _ hp;unfold J6;rw [e] at hk |-;split
  ·exact ⟨h1,h2⟩
  ·exact ⟨fun h=>by omega,fun h=>by omega⟩
theorem aU9 {b L n k:Nat} (h:¬k<=L):J6 b L n k=k:=by
 cases n with
 | zero=>rfl
 | succ n=>unfold J6;rw [if_neg h]
theorem aO5 {b L n:Nat} (hb:1<=b):(b ^ n<=L↔J6 b L n 1<=L)/\(b ^ n<=L->J6 b L n 1=b ^ n):=by
 obtain ⟨h1,h2⟩:=ay9 (L:=L) hb n 1;rw [Nat.one_mul] at h1 h2;refine ⟨⟨fun h=>by rw [h1 h];exact h,fun h=>?_⟩,h1⟩;rcases B_ L (b ^ n) with h3 | h3
 ·have:=h2 h3;omega
 ·exact h3
def okG (u vs:List V) (g:Gl):Bool:=
 if g.kind=9 then aF1 u (g.callV (l9 vs)) else if g.kind=10 then (match g.goals.head? with | some x=>aF1 u (x.callV (l9 vs)) | none=>true) else g.testV (l9 vs)
theorem az2 (u vs:List V):∀c:List Gl,ah0 u c vs=c.all (okG u vs)
 | []=>rfl
 | g :: r=>by
  have ih:=az2 u vs r;unfold ah0 at ih |-;rw [N_,<-ih];unfold okG;by_cases h9:g.kind=9
  ·have e1:F5 (l9 vs) (g :: r)=F5 (l9 vs) r:=by simp [F5,h9]
   have e2:z8 (l9 vs) (g :: r)=z8 (l9 vs) r:=by simp [z8,h9]
   have e3:C9 (l9 vs) (g :: r)=g.callV (l9 vs) :: C9 (l9 vs) r:=by simp [C9,h9]
   rw [e1,e2,e3,if_pos h9,N_];cases aF1 u (g.callV (l9 vs))<;>simp
  ·rw [if_neg h9]
   by_cases h10:g.kind=10
   ·have e1:F5 (l9 vs) (g :: r)=F5 (l9 vs) r:=by simp [F5,h10]
    have e3:C9 (l9 vs) (g :: r)=C9 (l9 vs) r:=by simp [C9,h10]
    rw [e1,e3,if_pos h10];cases hg:g.goals with
    | nil =>
     have e2:z8 (l9 vs) (g :: r)=z8 (l9 vs) r:=by simp [z8,h10,hg]
     rw [e2];simp
    | cons x q =>
     have e2:z8 (l9 vs) (g :: r)=x.callV (l9 vs) :: z8 (l9 vs) r:=by simp [z8,h10,hg]
     rw [e2,N_];simp only [List.head?_cons];cases aF1 u (x.callV (l9 vs))<;>simp
   ·rw [if_neg h10]
    have e1:F5 (l9 vs) (g :: r)=(g.testV (l9 vs) && F5 (l9 vs) r):=by simp [F5,h9,h10]
    have e2:z8 (l9 vs) (g :: r)=z8 (l9 vs) r:=by simp [z8,h10]
    have e3:C9 (l9 vs) (g :: r)=C9 (l9 vs) r:=by simp [C9,h9]
    rw [e1,e2,e3];cases g.testV (l9 vs)<;>simp
theorem bk4 (u:List V) (r:Rl) (i:Int) (c:List Gl) (k m:Nat):ba4 u r i c k (m+1)=(rvK u r i c k).toList++ba4 u r i c (k+1) m:=rfl
theorem bk5 (u:List V) (r:Rl) (n:Nat) (i:Int) (c:List Gl) (cs:List (List Gl)):aJ5 u r n i (c :: cs)=ba4 u r i c 0 n++aJ5 u r n (i+1) cs:=rfl
theorem Pg.gr_none {p:Pg} {u:List V} {L T:List RV} (h:Pg.gnd u p.rels=L++T) (hl:2000<L.length):p.gr u=none:=by
 unfold Pg.gr;rw [if_neg];rintro ⟨_,h2⟩;rw [h,h_] at h2;omega
theorem Pg.gr_bad {p:Pg} {u:List V} {x:Rl} (hx:x∈p.rels) (h:x.gOk u=false):p.gr u=none:=by
 unfold Pg.gr;rw [if_neg];rintro ⟨h1,_⟩;rw [l_] at h1;rw [h1 x hx] at h;cases h
theorem Pg.gr_some {p:Pg} {u:List V} (h:p.rels.all (Rl.gOk u)=true) (hl:(Pg.gnd u p.rels).length<=2000):p.gr u=some (Pg.gnd u p.rels):=by
 unfold Pg.gr;rw [if_pos ⟨h,hl⟩]
theorem Pg.dims {p:Pg} (h:X6 p=true) {r:Rl} (hr:r∈p.rels):0<=r.arity/\r.arity<=4/\0<=r.locals/\r.locals<=8:=by
 unfold X6 at h;simp only [b_] at h;obtain ⟨i,hi⟩:=ak3 h.2 r hr;unfold Pg.relOk at hi;simp only [b_,decide_eq_true_eq] at hi;obtain ⟨⟨⟨⟨⟨⟨⟨_,_⟩,ha⟩,hl⟩,_⟩,_⟩,_⟩,_⟩:=hi;exact ⟨ha.1,ha.2,hl.1,hl.2⟩
theorem aG3 {b g:Gl} {c:List Gl} (hc:c∈b.clsS) (hg:g∈c):g∈b.subs:=(Gl.clsS_row b c hc).2 g hg
theorem bG3 {g x:Gl} (h:g.goals=[x]):x∈g.subs:=by
 rw [Gl.subs_eq,h];simp only [Gl.subss,K_,d_];right;rw [Gl.subs_eq];simp
theorem Gl.mcnts_wt:∀l:List Gl,Gl.mcnts l<=3 * wtR (l.map Gl.enc)
 | []=>by simp [Gl.mcnts]
 | t :: r=>by
  have h1:=Gl.mcnts_wt r;have h2:=Gl.mcnt_wt t;simp only [Gl.mcnts,e_,wtR];omega
def Rl.mcnt (t:Rl):Nat:=5+Tm.mcnts t.body.terms+Gl.mcnts t.body.goals
def Rl.mrk (k:Int) (t:Rl):Rl:=⟨T9 k,k+1,k+2,.mk (k+3) (T9 (k+4)) (Tm.mrks (k+5) t.body.terms) (Gl.mrks (k+5+Tm.mcnts t.body.terms) t.body.goals)⟩
def Rl.mcnts:List Rl->Nat
 | []=>0
 | t :: r=>Rl.mcnt t+Rl.mcnts r
def Rl.mrks (k:Int):List Rl->List Rl
 | []=>[]
 | t :: r=>Rl.mrk k t :: Rl.mrks (k+t.mcnt) r
theorem Rl.mrks_len:∀(l:List Rl) (k:Int),(Rl.mrks k l).length=l.length
 | [],_=>rfl
 | t :: r,k=>by simp [Rl.mrks,Rl.mrks_len r]
theorem Rl.mcnts_app:∀(a b:List Rl),Rl.mcnts (a++b)=Rl.mcnts a+Rl.mcnts b
 | [],b=>by simp [Rl.mcnts]
 | t :: a,b=>by simp only [j_,Rl.mcnts,Rl.mcnts_app a b];omega
theorem Rl.mrks_app:∀(a b:List Rl) (k:Int),Rl.mrks k (a++b)=Rl.mrks k a++Rl.mrks (k+Rl.mcnts a) b
 | [],b,k=>by simp [Rl.mrks,Rl.mcnts]
 | t :: a,b,k=>by
  simp only [j_,Rl.mrks,Rl.mcnts,Rl.mrks_app a b];rw [show k+(t.mcnt:Int)+(Rl.mcnts a:Int)=k+((t.mcnt+Rl.mcnts a:Nat):Int) by omega]
theorem Rl.len_mcnts:∀l:List Rl,l.length<=Rl.mcnts l
 | []=>by simp
 | t :: r=>by have:=Rl.len_mcnts r;simp only [Rl.mcnts,Rl.mcnt,c_];omega
theorem Rl.mcnts_wt:∀l:List Rl,Rl.mcnts l<=5 * wtR (l.map Rl.enc)
 | []=>by simp [Rl.mcnts]
 | t :: r=>by
  have h1:=Rl.mcnts_wt r;have h2:=Tm.mcnts_wt t.body.terms;have h3:=Gl.mcnts_wt t.body.goals;simp only [Rl.mcnts,Rl.mcnt,e_,wtR,Rl.enc_eq,wtL,D.wt];omega
def Rl.edges (r:Rl):List (List UInt8×Int):=((r.body.callsI false false).map fun n=>(n,(0:Int)))++((r.body.callsI true false).map fun n=>(n,(1:Int)))
def Pg.sat (p:Pg) (s:List Int) (i:Nat) (e:List UInt8×Int):Prop:=s.getD (p.find e.1).toNat 0+e.2<=s.getD i 0
def Pg.Sol (p:Pg) (s:List Int):Prop:=s.length=p.rels.length/\(∀i,i<s.length->0<=s.getD i 0)/\∀i r,p.rels[i]? = some r->∀e,e∈r.edges->p.sat s i e
def Pg.Low (p:Pg) (n:List Int):Prop:=∀s,p.Sol s->∀i:Nat,n.getD i 0<=s.getD i 0
theorem aF5 {l:List Int} {i:Nat} {x:Int} (j:Nat) (hi:i<l.length):(l.set i x).getD j 0=if j=i then x else l.getD j 0:=by
 simp only [r_];by_cases h:j=i
 ·subst h;rw [List.getElem?_set_self hi,if_pos rfl];rfl
 ·rw [List.getElem?_set_ne (fun e=>h e.symm),if_neg h]
theorem Pg.Low.raise {p:Pg} {n:List Int} (h:p.Low n) {i:Nat} {r:Rl} (hr:p.rels[i]? = some r) {e:List UInt8×Int} (he:e∈r.edges) (hi:i<n.length):p.Low (n.set i (n.getD (p.find e.1).toNat 0+e.2)):=by
 intro s hs j;rw [aF5 j hi];split
 ·rename_i hj
  subst hj;have h1:=hs.2.2 j r hr e he;have h2:=h s hs (p.find e.1).toNat;unfold Pg.sat at h1;omega
 ·exact h s hs j
theorem bj3:∀(l:List Int) (i:Nat) (x:Int),i<l.length->(l.set i x).sum=l.sum - l.getD i 0+x
 | [],i,x,h=>by simp at h
 | y :: r,0,x,h=>by simp;omega
 | y :: r,i+1,x,h=>by
  have:=bj3 r i x (by simpa using h);simp only [List.set_cons_succ,m_,this];simp only [r_,g_];omega
def Pg.relax (p:Pg) (n:List Int) (i:Nat) (e:List UInt8×Int):List Int:=if n.getD i 0<n.getD (p.find e.1).toNat 0+e.2 then n.set i (n.getD (p.find e.1).toNat 0+e.2) else n
structure Pg.Mid (p:Pg) (T:Int) (n0:List Int) (i:Nat) (C:Nat) (all rem:List (List UInt8×Int)) (n:List Int) (ch:Bool):Prop where
 len:n.length=p.rels.length
 low:p.Low n
 oth:∀j,j<n.length->0<=n.getD j 0/\(j≠i->n.getD j 0<=T)
 own:n.getD i 0+rem.length<=T+C+1
 same:ch=false->n=n0/\∀e,e∈all->e∈rem\/p.sat n0 i e
 grew:ch=true->n0.sum<n.sum
theorem Pg.Mid.step {p:Pg} {T:Int} {n0:List Int} {i C:Nat} {r:Rl} {rem:List (List UInt8×Int)} {n:List Int} {ch:Bool} {e:List UInt8×Int} (hT:0<=T) (h:p.Mid T n0 i C r.edges (e :: rem) n ch) (hr:p.rels[i]? = some r) (he:e∈r.edges) (hj:(p.find e.1).toNat<p.rels.length) (hw:e.2=0\/e.2=1) (hC:rem.length+1<=C)
  (hge:ch=true->n0.sum<n.sum):p.Mid T n0 i C r.edges rem (p.relax n i e) (ch || decide (n.getD i 0<n.getD (p.find e.1).toNat 0+e.2)):=by
 have hi:i<n.length:=by rw [h.len];exact (o_.1 hr).1
 rw [<-h.len] at hj;have ho:=h.own;simp only [c_] at ho;have hoj:=h.oth _ hj;have hoi:=h.oth _ hi;unfold Pg.relax;by_cases hb:n.getD i 0<n.getD (p.find e.1).toNat 0+e.2
 ·rw [if_pos hb,decide_eq_true hb,Bool.or_true]
  have hx:n.getD (p.find e.1).toNat 0+e.2+rem.length<=T+C+1:=by
   by_cases hij:(p.find e.1).toNat=i
   ·rw [hij] at hb |-;omega
   ·have:=hoj.2 hij;omega
  generalize hX:n.getD (p.find e.1).toNat 0+e.2=X at *;refine ⟨by rw [List.length_set];exact h.len,by rw [<-hX];exact h.low.raise hr he hi,fun j hjl=>?_,?_,fun hc=>by simp at hc,fun _=>?_⟩
  ·rw [List.length_set] at hjl
   rw [aF5 j hi];have:=h.oth j hjl;split
   ·rename_i hji;exact ⟨by omega,fun hne=>absurd hji hne⟩
   ·exact this
  ·rw [aF5 i hi,if_pos rfl];exact hx
  ·have:=bj3 n i X hi
   cases ch with
   | false=>have:=(h.same rfl).1;subst this;omega
   | true=>have:=hge rfl;omega
 ·rw [if_neg hb,decide_eq_false hb,Bool.or_false]
  refine ⟨h.len,h.low,h.oth,by omega,fun hc=>?_,h.grew⟩;obtain ⟨k1,k2⟩:=h.same hc;refine ⟨k1,fun e' he'=>?_⟩;rcases k2 e' he' with hm | hm
  ·rcases d_.1 hm with rfl | hm
   ·right
    unfold Pg.sat;rw [<-k1];omega
   ·exact .inl hm
  ·exact .inr hm
theorem aC3 {l:List (List D)} {x:List D} (h:x∈l):1+wtL x<=wtR l:=by
 induction l with
 | nil=>simp at h
 | cons y r ih =>
  simp only [wtR];rcases d_.1 h with rfl | h
  ·omega
  ·have:=ih h;omega
def D7 (C:List (List Int)) (i:Int):List Int:=C.getD i.toNat []
def Ws (C:List (List Int)):Nat->Int->List Int
 | 0,i=>D7 C i
 | t+1,i=>Ws C t i++(Ws C t i).flatMap fun m=>D7 C m
theorem ac8 {C:List (List Int)} {t:Nat} {i k:Int}:k∈Ws C (t+1) i↔k∈Ws C t i\/∃m,m∈Ws C t i/\k∈D7 C m:=by
 simp only [Ws,u_,x_]
theorem ag0 {C:List (List Int)} {i k:Int}:∀{s t:Nat},s<=t->k∈Ws C s i->k∈Ws C t i
 | s,0,h,hk=>by
  obtain rfl:s=0:=by omega
  exact hk
 | s,t+1,h,hk=>by
  by_cases e:s=t+1
  ·subst e;exact hk
  ·exact ac8.2 (.inl (ag0 (t:=t) (by omega) hk))
theorem aG9 {C:List (List Int)} {s:Nat} {i m:Int} (h:m∈Ws C s i):∀{t:Nat} {k:Int},k∈Ws C t m->k∈Ws C (s+t+1) i
 | 0,k,hk=>ac8.2 (.inr ⟨m,h,hk⟩)
 | t+1,k,hk=>by
  rcases ac8.1 hk with hk | ⟨x,hx,hk⟩
  ·exact ag0 (by omega) (aG9 h hk)
  ·exact ac8.2 (.inr ⟨x,aG9 h hx,hk⟩)
def V9 (C:List (List Int)):Prop:=∀r,r∈C->r.Nodup/\∀x,x∈r->0<=x/\x<C.length
theorem V9.at {C:List (List Int)} (h:V9 C) (i:Int):(D7 C i).Nodup/\∀x,x∈D7 C i->0<=x/\x<C.length:=by
 unfold D7;rw [r_];cases hr:C[i.toNat]? with
 | none=>simp
 | some r=>exact h r (i_ hr)
theorem aZ1 {C:List (List Int)} (h:V9 C):∀{t:Nat} {i k:Int},k∈Ws C t i->0<=k/\k<C.length
 | 0,i,k,hk=>(h.at i).2 k hk
 | t+1,i,k,hk=>by
  rcases ac8.1 hk with hk | ⟨m,_,hk⟩
  ·exact aZ1 h hk
  ·exact (h.at m).2 k hk
theorem an0 {n:Nat} {l:List Int} (hn:l.Nodup) (h:∀x,x∈l->0<=x/\x<n):l.length<=n:=by
 have h1:(l.map Int.toNat).Nodup:=by
  rw [Y_,List.pairwise_map];refine List.Pairwise.imp_of_mem (R:=fun a b=>a≠b) (fun {a b} ha hb hne e=>hne ?_) (Y_.1 hn);have:=h a ha;have:=h b hb;omega
 have h2:=ap0 n (l.map Int.toNat) h1 (fun x hx=>by
  obtain ⟨y,hy,rfl⟩:=q_.1 hx;have:=h y hy;omega)
 simpa using h2
structure Bfs (C:List (List Int)) (i:Int) (ks td:List Int):Prop where
 nd:ks.Nodup
 kr:∀x,x∈ks->0<=x/\x<C.length
 tr:∀x,x∈td->0<=x/\x<C.length
 kin:∀x,x∈ks->x∈Ws C (ks.length - 1) i
 tin:∀x,x∈td->x∈Ws C ks.length i
 cov:∀y,y∈D7 C i->y∈ks\/y∈td
 clo:∀x,x∈ks->∀y,y∈D7 C x->y∈ks\/y∈td
def bD8 (C:List (List Int)) (ks td:List Int):Nat:=(C.length - ks.length) * (C.length+1)+td.length
theorem Bfs.init {C:List (List Int)} (h:V9 C) (i:Int):Bfs C i [] (D7 C i):=
 ⟨by simp,by simp,(h.at i).2,by simp,fun x hx=>hx,fun y hy=>.inr hy,by simp⟩
theorem Bfs.len {C:List (List Int)} {i:Int} {ks td:List Int} (h:Bfs C i ks td):ks.length<=C.length:=an0 h.nd h.kr
theorem Bfs.old {C:List (List Int)} {i k:Int} {ks td:List Int} (h:Bfs C i ks (k :: td)) (hk:k∈ks):Bfs C i ks td:=
 ⟨h.nd,h.kr,fun x hx=>h.tr x (by simp [hx]),h.kin,fun x hx=>h.tin x (by simp [hx]),fun y hy=>by
  rcases h.cov y hy with h1 | h1
  ·exact .inl h1
  ·rcases d_.1 h1 with rfl | h1
   ·exact .inl hk
   ·exact .inr h1,fun x hx y hy=>by
  rcases h.clo x hx y hy with h1 | h1
  ·exact .inl h1
  ·rcases d_.1 h1 with rfl | h1
   ·exact .inl hk
   ·exact .inr h1⟩
theorem Bfs.new {C:List (List Int)} (hC:V9 C) {i k:Int} {ks td:List Int} (h:Bfs C i ks (k :: td)) (hk:k∉ks):Bfs C i (ks++[k]) (td++D7 C k):=by
 have hki:=h.tin k (by simp);refine ⟨?_,fun x hx=>?_,fun x hx=>?_,fun x hx=>?_,fun x hx=>?_,fun y hy=>?_,fun x hx y hy=>?_⟩
 ·rw [List.nodup_append]
  exact ⟨h.nd,by simp,fun a ha b hb=>by simp at hb;subst hb;intro e;subst e;exact hk ha⟩
 ·rcases u_.1 hx with hx | hx
  ·exact h.kr x hx
  ·simp at hx;subst hx;exact h.tr x (by simp)
 ·rcases u_.1 hx with hx | hx
  ·exact h.tr x (by simp [hx])
  ·exact (hC.at k).2 x hx
 ·simp only [h_,c_,v_,Nat.add_sub_cancel,T_]
  rcases u_.1 hx with hx | hx
  ·exact ag0 (by omega) (h.kin x hx)
  ·simp at hx;subst hx;exact hki
 ·simp only [h_,c_,v_,T_]
  rcases u_.1 hx with hx | hx
  ·exact ag0 (by omega) (h.tin x (by simp [hx]))
  ·exact ac8.2 (.inr ⟨k,hki,hx⟩)
 ·rcases h.cov y hy with h1 | h1
  ·exact .inl (by simp [h1])
  ·rcases d_.1 h1 with rfl | h1
   ·exact .inl (by simp)
   ·exact .inr (by simp [h1])
 ·rcases u_.1 hx with hx | hx
  ·rcases h.clo x hx y hy with h1 | h1
   ·exact .inl (by simp [h1])
   ·rcases d_.1 h1 with rfl | h1
    ·exact .inl (by simp)
    ·exact .inr (by simp [h1])
  ·simp at hx;subst hx
   exact .inr (by simp [hy])
theorem bB0 {C:List (List Int)} {k:Int} {ks td:List Int}:bD8 C ks td<bD8 C ks (k :: td):=by
 simp only [bD8,c_];omega
theorem bB1 {C:List (List Int)} (hC:V9 C) {i k:Int} {ks td:List Int} (h:Bfs C i ks (k :: td)) (hk:k∉ks):bD8 C (ks++[k]) (td++D7 C k)<bD8 C ks (k :: td):=by
 have h1:=(h.new hC hk).len;have h2:=an0 (hC.at k).1 (hC.at k).2;simp only [bD8,h_,c_,v_,T_] at h1 |-;have h3:C.length - ks.length=(C.length - (ks.length+1))+1:=by omega
 rw [h3,V_];omega
theorem Bfs.all {C:List (List Int)} {i:Int} {ks:List Int} (h:Bfs C i ks []):∀{t:Nat} {k:Int},k∈Ws C t i->k∈ks
 | 0,k,hk=>by
  rcases h.cov k hk with h1 | h1
  ·exact h1
  ·simp at h1
 | t+1,k,hk=>by
  rcases ac8.1 hk with hk | ⟨m,hm,hk⟩
  ·exact h.all hk
  ·rcases h.clo m (h.all hm) k hk with h1 | h1
   ·exact h1
   ·simp at h1
theorem Bfs.done {C:List (List Int)} {i:Int} {ks:List Int} (h:Bfs C i ks []) (k:Int):k∈ks↔k∈Ws C C.length i:=
 ⟨fun hk=>ag0 (by have:=h.len;omega) (h.kin k hk),fun hk=>h.all hk⟩
theorem aG5 {C:List (List Int)} (hC:V9 C) {i:Int}:∀(m:Nat) (ks td:List Int),bD8 C ks td<=m->Bfs C i ks td->∃ks',Bfs C i ks' []
 | m,ks,[],_,h=>⟨ks,h⟩
 | 0,ks,k :: td,hm,h=>by simp only [bD8,c_] at hm;omega
 | m+1,ks,k :: td,hm,h=>by
  by_cases hk:k∈ks
  ·exact aG5 hC m ks td (by have:=bB0 (C:=C) (k:=k) (ks:=ks) (td:=td);omega) (h.old hk)
  ·exact aG5 hC m _ _ (by have:=bB1 hC h hk;omega) (h.new hC hk)
theorem bs9 {C:List (List Int)} (hC:V9 C) {t:Nat} {i k:Int} (hk:k∈Ws C t i):k∈Ws C C.length i:=by
 obtain ⟨ks,h⟩:=aG5 hC (i:=i) _ _ _ (n_ _) (Bfs.init hC i);exact (h.done k).1 (h.all hk)
def rc (C:List (List Int)) (i k:Int):Bool:=decide (k∈Ws C C.length i)
structure Rnd (C R:List (List Int)) (t:Nat):Prop where
 len:R.length=C.length
 asc:∀r,r∈R->Asc r
 sound:∀i:Nat,i<C.length->∀k,k∈D7 R i->∃s,k∈Ws C s i
 full:∀i:Nat,i<C.length->∀k,k∈Ws C t i->k∈D7 R i
def ak0 (R:List (List Int)) (i:Nat):List Int:=((D7 R i).flatMap fun k=>D7 R k).foldl aa5 (D7 R i)
theorem ba9 {R:List (List Int)} {i j:Nat} {r:List Int} (hi:i<R.length):D7 (R.set i r) j=if j=i then r else D7 R j:=by
 unfold D7;simp only [r_,f_,List.getElem?_set];by_cases e:j=i
 ·subst e;simp [hi]
 ·rw [if_neg (fun h=>e h.symm),if_neg e]
structure Mid (C R:List (List Int)) (t i:Nat):Prop where
 base:Rnd C R t
 more:∀j:Nat,j<i->∀k,k∈Ws C (t+1) j->k∈D7 R j
theorem Mid.step {C R:List (List Int)} {t i:Nat} (hC:V9 C) (h:Mid C R t i) (hi:i<C.length):Mid C (R.set i (ak0 R i)) t (i+1):=by
 have hl:=h.base.len;have hm:∀k,k∈ak0 R i↔(∃m,m∈D7 R i/\k∈D7 R m)\/k∈D7 R i:=fun k=>by
  unfold ak0;rw [av4,x_]
 have hset:∀j:Nat,D7 (R.set i (ak0 R i)) j=if j=i then ak0 R i else D7 R j:=fun j=>ba9 (by omega)
 have hup:∀(j:Nat) k,k∈D7 R j->k∈D7 (R.set i (ak0 R i)) j:=fun j k hk=>by
  rw [hset];split
  ·rename_i e;subst e;exact (hm k).2 (.inr hk)
  ·exact hk
 have hrg:∀(j:Nat),j<C.length->∀k,k∈D7 R j->0<=k/\k<C.length:=fun j hj k hk=>by
  obtain ⟨s,hs⟩:=h.base.sound j hj k hk;exact aZ1 hC hs
 refine ⟨⟨by simpa using hl,fun r hr=>?_,fun j hj k hk=>?_,fun j hj k hk=>hup j k (h.base.full j hj k hk)⟩,fun j hj k hk=>?_⟩
 ·rcases List.mem_or_eq_of_mem_set hr with hr | rfl
  ·exact h.base.asc r hr
  ·refine Y4 ?_
   unfold D7;rw [r_,f_,a_ (by omega)];exact h.base.asc _ (y_ _)
 ·rw [hset] at hk
  split at hk
  ·rename_i e;subst e
   rcases (hm k).1 hk with ⟨m,hm1,hm2⟩ | hk
   ·obtain ⟨s,hs⟩:=h.base.sound j hj m hm1
    have hr:=hrg j hj m hm1;obtain ⟨n,rfl⟩:∃n:Nat,m=n:=⟨m.toNat,by omega⟩;obtain ⟨s',hs'⟩:=h.base.sound n (by omega) k hm2;exact ⟨_,aG9 hs hs'⟩
   ·exact h.base.sound j hj k hk
  ·exact h.base.sound j hj k hk
 ·by_cases e:j=i
  ·subst e
   rw [hset,if_pos rfl];rcases ac8.1 hk with hk | ⟨m,hm1,hm2⟩
   ·exact (hm k).2 (.inr (h.base.full j hi k hk))
   ·have hmr:=h.base.full j hi m hm1
    have hr:=hrg j hi m hmr;obtain ⟨n,rfl⟩:∃n:Nat,m=n:=⟨m.toNat,by omega⟩;exact (hm k).2 (.inl ⟨n,hmr,h.base.full n (by omega) k (ag0 (H_ _) hm2)⟩)
  ·exact hup j k (h.more j (by omega) k hk)
theorem Mid.done {C R:List (List Int)} {t:Nat} (h:Mid C R t C.length):Rnd C R (t+1):=
 ⟨h.base.len,h.base.asc,h.base.sound,h.more⟩
theorem Rnd.init {C:List (List Int)} (ha:∀r,r∈C->Asc r):Rnd C C 0:=
 ⟨rfl,ha,fun i _ k hk=>⟨0,hk⟩,fun i _ k hk=>hk⟩
theorem Rnd.mem {C R:List (List Int)} (hC:V9 C) {t:Nat} (h:Rnd C R t) (ht:C.length<=t) {i:Nat} (hi:i<C.length) (k:Int):k∈D7 R i↔rc C i k=true:=by
 unfold rc;rw [decide_eq_true_eq];refine ⟨fun hk=>?_,fun hk=>h.full i hi k (ag0 ht hk)⟩;obtain ⟨s,hs⟩:=h.sound i hi k hk;exact bs9 hC hs
def V.sh (n:Int) (v:V):V:=v.sub fun k=>.var (k+n)
def Tm.sh (n:Int) (t:Tm):Tm:=(t.V.sh n).tm
mutual
def Gl.sh (n:Int):Gl->Gl
 | .mk k s ts gs=>.mk k s (ts.map (Tm.sh n)) (Gl.shs n gs)
def Gl.shs (n:Int):List Gl->List Gl
 | []=>[]
 | t :: r=>Gl.sh n t :: Gl.shs n r
end
theorem Tm.sh_enc (n:Int) (t:Tm):(t.sh n).enc=(t.V.sh n).enc:=rfl
end Go.Abs
