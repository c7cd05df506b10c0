import Derived.Test.YtehgpkadkdekmaaGreatDoorJ14
open List renaming append_assoc->a_,getElem?_eq_some_iff->c_,mem_of_getElem?->d_,all_cons->e_,length_cons->f_,append_nil->g_,length_map->h_,all_nil->i_,getElem?_eq_getElem->k_,length_append->m_,getElem?_map->n_,getElem?_eq_none_iff->o_,map_take->p_,all_eq_true->r_,map_drop->t_,nil_append->u_,length_nil->v_,mem_map->x_,length_drop->y_,map_cons->A_,all_append->B_,map_nil->C_,getElem?_range->E_,mem_append->G_,map_append->H_,getD_eq_getElem?_getD->J_,mem_cons->L_,take_of_length_le->O_,map_map->P_,getElem?_set_self->Q_,length_filter_le->S_,getElem?_eq_none->T_
open Nat renaming le_refl->b_,zero_le->l_,min_eq_left->I_,mul_le_mul->K_,lt_irrefl->N_,le_trans->R_
open Bool renaming and_eq_true->j_,eq_iff_iff->w_,not_eq_true->z_,true_and->M_
open Option renaming getD_some->q_,isSome_some->s_,isSome_none->D_,getD_none->F_
namespace Go.Proofs.YtehgpkadkdekmaaGreatDoor
open Go.Abs
set_option maxRecDepth 100000
set_option maxHeartbeats 4000000
set_option linter.unusedSimpArgs false
set_option linter.unusedVariables false
theorem wrapN {x:Int} (n:Nat) (e:x=n) (h:n<=9223372036854775807):IntKind.i64.wrap x=(n:Int):=by
 rw[e];exact l6 (by omega) (by omega)
section
variable {α:Type} {g sf:FuncId} {cs ds:List C} {n m:Nat} {Hs:(Nat->α)->List O} {lt:α->α->Bool}
theorem af6 (h:Srtr Tryz.prog g cs sf ds n m Hs lt) (hn:n<4611686018427387904) (a b k:Nat) (f:Nat->α) (h1:a+k<=b) (h2:b+k<=n) :
  ACalls Tryz.prog 181 [.agg [.fn g cs,.xfn sf ds],.d (.int .i64 a),.d (.int .i64 b),.d (.int .i64 k)] (Hs f) (fun c H'=>c=.tup []/\H'=Hs (srx a b k f)):=by
 refine aE_ Tryz.func181 ?_;refine rS_ Tryz.func181 ?_;simp only[go_sem,seval,h.len,h.gog,h.at0,h.atj,h.set0,h.setj,h.tk,h.tk0,h.tkj,h.refs,h.refsj,h.hcaps,h.capsj,h.hcaps2,h.capsj2,a_];refine AW.lp [1,2,3,4] (fun i:Nat=>[(8,.d (.int .i64 (i:Int)))]) (fun _ i=>Hs (srx a b i f)++[.box [.fn g cs,.xfn sf ds]]) (fun i=>i<=k) (fun i=>k - i) 0 (l_ _) (by rw[bW6];exact by refine⟨by simp[mkS,h.len],by simp only[mkS,m_,f_,v_,h.len,h.tkj,h.tk0,h.tk];first | done | rfl | (simp;done),by simp[mkS,O.refsLt,C.refsLt,C.refsLt1,h.len,h.refs,h.refsj,h.hcaps,h.capsj,h.hcaps2,h.capsj2,l7,O9,-List.all_eq_true],?_⟩;simp[mkS,Abs.get,C.refsLtT,C.refsLt,C.refsLt1,h.len,h.hcaps,h.capsj,h.hcaps2,h.capsj2,-List.all_eq_true]) ?_;intro i hi hnext;by_cases hc:i<k
 ·have n1:(i:Int)<(k:Int):=by omega
  have w1:IntKind.i64.wrap ((a:Int)+(i:Int))=((a+i:Nat):Int):=wrapN _ (by omega) (by omega);have w2:IntKind.i64.wrap ((b:Int)+(i:Int))=((b+i:Nat):Int):=wrapN _ (by omega) (by omega);have w3:IntKind.i64.wrap ((i:Int)+1)=((i+1:Nat):Int):=wrapN _ (by omega) (by omega);have hs:=h.swap (srx a b i f) [.box [.fn g cs,.xfn sf ds]] (a+i) (b+i) (by omega) (by omega);rw[bW5 a b i f (by omega)] at hs;refine rS_ Tryz.func181 ?_;simp only[go_sem,seval,n1,w1,w2,w3,h.len,h.gog,h.at0,h.atj,h.set0,h.setj,h.tk,h.tk0,h.tkj,h.refs,h.refsj,h.hcaps,h.capsj,h.hcaps2,h.capsj2,a_]
  repeat' (first|refine hs.mono ?_<;>(rintro c H' ⟨rfl,rfl⟩)<;>try simp only[go_sem,seval,n1,w1,w2,w3,h.len,h.gog,h.at0,h.atj,h.set0,h.setj,h.tk,h.tk0,h.tkj,h.refs,h.refsj,h.hcaps,h.capsj,h.hcaps2,h.capsj2,a_]|fail)
  all_goals refine hnext (i+1) _ (by omega) (by omega) ai2
 ·have n1:¬(i:Int)<(k:Int):=by omega
  obtain rfl:i=k:=by omega
  refine rS_ Tryz.func181 ?_;simp only[go_sem,seval,n1,h.len,h.gog,h.at0,h.atj,h.set0,h.setj,h.tk,h.tk0,h.tkj,h.refs,h.refsj,h.hcaps,h.capsj,h.hcaps2,h.capsj2,a_]
theorem ab7 (h:Srtr Tryz.prog g cs sf ds n m Hs lt) (hw:Wk lt) (hn:n<4611686018427387904) (a b:Nat) (f:Nat->α) (hab:a<=b) (hb:b<=n) :
  ACalls Tryz.prog 157 [.agg [.fn g cs,.xfn sf ds],.d (.int .i64 a),.d (.int .i64 b)] (Hs f) (fun c H'=>c=.tup []/\∃f',Mv n a b f f'/\srt lt f' a b/\H'=Hs f'):=by
 have w0:IntKind.i64.wrap ((a:Int)+1)=((a+1:Nat):Int):=wrapN _ (by omega) (by omega);refine aE_ Tryz.func157 ?_;refine rS_ Tryz.func157 ?_;simp only[go_sem,seval,h.len,h.gog,h.at0,h.atj,h.set0,h.setj,h.tk,h.tk0,h.tkj,h.refs,h.refsj,h.hcaps,h.capsj,h.hcaps2,h.capsj2,a_,w0];refine AW.lp [1,2,3] (fun u:Nat×(Nat->α)=>[(6,.d (.int .i64 (u.1:Int)))]) (fun _ u=>Hs u.2++[.box [.fn g cs,.xfn sf ds]]) (fun u=>a<u.1/\(u.1<=b\/u.1=a+1)/\Mv n a b f u.2/\srt lt u.2 a u.1) (fun u=>b - u.1) (a+1,f) ⟨by dsimp only;omega,.inr rfl,Mv.refl _ _ _ _,aR6 _ _ _ (b_ _)⟩ ai2 ?_;rintro ⟨i,f1⟩ ⟨h1,h2,h3,h4⟩ hnext;dsimp only at h1 h2 h3 h4 hnext |-;have hnx:=fun i' f' s'=>hnext (i',f') s';clear hnext;by_cases hc:i<b
 ·have n1:(i:Int)<(b:Int):=by omega
  have w3:IntKind.i64.wrap ((i:Int)+1)=((i+1:Nat):Int):=wrapN _ (by omega) (by omega);refine rS_ Tryz.func157 ?_;simp only[go_sem,seval,n1,h.len,h.gog,h.at0,h.atj,h.set0,h.setj,h.tk,h.tk0,h.tkj,h.refs,h.refsj,h.hcaps,h.capsj,h.hcaps2,h.capsj2,a_];refine AW.lp [1,2,3,6] (fun u:Nat×(Nat->α)=>[(7,.d (.int .i64 (u.1:Int)))]) (fun _ u=>Hs u.2++[.box [.fn g cs,.xfn sf ds]]) (fun u=>a<=u.1/\u.1<=i/\Mv n a b f u.2/\ca6 lt u.2 a u.1 i) (fun u=>u.1) (i,f1) ⟨by dsimp only;omega,b_ _,h3,ca5 h4⟩ ai2 ?_;rintro ⟨j,f2⟩ ⟨j1,j2,j3,j4⟩ hnext;dsimp only at j1 j2 j3 j4 hnext |-;have hny:=fun i' f' s'=>hnext (i',f') s';clear hnext;by_cases hj:a<j
  ·have n2:(a:Int)<(j:Int):=by omega
   have w1:IntKind.i64.wrap ((j:Int) - 1)=((j - 1:Nat):Int):=wrapN _ (by omega) (by omega);have hl:=h.less f2 [.box [.fn g cs,.xfn sf ds]] j (j - 1) (by omega) (by omega);have hs:=h.swap f2 [.box [.fn g cs,.xfn sf ds]] j (j - 1) (by omega) (by omega);cases hlt:lt (f2 j) (f2 (j - 1)) with
   | true =>
    rw[hlt] at hl;refine rS_ Tryz.func157 ?_;simp only[go_sem,seval,n2,w1,h.len,h.gog,h.at0,h.atj,h.set0,h.setj,h.tk,h.tk0,h.tkj,h.refs,h.refsj,h.hcaps,h.capsj,h.hcaps2,h.capsj2,a_]
    repeat' (first|((first|refine hl.mono ?_<;>(rintro c H' ⟨rfl,rfl⟩)|refine hs.mono ?_<;>(rintro c H' ⟨rfl,rfl⟩))<;>(try simp only[go_sem,seval,n2,w1,h.len,h.gog,h.at0,h.atj,h.set0,h.setj,h.tk,h.tk0,h.tkj,h.refs,h.refsj,h.hcaps,h.capsj,h.hcaps2,h.capsj2,a_]))|fail)
    all_goals refine hny (j - 1) _ _ ⟨by omega,by omega,j3.trans (.swp _ hb (by omega) (by omega) (by omega) (by omega)),ca4 hw j4 hj j2 hlt⟩ (by omega) ai2
   | false =>
    rw[hlt] at hl;have he:=ba9 hw j4 j1 j2 (.inr hlt);refine rS_ Tryz.func157 ?_;simp only[go_sem,seval,n2,w1,h.len,h.gog,h.at0,h.atj,h.set0,h.setj,h.tk,h.tk0,h.tkj,h.refs,h.refsj,h.hcaps,h.capsj,h.hcaps2,h.capsj2,a_]
    repeat' (first|refine hl.mono ?_<;>(rintro c H' ⟨rfl,rfl⟩)<;>try simp only[go_sem,seval,n2,w1,w3,h.len,h.gog,h.at0,h.atj,h.set0,h.setj,h.tk,h.tk0,h.tkj,h.refs,h.refsj,h.hcaps,h.capsj,h.hcaps2,h.capsj2,a_]|fail)
    all_goals refine hnx (i+1) f2 _ ⟨by omega,.inl (by omega),j3,he⟩ (by omega) ai2
  ·have n2:¬(a:Int)<(j:Int):=by omega
   have he:=ba9 hw j4 j1 j2 (.inl (by omega));refine rS_ Tryz.func157 ?_;simp only[go_sem,seval,n2,h.len,h.gog,h.at0,h.atj,h.set0,h.setj,h.tk,h.tk0,h.tkj,h.refs,h.refsj,h.hcaps,h.capsj,h.hcaps2,h.capsj2,a_]
   repeat' (first|simp(disch:=omega) only[l6]|fail)
   all_goals refine hnx (i+1) f2 _ ⟨by omega,.inl (by omega),j3,he⟩ (by omega) ai2
 ·have n1:¬(i:Int)<(b:Int):=by omega
  refine rS_ Tryz.func157 ?_;simp only[go_sem,seval,n1,h.len,h.gog,h.at0,h.atj,h.set0,h.setj,h.tk,h.tk0,h.tkj,h.refs,h.refsj,h.hcaps,h.capsj,h.hcaps2,h.capsj2,a_]
  repeat' (first|((first|refine⟨sd,?_⟩|refine⟨by assumption,?_⟩)<;>(try simp only[go_sem,seval,n1,h.len,h.gog,h.at0,h.atj,h.set0,h.setj,h.tk,h.tk0,h.tkj,h.refs,h.refsj,h.hcaps,h.capsj,h.hcaps2,h.capsj2,a_]))|fail)
  all_goals exact p9 h4 (b_ _) (by omega)
theorem aZ4 (h:Srtr Tryz.prog g cs sf ds n m Hs lt) (hn:n<4611686018427387904) (a c b:Nat) (f:Nat->α) (h1:a<c) (h2:c<b) (hb:b<=n) :
  ACalls Tryz.prog 172 [.agg [.fn g cs,.xfn sf ds],.d (.int .i64 a),.d (.int .i64 c),.d (.int .i64 b)] (Hs f) (fun r H'=>r=.tup []/\Mv n a b f (rot a c b f)/\H'=Hs (rot a c b f)):=by
 have hX:=h.ext [.box [.fn g cs,.xfn sf ds]] (by simp[O.refsLt,C.refsLt,h.capsj,h.capsj2,-List.all_eq_true]);have w1:IntKind.i64.wrap ((c:Int) - (a:Int))=((c - a:Nat):Int):=wrapN _ (by omega) (by omega);have w2:IntKind.i64.wrap ((b:Int) - (c:Int))=((b - c:Nat):Int):=wrapN _ (by omega) (by omega);refine aE_ Tryz.func172 ?_;refine rS_ Tryz.func172 ?_;simp only[go_sem,seval,h.len,h.gog,h.at0,h.atj,h.set0,h.setj,h.tk,h.tk0,h.tkj,h.refs,h.refsj,h.hcaps,h.capsj,h.hcaps2,h.capsj2,a_,w1,w2];refine AW.lp [2,4] (fun u:Nat×Nat×(Nat->α)=>[(8,.d (.int .i64 (u.1:Int))),(9,.d (.int .i64 (u.2.1:Int)))]) (fun _ u=>Hs u.2.2++[.box [.fn g cs,.xfn sf ds]]) (fun u=>0<u.1/\0<u.2.1/\u.1<=c - a/\u.2.1<=b - c/\Mv n a b f u.2.2/\rot (c - u.1) c (c+u.2.1) u.2.2=rot a c b f) (fun u=>u.1+u.2.1) (c - a,b - c,f) ⟨by dsimp only;omega,by dsimp only;omega,b_ _,b_ _,Mv.refl _ _ _ _,by dsimp only;rw[show c - (c - a)=a by omega,show c+(b - c)=b by omega]⟩ ai2 ?_;rintro ⟨i,j,f1⟩ ⟨i1,i2,i3,i4,i5,i6⟩ hnext;dsimp only at i1 i2 i3 i4 i5 i6 hnext |-;have hnx:=fun i' j' f' s'=>hnext (i',j',f') s';clear hnext;have v1:IntKind.i64.wrap ((c:Int) - (i:Int))=((c - i:Nat):Int):=wrapN _ (by omega) (by omega);have v2:IntKind.i64.wrap ((c:Int)+(j:Int))=((c+j:Nat):Int):=wrapN _ (by omega) (by omega);rcases Nat.lt_trichotomy i j with hij | hij | hij
 ·have n1:¬(i:Int)=(j:Int):=by omega
  have n2:¬(j:Int)<(i:Int):=by omega
  have v3:IntKind.i64.wrap ((c:Int)+(j:Int) - (i:Int))=((c+j - i:Nat):Int):=wrapN _ (by omega) (by omega);have v4:IntKind.i64.wrap ((j:Int) - (i:Int))=((j - i:Nat):Int):=wrapN _ (by omega) (by omega);have hs:=af6 hX hn (c - i) (c+j - i) i f1 (by omega) (by omega);have hm:=aY5 n (c - i) (c+j - i) f1 i (by omega) (by omega);have nb:((i:Int) != (j:Int))=true:=by simp;omega
  refine rS_ Tryz.func172 ?_;simp only[go_sem,seval,nb,n2,v1,v2,v3,v4,h.len,h.gog,h.at0,h.atj,h.set0,h.setj,h.tk,h.tk0,h.tkj,h.refs,h.refsj,h.hcaps,h.capsj,h.hcaps2,h.capsj2,a_]
  repeat' (first|refine hs.mono ?_<;>(rintro c H' ⟨rfl,rfl⟩)<;>try simp only[go_sem,seval,nb,n2,v1,v2,v3,v4,h.len,h.gog,h.at0,h.atj,h.set0,h.setj,h.tk,h.tk0,h.tkj,h.refs,h.refsj,h.hcaps,h.capsj,h.hcaps2,h.capsj2,a_]|fail)
  all_goals refine hnx i (j - i) (srx (c - i) (c+j - i) i f1) _ ⟨i1,by dsimp only;omega,i3,by dsimp only;omega,i5.trans (hm.mono (by omega) (by omega)),?_⟩ (by dsimp only;omega) ai2
  all_goals (rw[bW9 c i j f1 hij (by omega) i1];exact i6)
 ·subst hij
  have hs:=af6 hX hn (c - i) c i f1 (by omega) (by omega);have hm:=aY5 n (c - i) c f1 i (by omega) (by omega);rw[bX1 c i f1 (by omega),i6] at hs hm;refine rS_ Tryz.func172 ?_;simp only[go_sem,seval,v1,h.len,h.gog,h.at0,h.atj,h.set0,h.setj,h.tk,h.tk0,h.tkj,h.refs,h.refsj,h.hcaps,h.capsj,h.hcaps2,h.capsj2,a_]
  repeat' (first|refine hs.mono ?_<;>(rintro c H' ⟨rfl,rfl⟩)<;>try simp only[go_sem,seval,v1,h.len,h.gog,h.at0,h.atj,h.set0,h.setj,h.tk,h.tk0,h.tkj,h.refs,h.refsj,h.hcaps,h.capsj,h.hcaps2,h.capsj2,a_]|fail)
  all_goals exact i5.trans (hm.mono (by omega) (by omega))
 ·have n1:¬(i:Int)=(j:Int):=by omega
  have n2:(j:Int)<(i:Int):=by omega
  have v4:IntKind.i64.wrap ((i:Int) - (j:Int))=((i - j:Nat):Int):=wrapN _ (by omega) (by omega);have hs:=af6 hX hn (c - i) c j f1 (by omega) (by omega);have hm:=aY5 n (c - i) c f1 j (by omega) (by omega);have nb:((i:Int) != (j:Int))=true:=by simp;omega
  refine rS_ Tryz.func172 ?_;simp only[go_sem,seval,nb,n2,v1,v4,h.len,h.gog,h.at0,h.atj,h.set0,h.setj,h.tk,h.tk0,h.tkj,h.refs,h.refsj,h.hcaps,h.capsj,h.hcaps2,h.capsj2,a_]
  repeat' (first|refine hs.mono ?_<;>(rintro c H' ⟨rfl,rfl⟩)<;>try simp only[go_sem,seval,nb,n2,v1,v4,h.len,h.gog,h.at0,h.atj,h.set0,h.setj,h.tk,h.tk0,h.tkj,h.refs,h.refsj,h.hcaps,h.capsj,h.hcaps2,h.capsj2,a_]|fail)
  all_goals refine hnx (i - j) j (srx (c - i) c j f1) _ ⟨by dsimp only;omega,i2,by dsimp only;omega,i4,i5.trans (hm.mono (by omega) (by omega)),?_⟩ (by dsimp only;omega) ai2
  all_goals (rw[bX0 c i j f1 hij (by omega) i2];exact i6)
end
set_option maxHeartbeats 8000000
theorem bj2 (x y:Nat) (h:x+y<9223372036854775808):IntKind.i64.wrap (bU4 .u64 (IntKind.u64.wrap ((x:Int)+(y:Int))) 1)=(((x+y) / 2:Nat):Int):=by
 have h1:IntKind.u64.wrap ((x:Int)+(y:Int))=(x:Int)+(y:Int):=by
  unfold IntKind.wrap;simp[IntKind.bits,IntKind.signed];omega
 rw[h1];unfold bU4;have h2:((x:Int)+(y:Int)).fdiv (2 ^ (min (1:Int).toNat IntKind.u64.bits))=(((x+y) / 2:Nat):Int):=by
  show ((x:Int)+(y:Int)).fdiv 2=_;rw[Int.fdiv_eq_ediv_of_nonneg _ (by omega)];omega
 rw[h2];exact wrapN _ rfl (by omega)
section
variable {α:Type} {g sf:FuncId} {cs ds:List C} {n:Nat} {lt:α->α->Bool}
theorem aA5 (hw:Wk lt) (hn:n<4611686018427387904):∀(k m:Nat) (Hs:(Nat->α)->List O) (h:Srtr Tryz.prog g cs sf ds n m Hs lt) (a c b:Nat) (f:Nat->α),b - a<=k->a<c->c<b->b<=n->srt lt f a c->srt lt f c b ->
  ACalls Tryz.prog 158 [.agg [.fn g cs,.xfn sf ds],.d (.int .i64 a),.d (.int .i64 c),.d (.int .i64 b)] (Hs f) (fun r H'=>r=.tup []/\∃f',Mv n a b f f'/\srt lt f' a b/\H'=Hs f'):=by
 intro k;induction k with
 | zero=>intro m Hs h a c b f hk h1 h2;omega
 | succ k ih =>
 intro m Hs h a c b f hk h1 h2 hb hs1 hs2;have hX:=h.ext [.box [.fn g cs,.xfn sf ds]] (by simp[O.refsLt,C.refsLt,h.capsj,h.capsj2,-List.all_eq_true]);by_cases c1:c=a+1
 ·
  have w1:IntKind.i64.wrap ((c:Int) - (a:Int))=1:=by rw[show (c:Int) - a=1 by omega];decide
  refine aE_ Tryz.func158 ?_;refine rS_ Tryz.func158 ?_;simp only[go_sem,seval,h.len,h.gog,h.at0,h.atj,h.set0,h.setj,h.tk,h.tk0,h.tkj,h.refs,h.refsj,h.hcaps,h.capsj,h.hcaps2,h.capsj2,a_,w1];refine AW.lp [1,4] (fun u:Nat×Nat=>[(8,.d (.int .i64 (u.1:Int))),(9,.d (.int .i64 (u.2:Int)))]) (fun H _=>H) (fun u=>c<=u.1/\u.1<=u.2/\u.2<=b/\(∀x,c<=x->x<u.1->lt (f x) (f a)=true)/\(∀x,u.2<=x->x<b->lt (f x) (f a)=false)) (fun u=>u.2 - u.1) (c,b) ⟨b_ _,by dsimp only;omega,b_ _,fun x hx hx'=>by dsimp only at hx';omega,fun x hx hx'=>by dsimp only at hx;omega⟩ ai2 ?_;rintro ⟨i,j⟩ ⟨i1,i2,i3,i4,i5⟩ hnext;dsimp only at i1 i2 i3 i4 i5 hnext |-;have hnx:=fun i' j' s'=>hnext (i',j') s';clear hnext;by_cases hij:i<j
  ·have n1:(i:Int)<(j:Int):=by omega
   have hh:=bj2 i j (by omega);have w2:IntKind.i64.wrap ((i:Int)+(j:Int))=(i:Int)+(j:Int):=l6 (by omega) (by omega);have hl:=h.less f [.box [.fn g cs,.xfn sf ds]] ((i+j) / 2) a (by omega) (by omega);have w3:IntKind.i64.wrap ((((i+j) / 2:Nat):Int)+1)=(((i+j) / 2+1:Nat):Int):=wrapN _ (by omega) (by omega);cases hlt:lt (f ((i+j) / 2)) (f a) with
   | true =>
    rw[hlt] at hl;refine rS_ Tryz.func158 ?_;simp only[go_sem,seval,n1,w2,hh,h.len,h.gog,h.at0,h.atj,h.set0,h.setj,h.tk,h.tk0,h.tkj,h.refs,h.refsj,h.hcaps,h.capsj,h.hcaps2,h.capsj2,a_]
    repeat' (first|refine hl.mono ?_<;>(rintro c H' ⟨rfl,rfl⟩)<;>try simp only[go_sem,seval,n1,w2,hh,w3,h.len,h.gog,h.at0,h.atj,h.set0,h.setj,h.tk,h.tk0,h.tkj,h.refs,h.refsj,h.hcaps,h.capsj,h.hcaps2,h.capsj2,a_]|fail)
    refine hnx ((i+j) / 2+1) j _ ⟨by dsimp only;omega,by dsimp only;omega,i3,fun x hx hx'=>?_,i5⟩ (by dsimp only;omega) ai2;exact bK0 hw (ao3 hw hs2 hx (by dsimp only at hx';omega) (by omega)) hlt
   | false =>
    rw[hlt] at hl;refine rS_ Tryz.func158 ?_;simp only[go_sem,seval,n1,w2,hh,h.len,h.gog,h.at0,h.atj,h.set0,h.setj,h.tk,h.tk0,h.tkj,h.refs,h.refsj,h.hcaps,h.capsj,h.hcaps2,h.capsj2,a_]
    repeat' (first|refine hl.mono ?_<;>(rintro c H' ⟨rfl,rfl⟩)<;>try simp only[go_sem,seval,n1,w2,hh,w3,h.len,h.gog,h.at0,h.atj,h.set0,h.setj,h.tk,h.tk0,h.tkj,h.refs,h.refsj,h.hcaps,h.capsj,h.hcaps2,h.capsj2,a_]|fail)
    refine hnx i ((i+j) / 2) _ ⟨i1,by dsimp only;omega,by dsimp only;omega,i4,fun x hx hx'=>?_⟩ (by dsimp only;omega) ai2;exact hw.tr _ _ _ hlt (ao3 hw hs2 (by omega) hx hx')
  ·have n1:¬(i:Int)<(j:Int):=by omega
   obtain rfl:i=j:=by omega
   have w2:IntKind.i64.wrap ((i:Int) - 1)=((i - 1:Nat):Int):=wrapN _ (by omega) (by omega);refine l9 Tryz.func158 mixed 16 _ _ (by kernel_rfl) ?_;simp only[go_sem,seval,run.eq_1,n1,h.len,h.gog,h.at0,h.atj,h.set0,h.setj,h.tk,h.tk0,h.tkj,h.refs,h.refsj,h.hcaps,h.capsj,h.hcaps2,h.capsj2,a_];refine AW.lp [4,8] (fun k:Nat=>[(11,.d (.int .i64 (k:Int)))]) (fun _ k=>Hs (mvU a k f)++[.box [.fn g cs,.xfn sf ds]]) (fun k=>a<=k/\k<=i - 1) (fun k=>i - 1 - k) a ⟨b_ _,by omega⟩ (by rw[bO3];exact by refine⟨by simp[mkS,h.len],by simp only[mkS,m_,f_,v_,h.len,h.tkj,h.tk0,h.tk];first | done | rfl | (simp;done),by simp[mkS,O.refsLt,C.refsLt,C.refsLt1,h.len,h.refs,h.refsj,h.hcaps,h.capsj,h.hcaps2,h.capsj2,l7,O9,-List.all_eq_true],?_⟩;simp[mkS,Abs.get,C.refsLtT,C.refsLt,C.refsLt1,h.len,h.hcaps,h.capsj,h.hcaps2,h.capsj2,-List.all_eq_true]) ?_;intro k' hk' hny;by_cases hc:k'<i - 1
   ·have n2:(k':Int)<((i - 1:Nat):Int):=by omega
    have w4:IntKind.i64.wrap ((k':Int)+1)=((k'+1:Nat):Int):=wrapN _ (by omega) (by omega);have hs:=h.swap (mvU a k' f) [.box [.fn g cs,.xfn sf ds]] k' (k'+1) (by omega) (by omega);rw[bY2 a k' f hk'.1] at hs;refine rS_ Tryz.func158 ?_;simp only[go_sem,seval,n2,w2,w4,h.len,h.gog,h.at0,h.atj,h.set0,h.setj,h.tk,h.tk0,h.tkj,h.refs,h.refsj,h.hcaps,h.capsj,h.hcaps2,h.capsj2,a_]
    repeat' (first|refine hs.mono ?_<;>(rintro c H' ⟨rfl,rfl⟩)<;>try simp only[go_sem,seval,n2,w2,w4,h.len,h.gog,h.at0,h.atj,h.set0,h.setj,h.tk,h.tk0,h.tkj,h.refs,h.refsj,h.hcaps,h.capsj,h.hcaps2,h.capsj2,a_]|fail)
    all_goals refine hny (k'+1) _ ⟨by omega,by omega⟩ (by omega) ai2
   ·have n2:¬(k':Int)<((i - 1:Nat):Int):=by omega
    obtain rfl:k'=i - 1:=by omega
    have hM:=bY3 n a b f (i - 1) hk'.1 (by omega) hb;have hS:=bO2 hw (by rw[<-c1];exact hs2) (show a<i by omega) i3 (fun x hx hx'=>i4 x (by omega) hx') i5;refine rS_ Tryz.func158 ?_;simp only[go_sem,seval,n2,w2,h.len,h.gog,h.at0,h.atj,h.set0,h.setj,h.tk,h.tk0,h.tkj,h.refs,h.refsj,h.hcaps,h.capsj,h.hcaps2,h.capsj2,a_]
    repeat' (first|exact⟨_,hM,hS,rfl⟩|fail)
 ·by_cases c2:b=c+1
  ·
   have w1:IntKind.i64.wrap ((c:Int) - (a:Int))=((c - a:Nat):Int):=wrapN _ (by omega) (by omega);have n0:¬((c - a:Nat):Int)=1:=by omega
   have w5:IntKind.i64.wrap ((b:Int) - (c:Int))=1:=by rw[show (b:Int) - c=1 by omega];decide
   refine aE_ Tryz.func158 ?_;refine rS_ Tryz.func158 ?_;simp only[go_sem,seval,h.len,h.gog,h.at0,h.atj,h.set0,h.setj,h.tk,h.tk0,h.tkj,h.refs,h.refsj,h.hcaps,h.capsj,h.hcaps2,h.capsj2,a_,w1,w5,n0];refine AW.lp [2,4] (fun u:Nat×Nat=>[(12,.d (.int .i64 (u.1:Int))),(13,.d (.int .i64 (u.2:Int)))]) (fun H _=>H) (fun u=>a<=u.1/\u.1<=u.2/\u.2<=c/\(∀x,a<=x->x<u.1->lt (f c) (f x)=false)/\(∀x,u.2<=x->x<c->lt (f c) (f x)=true)) (fun u=>u.2 - u.1) (a,c) ⟨b_ _,by dsimp only;omega,b_ _,fun x hx hx'=>by dsimp only at hx';omega,fun x hx hx'=>by dsimp only at hx;omega⟩ ai2 ?_;rintro ⟨i,j⟩ ⟨i1,i2,i3,i4,i5⟩ hnext;dsimp only at i1 i2 i3 i4 i5 hnext |-;have hnx:=fun i' j' s'=>hnext (i',j') s';clear hnext;by_cases hij:i<j
   ·have n1:(i:Int)<(j:Int):=by omega
    have hh:=bj2 i j (by omega);have w2:IntKind.i64.wrap ((i:Int)+(j:Int))=(i:Int)+(j:Int):=l6 (by omega) (by omega);have hl:=h.less f [.box [.fn g cs,.xfn sf ds]] c ((i+j) / 2) (by omega) (by omega);have w3:IntKind.i64.wrap ((((i+j) / 2:Nat):Int)+1)=(((i+j) / 2+1:Nat):Int):=wrapN _ (by omega) (by omega);cases hlt:lt (f c) (f ((i+j) / 2)) with
    | false =>
     rw[hlt] at hl;refine rS_ Tryz.func158 ?_;simp only[go_sem,seval,n1,w2,hh,h.len,h.gog,h.at0,h.atj,h.set0,h.setj,h.tk,h.tk0,h.tkj,h.refs,h.refsj,h.hcaps,h.capsj,h.hcaps2,h.capsj2,a_]
     repeat' (first|refine hl.mono ?_<;>(rintro c H' ⟨rfl,rfl⟩)<;>try simp only[go_sem,seval,n1,w2,hh,w3,h.len,h.gog,h.at0,h.atj,h.set0,h.setj,h.tk,h.tk0,h.tkj,h.refs,h.refsj,h.hcaps,h.capsj,h.hcaps2,h.capsj2,a_]|fail)
     refine hnx ((i+j) / 2+1) j _ ⟨by dsimp only;omega,by dsimp only;omega,i3,fun x hx hx'=>?_,i5⟩ (by dsimp only;omega) ai2;exact hw.tr _ _ _ (ao3 hw hs1 hx (by dsimp only at hx';omega) (by omega)) hlt
    | true =>
     rw[hlt] at hl;refine rS_ Tryz.func158 ?_;simp only[go_sem,seval,n1,w2,hh,h.len,h.gog,h.at0,h.atj,h.set0,h.setj,h.tk,h.tk0,h.tkj,h.refs,h.refsj,h.hcaps,h.capsj,h.hcaps2,h.capsj2,a_]
     repeat' (first|refine hl.mono ?_<;>(rintro c H' ⟨rfl,rfl⟩)<;>try simp only[go_sem,seval,n1,w2,hh,w3,h.len,h.gog,h.at0,h.atj,h.set0,h.setj,h.tk,h.tk0,h.tkj,h.refs,h.refsj,h.hcaps,h.capsj,h.hcaps2,h.capsj2,a_]|fail)
     refine hnx i ((i+j) / 2) _ ⟨i1,by dsimp only;omega,by dsimp only;omega,i4,fun x hx hx'=>?_⟩ (by dsimp only;omega) ai2;exact bJ9 hw hlt (ao3 hw hs1 (by omega) hx hx')
   ·have n1:¬(i:Int)<(j:Int):=by omega
    obtain rfl:i=j:=by omega
    refine l9 Tryz.func158 mixed 16 _ _ (by kernel_rfl) ?_;simp only[go_sem,seval,run.eq_1,n1,h.len,h.gog,h.at0,h.atj,h.set0,h.setj,h.tk,h.tk0,h.tkj,h.refs,h.refsj,h.hcaps,h.capsj,h.hcaps2,h.capsj2,a_];refine AW.lp [4,12] (fun d:Nat=>[(15,.d (.int .i64 ((c - d:Nat):Int)))]) (fun _ d=>Hs (mvD c (c - d) f)++[.box [.fn g cs,.xfn sf ds]]) (fun d=>d<=c - i) (fun d=>c - i - d) 0 (l_ _) (by rw[Nat.sub_zero,bY5];exact by refine⟨by simp[mkS,h.len],by simp only[mkS,m_,f_,v_,h.len,h.tkj,h.tk0,h.tk];first | done | rfl | (simp;done),by simp[mkS,O.refsLt,C.refsLt,C.refsLt1,h.len,h.refs,h.refsj,h.hcaps,h.capsj,h.hcaps2,h.capsj2,l7,O9,-List.all_eq_true],?_⟩;simp[mkS,Abs.get,C.refsLtT,C.refsLt,C.refsLt1,h.len,h.hcaps,h.capsj,h.hcaps2,h.capsj2,-List.all_eq_true]) ?_;intro d hd hny;by_cases hc:d<c - i
    ·have n2:(i:Int)<((c - d:Nat):Int):=by omega
     have w4:IntKind.i64.wrap (((c - d:Nat):Int) - 1)=((c - (d+1):Nat):Int):=wrapN _ (by omega) (by omega);have hs:=h.swap (mvD c (c - d) f) [.box [.fn g cs,.xfn sf ds]] (c - d) (c - d - 1) (by omega) (by omega);rw[bY4 c (c - d) f (by omega) (by omega),show c - d - 1=c - (d+1) by omega] at hs;refine rS_ Tryz.func158 ?_;simp only[go_sem,seval,n2,w4,h.len,h.gog,h.at0,h.atj,h.set0,h.setj,h.tk,h.tk0,h.tkj,h.refs,h.refsj,h.hcaps,h.capsj,h.hcaps2,h.capsj2,a_]
     repeat' (first|refine hs.mono ?_<;>(rintro c H' ⟨rfl,rfl⟩)<;>try simp only[go_sem,seval,n2,w4,h.len,h.gog,h.at0,h.atj,h.set0,h.setj,h.tk,h.tk0,h.tkj,h.refs,h.refsj,h.hcaps,h.capsj,h.hcaps2,h.capsj2,a_]|fail)
     all_goals refine hny (d+1) _ (by omega) (by omega) ai2
    ·have n2:¬(i:Int)<((c - d:Nat):Int):=by omega
     obtain rfl:d=c - i:=by omega
     have hM:=bJ7 n a c f (by omega) (c - i) (by omega) (by omega);rw[<-c2,show c - (c - i)=i by omega] at hM;have hS:=bO4 hw hs1 i3 i1 i4 i5;rw[<-c2] at hS;rw[show c - (c - i)=i by omega] at n2 |-;refine rS_ Tryz.func158 ?_;simp only[go_sem,seval,n2,h.len,h.gog,h.at0,h.atj,h.set0,h.setj,h.tk,h.tk0,h.tkj,h.refs,h.refsj,h.hcaps,h.capsj,h.hcaps2,h.capsj2,a_]
     repeat' (first|exact⟨_,hM,hS,rfl⟩|fail)
  ·
   have w1:IntKind.i64.wrap ((c:Int) - (a:Int))=((c - a:Nat):Int):=wrapN _ (by omega) (by omega);have n0:¬((c - a:Nat):Int)=1:=by omega
   have w5:IntKind.i64.wrap ((b:Int) - (c:Int))=((b - c:Nat):Int):=wrapN _ (by omega) (by omega);have n5:¬((b - c:Nat):Int)=1:=by omega
   have hh:=bj2 a b (by omega);have w6:IntKind.i64.wrap ((a:Int)+(b:Int))=(a:Int)+(b:Int):=l6 (by omega) (by omega);obtain⟨mid,hmid⟩:∃mid,(a+b) / 2=mid:=⟨_,rfl⟩;rw[hmid] at hh;have w7:IntKind.i64.wrap ((mid:Int)+(c:Int))=(mid:Int)+(c:Int):=l6 (by omega) (by omega);have w8:IntKind.i64.wrap ((mid:Int)+(c:Int) - 1)=((mid+c - 1:Nat):Int):=wrapN _ (by omega) (by omega);by_cases hc:mid<c
   ·obtain⟨s0,hs0⟩:∃s0,mid+c - b=s0:=⟨_,rfl⟩
    have n6:(mid:Int)<(c:Int):=by omega
    have w9:IntKind.i64.wrap ((mid:Int)+(c:Int) - (b:Int))=(s0:Int):=wrapN _ (by omega) (by omega);have hrng:∀x,s0<=x->x<mid->a<=x/\x<c/\c<=mid+c - 1 - x/\mid+c - 1 - x<b:=fun x h1 h2=>by omega
    have hA0:s0=a\/mid+c - s0=b:=.inr (by omega);have hB0:mid=c\/mid=mid:=.inr rfl;refine aE_ Tryz.func158 ?_;refine rS_ Tryz.func158 ?_;simp only[go_sem,seval,h.len,h.gog,h.at0,h.atj,h.set0,h.setj,h.tk,h.tk0,h.tkj,h.refs,h.refsj,h.hcaps,h.capsj,h.hcaps2,h.capsj2,a_,w1,w5,n0,n5,w6,hh,w7,w8,w9,n6];refine AW.lp [1,2,3,4,16,17,20] (fun u:Nat×Nat=>[(18,.d (.int .i64 (u.1:Int))),(19,.d (.int .i64 (u.2:Int)))]) (fun H _=>H) (fun u=>Cut lt f (mid+c - 1) s0 mid u.1 u.2) (fun u=>u.2 - u.1) (s0,mid) ⟨b_ _,by dsimp only;omega,b_ _,fun x h1 h2=>absurd h2 (by dsimp only;omega),fun x h1 h2=>absurd h2 (by dsimp only at h1;omega)⟩ ai2 ?_;rintro ⟨s,r⟩ hcut hnext;dsimp only at hcut hnext |-;have hnx:=fun i' j' s'=>hnext (i',j') s';clear hnext;have q1:=hcut.lo;have q2:=hcut.le;have q3:=hcut.hi;by_cases hsr:s<r
    ·have n1:(s:Int)<(r:Int):=by omega
     have hh2:=bj2 s r (by omega);have w10:IntKind.i64.wrap ((s:Int)+(r:Int))=(s:Int)+(r:Int):=l6 (by omega) (by omega);obtain⟨y,hy⟩:∃y,(s+r) / 2=y:=⟨_,rfl⟩;rw[hy] at hh2;have w11:IntKind.i64.wrap (((mid+c - 1:Nat):Int) - (y:Int))=((mid+c - 1 - y:Nat):Int):=wrapN _ (by omega) (by omega);have w12:IntKind.i64.wrap ((y:Int)+1)=((y+1:Nat):Int):=wrapN _ (by omega) (by omega);have hl:=h.less f [.box [.fn g cs,.xfn sf ds]] (mid+c - 1 - y) y (by omega) (by omega);cases hlt:lt (f (mid+c - 1 - y)) (f y) with
     | false =>
      rw[hlt] at hl;refine rS_ Tryz.func158 ?_;simp only[go_sem,seval,n1,w10,hh2,w11,h.len,h.gog,h.at0,h.atj,h.set0,h.setj,h.tk,h.tk0,h.tkj,h.refs,h.refsj,h.hcaps,h.capsj,h.hcaps2,h.capsj2,a_]
      repeat' (first|refine hl.mono ?_<;>(rintro c H' ⟨rfl,rfl⟩)<;>try simp only[go_sem,seval,n1,w10,hh2,w11,w12,h.len,h.gog,h.at0,h.atj,h.set0,h.setj,h.tk,h.tk0,h.tkj,h.refs,h.refsj,h.hcaps,h.capsj,h.hcaps2,h.capsj2,a_]|fail)
      refine hnx (y+1) r _ (hcut.up hw hs1 hs2 hrng (by omega) (by omega) hlt) (by dsimp only;omega) ai2
     | true =>
      rw[hlt] at hl;refine rS_ Tryz.func158 ?_;simp only[go_sem,seval,n1,w10,hh2,w11,h.len,h.gog,h.at0,h.atj,h.set0,h.setj,h.tk,h.tk0,h.tkj,h.refs,h.refsj,h.hcaps,h.capsj,h.hcaps2,h.capsj2,a_]
      repeat' (first|refine hl.mono ?_<;>(rintro c H' ⟨rfl,rfl⟩)<;>try simp only[go_sem,seval,n1,w10,hh2,w11,w12,h.len,h.gog,h.at0,h.atj,h.set0,h.setj,h.tk,h.tk0,h.tkj,h.refs,h.refsj,h.hcaps,h.capsj,h.hcaps2,h.capsj2,a_]|fail)
      refine hnx s y _ (hcut.dn hw hs1 hs2 hrng (by omega) (by omega) hlt) (by dsimp only;omega) ai2
    ·have n1:¬(s:Int)<(r:Int):=by omega
     obtain rfl:s=r:=by omega
     obtain⟨e,he⟩:∃e,mid+c - s=e:=⟨_,rfl⟩;have w13:IntKind.i64.wrap ((mid:Int)+(c:Int) - (s:Int))=(e:Int):=wrapN _ (by omega) (by omega);have hA:s=a\/e=b\/leq lt (f (s - 1)) (f e):=by
      by_cases e0:s=s0
      ·rcases hA0 with h0 | h0
       ·exact .inl (by omega)
       ·exact .inr (.inl (by omega))
      ·have:=hcut.bel (s - 1) (by omega) (by omega)
       rw[show mid+c - 1 - (s - 1)=e by omega] at this;exact .inr (.inr this)
     have hB:s=c\/e=c\/lt (f (e - 1)) (f s)=true:=by
      by_cases e0:s=mid
      ·rcases hB0 with h0 | h0
       ·exact .inl (by omega)
       ·exact .inr (.inl (by omega))
      ·have:=hcut.abv s (b_ _) (by omega)
       rw[show mid+c - 1 - s=e - 1 by omega] at this;exact .inr (.inr this)
     have hx:=aJ8 hw hs1 hs2 (s:=s) (e:=e) (mid:=mid) (by omega) (by omega) (by omega) (by omega) (by omega) hA hB;obtain⟨l1,l2,l3,l4⟩:=bI9 hs1 hs2 (s:=s) (e:=e) (mid:=mid) (by omega) (by omega) (by omega) (by omega) (by omega);have hnxt:=hnx;clear hnx hcut hA hB;rcases(show (s=c/\s<mid)\/(s=c/\s=mid)\/(s<c/\s=mid)\/(s<c/\s<mid) by omega) with ⟨p1,p2⟩ | ⟨p1,p2⟩ | ⟨p1,p2⟩ | ⟨p1,p2⟩
     ·have g1:¬(s:Int)<(c:Int):=by omega
      have g2:(a:Int)<(s:Int):=by omega
      have g3:(s:Int)<(mid:Int):=by omega
      have g4:¬(mid:Int)<(e:Int):=by omega
      rw[p1,aF2] at hx l1 l2 l3 l4;rw[<-p1] at l1 l2;have hl:=ih _ _ hX a s mid f (by omega) (by omega) (by omega) (by omega) l1 l2;refine rS_ Tryz.func158 ?_;simp only[go_sem,seval,n1,w13,g1,g2,g3,g4,h.len,h.gog,h.at0,h.atj,h.set0,h.setj,h.tk,h.tk0,h.tkj,h.refs,h.refsj,h.hcaps,h.capsj,h.hcaps2,h.capsj2,a_]
      repeat' (first|((first|refine hl.mono ?_<;>(rintro c H' ⟨rfl,f2,m2,s2,rfl⟩)|refine⟨sd,?_⟩|refine⟨by assumption,?_⟩)<;>(try simp only[go_sem,seval,n1,w13,g1,g2,g3,g4,h.len,h.gog,h.at0,h.atj,h.set0,h.setj,h.tk,h.tk0,h.tkj,h.refs,h.refsj,h.hcaps,h.capsj,h.hcaps2,h.capsj2,a_]))|fail)
      have s4:=m2.srt_out l4 (.inr (by omega));first | exact o8 hx m2 s2 (.refl n mid b f2) (p9 s4 (by omega) (b_ _)) | exact⟨(m2.mono (b_ _) (by omega)),o8 hx m2 s2 (.refl n mid b f2) (p9 s4 (by omega) (b_ _))⟩ | exact⟨_,(m2.mono (b_ _) (by omega)),o8 hx m2 s2 (.refl n mid b f2) (p9 s4 (by omega) (b_ _)),rfl⟩
     ·have g1:¬(s:Int)<(c:Int):=by omega
      have g2:(a:Int)<(s:Int):=by omega
      have g3:¬(s:Int)<(mid:Int):=by omega
      have g4:¬(mid:Int)<(e:Int):=by omega
      rw[p1,aF2] at hx l1 l2 l3 l4;refine rS_ Tryz.func158 ?_;simp only[go_sem,seval,n1,w13,g1,g2,g3,g4,h.len,h.gog,h.at0,h.atj,h.set0,h.setj,h.tk,h.tk0,h.tkj,h.refs,h.refsj,h.hcaps,h.capsj,h.hcaps2,h.capsj2,a_]
      repeat' (first|((first|refine⟨sd,?_⟩|refine⟨by assumption,?_⟩)<;>(try simp only[go_sem,seval,n1,w13,g1,g2,g3,g4,h.len,h.gog,h.at0,h.atj,h.set0,h.setj,h.tk,h.tk0,h.tkj,h.refs,h.refsj,h.hcaps,h.capsj,h.hcaps2,h.capsj2,a_]))|fail)
      all_goals first | exact o8 hx (.refl n a mid f) (p9 l1 (b_ _) (by omega)) (.refl n mid b f) (p9 l4 (by omega) (b_ _)) | exact⟨(.refl _ _ _ _),o8 hx (.refl n a mid f) (p9 l1 (b_ _) (by omega)) (.refl n mid b f) (p9 l4 (by omega) (b_ _))⟩ | exact⟨_,(.refl _ _ _ _),o8 hx (.refl n a mid f) (p9 l1 (b_ _) (by omega)) (.refl n mid b f) (p9 l4 (by omega) (b_ _)),rfl⟩
     ·have g1:(s:Int)<(c:Int):=by omega
      have g2:¬(c:Int)<(e:Int):=by omega
      have g3:(a:Int)<(s:Int):=by omega
      have g4:¬(s:Int)<(mid:Int):=by omega
      have g5:(mid:Int)<(e:Int):=by omega
      have g6:(e:Int)<(b:Int):=by omega
      rw[show e=c by omega,bq3] at hx l1 l2 l3 l4;rw[show c=e by omega] at l3 l4;have hr2:=fun (f2:Nat->α) (m:Mv n a mid f f2)=>ih _ _ hX mid e b f2 (by omega) (by omega) (by omega) hb (m.srt_out l3 (.inr (b_ _))) (m.srt_out l4 (.inr (by omega)));refine rS_ Tryz.func158 ?_;simp only[go_sem,seval,n1,w13,g1,g2,g3,g4,g5,g6,h.len,h.gog,h.at0,h.atj,h.set0,h.setj,h.tk,h.tk0,h.tkj,h.refs,h.refsj,h.hcaps,h.capsj,h.hcaps2,h.capsj2,a_]
      repeat' (first|((first|refine(hr2 _ (Mv.refl n a mid f)).mono ?_<;>(rintro c H' ⟨rfl,f3,m3,s3,rfl⟩)|refine⟨by assumption,?_⟩)<;>(try simp only[go_sem,seval,n1,w13,g1,g2,g3,g4,g5,g6,h.len,h.gog,h.at0,h.atj,h.set0,h.setj,h.tk,h.tk0,h.tkj,h.refs,h.refsj,h.hcaps,h.capsj,h.hcaps2,h.capsj2,a_]))|fail)
      first | exact o8 hx (.refl n a mid f) (p9 l1 (b_ _) (by omega)) m3 s3 | exact⟨(m3.mono (by omega) (b_ _)),o8 hx (.refl n a mid f) (p9 l1 (b_ _) (by omega)) m3 s3⟩ | exact⟨_,(m3.mono (by omega) (b_ _)),o8 hx (.refl n a mid f) (p9 l1 (b_ _) (by omega)) m3 s3,rfl⟩
     ·have g1:(s:Int)<(c:Int):=by omega
      have g2:(c:Int)<(e:Int):=by omega
      have g4:(s:Int)<(mid:Int):=by omega
      have g5:(mid:Int)<(e:Int):=by omega
      have hrt:=aZ4 hX hn s c e f p1 (by omega) (by omega);generalize hF:rot s c e f=F at hx l1 l2 l3 l4 hrt;have hr2:=fun (f2:Nat->α) (m:Mv n a mid F f2) (hh:e<b)=>ih _ _ hX mid e b f2 (by omega) (by omega) (by omega) hb (m.srt_out l3 (.inr (b_ _))) (m.srt_out l4 (.inr (by omega)));by_cases d1:a<s
      ·have g3:(a:Int)<(s:Int):=by omega
       have hl:=ih _ _ hX a s mid F (by omega) d1 (by omega) (by omega) l1 l2;by_cases d2:e<b
       ·have g6:(e:Int)<(b:Int):=by omega
        refine rS_ Tryz.func158 ?_;simp only[go_sem,seval,n1,w13,g1,g2,g3,g4,g5,g6,h.len,h.gog,h.at0,h.atj,h.set0,h.setj,h.tk,h.tk0,h.tkj,h.refs,h.refsj,h.hcaps,h.capsj,h.hcaps2,h.capsj2,a_]
        repeat' (first|((first|refine hrt.mono ?_<;>(rintro c H' ⟨rfl,hm1,rfl⟩)|refine hl.mono ?_<;>(rintro c H' ⟨rfl,f2,m2,s2,rfl⟩)|refine(hr2 _ m2 d2).mono ?_<;>(rintro c H' ⟨rfl,f3,m3,s3,rfl⟩)|refine⟨by assumption,?_⟩)<;>(try simp only[go_sem,seval,n1,w13,g1,g2,g3,g4,g5,g6,h.len,h.gog,h.at0,h.atj,h.set0,h.setj,h.tk,h.tk0,h.tkj,h.refs,h.refsj,h.hcaps,h.capsj,h.hcaps2,h.capsj2,a_]))|fail)
        first | exact o8 hx m2 s2 m3 s3 | exact⟨(((hm1.mono (by omega) (by omega)).trans (m2.mono (b_ _) (by omega))).trans (m3.mono (by omega) (b_ _))),o8 hx m2 s2 m3 s3⟩ | exact⟨_,(((hm1.mono (by omega) (by omega)).trans (m2.mono (b_ _) (by omega))).trans (m3.mono (by omega) (b_ _))),o8 hx m2 s2 m3 s3,rfl⟩
       ·have g6:¬(e:Int)<(b:Int):=by omega
        refine rS_ Tryz.func158 ?_;simp only[go_sem,seval,n1,w13,g1,g2,g3,g4,g5,g6,h.len,h.gog,h.at0,h.atj,h.set0,h.setj,h.tk,h.tk0,h.tkj,h.refs,h.refsj,h.hcaps,h.capsj,h.hcaps2,h.capsj2,a_]
        repeat' (first|((first|refine hrt.mono ?_<;>(rintro c H' ⟨rfl,hm1,rfl⟩)|refine hl.mono ?_<;>(rintro c H' ⟨rfl,f2,m2,s2,rfl⟩)|refine⟨by assumption,?_⟩)<;>(try simp only[go_sem,seval,n1,w13,g1,g2,g3,g4,g5,g6,h.len,h.gog,h.at0,h.atj,h.set0,h.setj,h.tk,h.tk0,h.tkj,h.refs,h.refsj,h.hcaps,h.capsj,h.hcaps2,h.capsj2,a_]))|fail)
        first | exact o8 hx m2 s2 (.refl n mid b f2) (p9 (m2.srt_out l3 (.inr (b_ _))) (b_ _) (by omega)) | exact⟨((hm1.mono (by omega) (by omega)).trans (m2.mono (b_ _) (by omega))),o8 hx m2 s2 (.refl n mid b f2) (p9 (m2.srt_out l3 (.inr (b_ _))) (b_ _) (by omega))⟩ | exact⟨_,((hm1.mono (by omega) (by omega)).trans (m2.mono (b_ _) (by omega))),o8 hx m2 s2 (.refl n mid b f2) (p9 (m2.srt_out l3 (.inr (b_ _))) (b_ _) (by omega)),rfl⟩
      ·have g3:¬(a:Int)<(s:Int):=by omega
       have l2':srt lt F a mid:=p9 l2 (by omega) (b_ _);by_cases d2:e<b
       ·have g6:(e:Int)<(b:Int):=by omega
        refine rS_ Tryz.func158 ?_;simp only[go_sem,seval,n1,w13,g1,g2,g3,g4,g5,g6,h.len,h.gog,h.at0,h.atj,h.set0,h.setj,h.tk,h.tk0,h.tkj,h.refs,h.refsj,h.hcaps,h.capsj,h.hcaps2,h.capsj2,a_]
        repeat' (first|((first|refine hrt.mono ?_<;>(rintro c H' ⟨rfl,hm1,rfl⟩)|refine(hr2 _ (Mv.refl n a mid F) d2).mono ?_<;>(rintro c H' ⟨rfl,f3,m3,s3,rfl⟩)|refine⟨sd,?_⟩|refine⟨by assumption,?_⟩)<;>(try simp only[go_sem,seval,n1,w13,g1,g2,g3,g4,g5,g6,h.len,h.gog,h.at0,h.atj,h.set0,h.setj,h.tk,h.tk0,h.tkj,h.refs,h.refsj,h.hcaps,h.capsj,h.hcaps2,h.capsj2,a_]))|fail)
        first | exact o8 hx (.refl n a mid F) l2' m3 s3 | exact⟨((hm1.mono (by omega) (by omega)).trans (m3.mono (by omega) (b_ _))),o8 hx (.refl n a mid F) l2' m3 s3⟩ | exact⟨_,((hm1.mono (by omega) (by omega)).trans (m3.mono (by omega) (b_ _))),o8 hx (.refl n a mid F) l2' m3 s3,rfl⟩
       ·have g6:¬(e:Int)<(b:Int):=by omega
        refine rS_ Tryz.func158 ?_;simp only[go_sem,seval,n1,w13,g1,g2,g3,g4,g5,g6,h.len,h.gog,h.at0,h.atj,h.set0,h.setj,h.tk,h.tk0,h.tkj,h.refs,h.refsj,h.hcaps,h.capsj,h.hcaps2,h.capsj2,a_]
        repeat' (first|((first|refine hrt.mono ?_<;>(rintro c H' ⟨rfl,hm1,rfl⟩)|refine⟨by assumption,?_⟩)<;>(try simp only[go_sem,seval,n1,w13,g1,g2,g3,g4,g5,g6,h.len,h.gog,h.at0,h.atj,h.set0,h.setj,h.tk,h.tk0,h.tkj,h.refs,h.refsj,h.hcaps,h.capsj,h.hcaps2,h.capsj2,a_]))|fail)
        first | exact o8 hx (.refl n a mid F) l2' (.refl n mid b F) (p9 l3 (b_ _) (by omega)) | exact⟨(hm1.mono (by omega) (by omega)),o8 hx (.refl n a mid F) l2' (.refl n mid b F) (p9 l3 (b_ _) (by omega))⟩ | exact⟨_,(hm1.mono (by omega) (by omega)),o8 hx (.refl n a mid F) l2' (.refl n mid b F) (p9 l3 (b_ _) (by omega)),rfl⟩
   ·have n6:¬(mid:Int)<(c:Int):=by omega
    have hrng:∀x,a<=x->x<c->a<=x/\x<c/\c<=mid+c - 1 - x/\mid+c - 1 - x<b:=fun x h1 h2=>by omega
    have hA0:a=a\/mid+c - a=b:=.inl rfl;have hB0:c=c\/c=mid:=.inl rfl;refine aE_ Tryz.func158 ?_;refine rS_ Tryz.func158 ?_;simp only[go_sem,seval,h.len,h.gog,h.at0,h.atj,h.set0,h.setj,h.tk,h.tk0,h.tkj,h.refs,h.refsj,h.hcaps,h.capsj,h.hcaps2,h.capsj2,a_,w1,w5,n0,n5,w6,hh,w7,w8,n6];refine AW.lp [1,2,3,4,16,17,20] (fun u:Nat×Nat=>[(18,.d (.int .i64 (u.1:Int))),(19,.d (.int .i64 (u.2:Int)))]) (fun H _=>H) (fun u=>Cut lt f (mid+c - 1) a c u.1 u.2) (fun u=>u.2 - u.1) (a,c) ⟨b_ _,by dsimp only;omega,b_ _,fun x h1 h2=>absurd h2 (by dsimp only;omega),fun x h1 h2=>absurd h2 (by dsimp only at h1;omega)⟩ ai2 ?_;rintro ⟨s,r⟩ hcut hnext;dsimp only at hcut hnext |-;have hnx:=fun i' j' s'=>hnext (i',j') s';clear hnext;have q1:=hcut.lo;have q2:=hcut.le;have q3:=hcut.hi;by_cases hsr:s<r
    ·have n1:(s:Int)<(r:Int):=by omega
     have hh2:=bj2 s r (by omega);have w10:IntKind.i64.wrap ((s:Int)+(r:Int))=(s:Int)+(r:Int):=l6 (by omega) (by omega);obtain⟨y,hy⟩:∃y,(s+r) / 2=y:=⟨_,rfl⟩;rw[hy] at hh2;have w11:IntKind.i64.wrap (((mid+c - 1:Nat):Int) - (y:Int))=((mid+c - 1 - y:Nat):Int):=wrapN _ (by omega) (by omega);have w12:IntKind.i64.wrap ((y:Int)+1)=((y+1:Nat):Int):=wrapN _ (by omega) (by omega);have hl:=h.less f [.box [.fn g cs,.xfn sf ds]] (mid+c - 1 - y) y (by omega) (by omega);cases hlt:lt (f (mid+c - 1 - y)) (f y) with
     | false =>
      rw[hlt] at hl;refine rS_ Tryz.func158 ?_;simp only[go_sem,seval,n1,w10,hh2,w11,h.len,h.gog,h.at0,h.atj,h.set0,h.setj,h.tk,h.tk0,h.tkj,h.refs,h.refsj,h.hcaps,h.capsj,h.hcaps2,h.capsj2,a_]
      repeat' (first|refine hl.mono ?_<;>(rintro c H' ⟨rfl,rfl⟩)<;>try simp only[go_sem,seval,n1,w10,hh2,w11,w12,h.len,h.gog,h.at0,h.atj,h.set0,h.setj,h.tk,h.tk0,h.tkj,h.refs,h.refsj,h.hcaps,h.capsj,h.hcaps2,h.capsj2,a_]|fail)
      refine hnx (y+1) r _ (hcut.up hw hs1 hs2 hrng (by omega) (by omega) hlt) (by dsimp only;omega) ai2
     | true =>
      rw[hlt] at hl;refine rS_ Tryz.func158 ?_;simp only[go_sem,seval,n1,w10,hh2,w11,h.len,h.gog,h.at0,h.atj,h.set0,h.setj,h.tk,h.tk0,h.tkj,h.refs,h.refsj,h.hcaps,h.capsj,h.hcaps2,h.capsj2,a_]
      repeat' (first|refine hl.mono ?_<;>(rintro c H' ⟨rfl,rfl⟩)<;>try simp only[go_sem,seval,n1,w10,hh2,w11,w12,h.len,h.gog,h.at0,h.atj,h.set0,h.setj,h.tk,h.tk0,h.tkj,h.refs,h.refsj,h.hcaps,h.capsj,h.hcaps2,h.capsj2,a_]|fail)
      refine hnx s y _ (hcut.dn hw hs1 hs2 hrng (by omega) (by omega) hlt) (by dsimp only;omega) ai2
    ·have n1:¬(s:Int)<(r:Int):=by omega
     obtain rfl:s=r:=by omega
     obtain⟨e,he⟩:∃e,mid+c - s=e:=⟨_,rfl⟩;have w13:IntKind.i64.wrap ((mid:Int)+(c:Int) - (s:Int))=(e:Int):=wrapN _ (by omega) (by omega);have hA:s=a\/e=b\/leq lt (f (s - 1)) (f e):=by
      by_cases e0:s=a
      ·rcases hA0 with h0 | h0
       ·exact .inl (by omega)
       ·exact .inr (.inl (by omega))
      ·have:=hcut.bel (s - 1) (by omega) (by omega)
       rw[show mid+c - 1 - (s - 1)=e by omega] at this;exact .inr (.inr this)
     have hB:s=c\/e=c\/lt (f (e - 1)) (f s)=true:=by
      by_cases e0:s=c
      ·rcases hB0 with h0 | h0
       ·exact .inl (by omega)
       ·exact .inr (.inl (by omega))
      ·have:=hcut.abv s (b_ _) (by omega)
       rw[show mid+c - 1 - s=e - 1 by omega] at this;exact .inr (.inr this)
     have hx:=aJ8 hw hs1 hs2 (s:=s) (e:=e) (mid:=mid) (by omega) (by omega) (by omega) (by omega) (by omega) hA hB;obtain⟨l1,l2,l3,l4⟩:=bI9 hs1 hs2 (s:=s) (e:=e) (mid:=mid) (by omega) (by omega) (by omega) (by omega) (by omega);have hnxt:=hnx;clear hnx hcut hA hB;rcases(show (s=c/\s<mid)\/(s=c/\s=mid)\/(s<c/\s=mid)\/(s<c/\s<mid) by omega) with ⟨p1,p2⟩ | ⟨p1,p2⟩ | ⟨p1,p2⟩ | ⟨p1,p2⟩
     ·have g1:¬(s:Int)<(c:Int):=by omega
      have g2:(a:Int)<(s:Int):=by omega
      have g3:(s:Int)<(mid:Int):=by omega
      have g4:¬(mid:Int)<(e:Int):=by omega
      rw[p1,aF2] at hx l1 l2 l3 l4;rw[<-p1] at l1 l2;have hl:=ih _ _ hX a s mid f (by omega) (by omega) (by omega) (by omega) l1 l2;refine rS_ Tryz.func158 ?_;simp only[go_sem,seval,n1,w13,g1,g2,g3,g4,h.len,h.gog,h.at0,h.atj,h.set0,h.setj,h.tk,h.tk0,h.tkj,h.refs,h.refsj,h.hcaps,h.capsj,h.hcaps2,h.capsj2,a_]
      repeat' (first|((first|refine hl.mono ?_<;>(rintro c H' ⟨rfl,f2,m2,s2,rfl⟩)|refine⟨by assumption,?_⟩)<;>(try simp only[go_sem,seval,n1,w13,g1,g2,g3,g4,h.len,h.gog,h.at0,h.atj,h.set0,h.setj,h.tk,h.tk0,h.tkj,h.refs,h.refsj,h.hcaps,h.capsj,h.hcaps2,h.capsj2,a_]))|fail)
      have s4:=m2.srt_out l4 (.inr (by omega));first | exact o8 hx m2 s2 (.refl n mid b f2) (p9 s4 (by omega) (b_ _)) | exact⟨(m2.mono (b_ _) (by omega)),o8 hx m2 s2 (.refl n mid b f2) (p9 s4 (by omega) (b_ _))⟩ | exact⟨_,(m2.mono (b_ _) (by omega)),o8 hx m2 s2 (.refl n mid b f2) (p9 s4 (by omega) (b_ _)),rfl⟩
     ·have g1:¬(s:Int)<(c:Int):=by omega
      have g2:(a:Int)<(s:Int):=by omega
      have g3:¬(s:Int)<(mid:Int):=by omega
      have g4:¬(mid:Int)<(e:Int):=by omega
      rw[p1,aF2] at hx l1 l2 l3 l4;refine rS_ Tryz.func158 ?_;simp only[go_sem,seval,n1,w13,g1,g2,g3,g4,h.len,h.gog,h.at0,h.atj,h.set0,h.setj,h.tk,h.tk0,h.tkj,h.refs,h.refsj,h.hcaps,h.capsj,h.hcaps2,h.capsj2,a_]
      repeat' (first|refine⟨by assumption,?_⟩<;>try simp only[go_sem,seval,n1,w13,g1,g2,g3,g4,h.len,h.gog,h.at0,h.atj,h.set0,h.setj,h.tk,h.tk0,h.tkj,h.refs,h.refsj,h.hcaps,h.capsj,h.hcaps2,h.capsj2,a_]|fail)
      all_goals first | exact o8 hx (.refl n a mid f) (p9 l1 (b_ _) (by omega)) (.refl n mid b f) (p9 l4 (by omega) (b_ _)) | exact⟨(.refl _ _ _ _),o8 hx (.refl n a mid f) (p9 l1 (b_ _) (by omega)) (.refl n mid b f) (p9 l4 (by omega) (b_ _))⟩ | exact⟨_,(.refl _ _ _ _),o8 hx (.refl n a mid f) (p9 l1 (b_ _) (by omega)) (.refl n mid b f) (p9 l4 (by omega) (b_ _)),rfl⟩
     ·have g1:(s:Int)<(c:Int):=by omega
      have g2:¬(c:Int)<(e:Int):=by omega
      have g3:(a:Int)<(s:Int):=by omega
      have g4:¬(s:Int)<(mid:Int):=by omega
      have g5:(mid:Int)<(e:Int):=by omega
      have g6:(e:Int)<(b:Int):=by omega
      rw[show e=c by omega,bq3] at hx l1 l2 l3 l4;rw[show c=e by omega] at l3 l4;have hr2:=fun (f2:Nat->α) (m:Mv n a mid f f2)=>ih _ _ hX mid e b f2 (by omega) (by omega) (by omega) hb (m.srt_out l3 (.inr (b_ _))) (m.srt_out l4 (.inr (by omega)));refine rS_ Tryz.func158 ?_;simp only[go_sem,seval,n1,w13,g1,g2,g3,g4,g5,g6,h.len,h.gog,h.at0,h.atj,h.set0,h.setj,h.tk,h.tk0,h.tkj,h.refs,h.refsj,h.hcaps,h.capsj,h.hcaps2,h.capsj2,a_]
      repeat' (first|((first|refine(hr2 _ (Mv.refl n a mid f)).mono ?_<;>(rintro c H' ⟨rfl,f3,m3,s3,rfl⟩)|refine⟨sd,?_⟩|refine⟨by assumption,?_⟩)<;>(try simp only[go_sem,seval,n1,w13,g1,g2,g3,g4,g5,g6,h.len,h.gog,h.at0,h.atj,h.set0,h.setj,h.tk,h.tk0,h.tkj,h.refs,h.refsj,h.hcaps,h.capsj,h.hcaps2,h.capsj2,a_]))|fail)
      first | exact o8 hx (.refl n a mid f) (p9 l1 (b_ _) (by omega)) m3 s3 | exact⟨(m3.mono (by omega) (b_ _)),o8 hx (.refl n a mid f) (p9 l1 (b_ _) (by omega)) m3 s3⟩ | exact⟨_,(m3.mono (by omega) (b_ _)),o8 hx (.refl n a mid f) (p9 l1 (b_ _) (by omega)) m3 s3,rfl⟩
     ·have g1:(s:Int)<(c:Int):=by omega
      have g2:(c:Int)<(e:Int):=by omega
      have g4:(s:Int)<(mid:Int):=by omega
      have g5:(mid:Int)<(e:Int):=by omega
      have hrt:=aZ4 hX hn s c e f p1 (by omega) (by omega);generalize hF:rot s c e f=F at hx l1 l2 l3 l4 hrt;have hr2:=fun (f2:Nat->α) (m:Mv n a mid F f2) (hh:e<b)=>ih _ _ hX mid e b f2 (by omega) (by omega) (by omega) hb (m.srt_out l3 (.inr (b_ _))) (m.srt_out l4 (.inr (by omega)));by_cases d1:a<s
      ·have g3:(a:Int)<(s:Int):=by omega
       have hl:=ih _ _ hX a s mid F (by omega) d1 (by omega) (by omega) l1 l2;by_cases d2:e<b
       ·have g6:(e:Int)<(b:Int):=by omega
        refine rS_ Tryz.func158 ?_;simp only[go_sem,seval,n1,w13,g1,g2,g3,g4,g5,g6,h.len,h.gog,h.at0,h.atj,h.set0,h.setj,h.tk,h.tk0,h.tkj,h.refs,h.refsj,h.hcaps,h.capsj,h.hcaps2,h.capsj2,a_]
        repeat' (first|((first|refine hrt.mono ?_<;>(rintro c H' ⟨rfl,hm1,rfl⟩)|refine hl.mono ?_<;>(rintro c H' ⟨rfl,f2,m2,s2,rfl⟩)|refine(hr2 _ m2 d2).mono ?_<;>(rintro c H' ⟨rfl,f3,m3,s3,rfl⟩)|refine⟨by assumption,?_⟩)<;>(try simp only[go_sem,seval,n1,w13,g1,g2,g3,g4,g5,g6,h.len,h.gog,h.at0,h.atj,h.set0,h.setj,h.tk,h.tk0,h.tkj,h.refs,h.refsj,h.hcaps,h.capsj,h.hcaps2,h.capsj2,a_]))|fail)
        first | exact o8 hx m2 s2 m3 s3 | exact⟨(((hm1.mono (by omega) (by omega)).trans (m2.mono (b_ _) (by omega))).trans (m3.mono (by omega) (b_ _))),o8 hx m2 s2 m3 s3⟩ | exact⟨_,(((hm1.mono (by omega) (by omega)).trans (m2.mono (b_ _) (by omega))).trans (m3.mono (by omega) (b_ _))),o8 hx m2 s2 m3 s3,rfl⟩
       ·have g6:¬(e:Int)<(b:Int):=by omega
        refine rS_ Tryz.func158 ?_;simp only[go_sem,seval,n1,w13,g1,g2,g3,g4,g5,g6,h.len,h.gog,h.at0,h.atj,h.set0,h.setj,h.tk,h.tk0,h.tkj,h.refs,h.refsj,h.hcaps,h.capsj,h.hcaps2,h.capsj2,a_]
        repeat' (first|((first|refine hrt.mono ?_<;>(rintro c H' ⟨rfl,hm1,rfl⟩)|refine hl.mono ?_<;>(rintro c H' ⟨rfl,f2,m2,s2,rfl⟩)|refine⟨sd,?_⟩|refine⟨by assumption,?_⟩)<;>(try simp only[go_sem,seval,n1,w13,g1,g2,g3,g4,g5,g6,h.len,h.gog,h.at0,h.atj,h.set0,h.setj,h.tk,h.tk0,h.tkj,h.refs,h.refsj,h.hcaps,h.capsj,h.hcaps2,h.capsj2,a_]))|fail)
        first | exact o8 hx m2 s2 (.refl n mid b f2) (p9 (m2.srt_out l3 (.inr (b_ _))) (b_ _) (by omega)) | exact⟨((hm1.mono (by omega) (by omega)).trans (m2.mono (b_ _) (by omega))),o8 hx m2 s2 (.refl n mid b f2) (p9 (m2.srt_out l3 (.inr (b_ _))) (b_ _) (by omega))⟩ | exact⟨_,((hm1.mono (by omega) (by omega)).trans (m2.mono (b_ _) (by omega))),o8 hx m2 s2 (.refl n mid b f2) (p9 (m2.srt_out l3 (.inr (b_ _))) (b_ _) (by omega)),rfl⟩
      ·have g3:¬(a:Int)<(s:Int):=by omega
       have l2':srt lt F a mid:=p9 l2 (by omega) (b_ _);by_cases d2:e<b
       ·have g6:(e:Int)<(b:Int):=by omega
        refine rS_ Tryz.func158 ?_;simp only[go_sem,seval,n1,w13,g1,g2,g3,g4,g5,g6,h.len,h.gog,h.at0,h.atj,h.set0,h.setj,h.tk,h.tk0,h.tkj,h.refs,h.refsj,h.hcaps,h.capsj,h.hcaps2,h.capsj2,a_]
        repeat' (first|((first|refine hrt.mono ?_<;>(rintro c H' ⟨rfl,hm1,rfl⟩)|refine(hr2 _ (Mv.refl n a mid F) d2).mono ?_<;>(rintro c H' ⟨rfl,f3,m3,s3,rfl⟩)|refine⟨by assumption,?_⟩)<;>(try simp only[go_sem,seval,n1,w13,g1,g2,g3,g4,g5,g6,h.len,h.gog,h.at0,h.atj,h.set0,h.setj,h.tk,h.tk0,h.tkj,h.refs,h.refsj,h.hcaps,h.capsj,h.hcaps2,h.capsj2,a_]))|fail)
        first | exact o8 hx (.refl n a mid F) l2' m3 s3 | exact⟨((hm1.mono (by omega) (by omega)).trans (m3.mono (by omega) (b_ _))),o8 hx (.refl n a mid F) l2' m3 s3⟩ | exact⟨_,((hm1.mono (by omega) (by omega)).trans (m3.mono (by omega) (b_ _))),o8 hx (.refl n a mid F) l2' m3 s3,rfl⟩
       ·have g6:¬(e:Int)<(b:Int):=by omega
        refine rS_ Tryz.func158 ?_;simp only[go_sem,seval,n1,w13,g1,g2,g3,g4,g5,g6,h.len,h.gog,h.at0,h.atj,h.set0,h.setj,h.tk,h.tk0,h.tkj,h.refs,h.refsj,h.hcaps,h.capsj,h.hcaps2,h.capsj2,a_]
        repeat' (first|((first|refine hrt.mono ?_<;>(rintro c H' ⟨rfl,hm1,rfl⟩)|refine⟨by assumption,?_⟩)<;>(try simp only[go_sem,seval,n1,w13,g1,g2,g3,g4,g5,g6,h.len,h.gog,h.at0,h.atj,h.set0,h.setj,h.tk,h.tk0,h.tkj,h.refs,h.refsj,h.hcaps,h.capsj,h.hcaps2,h.capsj2,a_]))|fail)
        first | exact o8 hx (.refl n a mid F) l2' (.refl n mid b F) (p9 l3 (b_ _) (by omega)) | exact⟨(hm1.mono (by omega) (by omega)),o8 hx (.refl n a mid F) l2' (.refl n mid b F) (p9 l3 (b_ _) (by omega))⟩ | exact⟨_,(hm1.mono (by omega) (by omega)),o8 hx (.refl n a mid F) l2' (.refl n mid b F) (p9 l3 (b_ _) (by omega)),rfl⟩
end
section
variable {α:Type} {g sf:FuncId} {cs ds:List C} {n m:Nat} {Hs:(Nat->α)->List O} {lt:α->α->Bool}
theorem aY4 (hw:Wk lt) (hn:n<=1000000000000) (h:Srtr Tryz.prog g cs sf ds n m Hs lt) (f:Nat->α) :
  ACalls Tryz.prog 120 [.agg [.fn g cs,.xfn sf ds],.d (.int .i64 n)] (Hs f) (fun c H'=>c=.tup []/\∃f1,((List.range n).map f1).Perm ((List.range n).map f)/\srt lt f1 0 n/\H'=Hs f1):=by
 have hX:=h.ext [.box [.fn g cs,.xfn sf ds]] (by simp[O.refsLt,C.refsLt,h.capsj,h.capsj2,-List.all_eq_true]);refine aE_ Tryz.func120 ?_;refine rS_ Tryz.func120 ?_;simp only[go_sem,seval,h.len,h.gog,h.at0,h.atj,h.set0,h.setj,h.tk,h.tk0,h.tkj,h.refs,h.refsj,h.hcaps,h.capsj,h.hcaps2,h.capsj2,a_];refine AW.lp [1,2,4] (fun u:Nat×Nat×(Nat->α)=>[(5,.d (.int .i64 (u.1:Int))),(6,.d (.int .i64 ((u.1:Int)+20)))]) (fun _ u=>Hs u.2.2++[.box [.fn g cs,.xfn sf ds]]) (fun u=>u.1=u.2.1 * 20/\u.1<=n/\Mv n 0 n f u.2.2/\by3 lt u.2.2 20 n (u.2.1 * 20)) (fun u=>n - u.1) (0,0,f) ⟨by simp,l_ _,.refl _ _ _ _,by simp[bK5]⟩ ai2 ?_;rintro ⟨a,t,f1⟩ ⟨h1,h2,h3,h4⟩ hnext;dsimp only at h1 h2 h3 h4 hnext |-;have hnx:=fun a' t' f' s'=>hnext (a',t',f') s';clear hnext;by_cases hc:a+20<=n
 ·have n1:(a:Int)+20<=(n:Int):=by omega
  have w1:IntKind.i64.wrap ((a:Int)+20+20)=(a:Int)+20+20:=l6 (by omega) (by omega);have hi:=ab7 hX hw (by omega) a (a+20) f1 (by omega) hc;rw[Int.natCast_add] at hi;refine rS_ Tryz.func120 ?_;simp only[go_sem,seval,n1,h.len,h.gog,h.at0,h.atj,h.set0,h.setj,h.tk,h.tk0,h.tkj,h.refs,h.refsj,h.hcaps,h.capsj,h.hcaps2,h.capsj2,a_]
  repeat' (first|refine hi.mono ?_<;>(rintro c H' ⟨rfl,f2,m2,s2,rfl⟩)<;>try simp only[go_sem,seval,n1,w1,h.len,h.gog,h.at0,h.atj,h.set0,h.setj,h.tk,h.tk0,h.tkj,h.refs,h.refsj,h.hcaps,h.capsj,h.hcaps2,h.capsj2,a_]|fail)
  refine hnx (a+20) (t+1) f2 _ ⟨by dsimp only;omega,hc,h3.trans (m2.mono (l_ _) hc),?_⟩ (by dsimp only;omega) ai2;rw[h1] at m2 s2;exact bK4 (by omega) h4 m2 (by rw[I_ (by omega)];exact s2)
 ·have n1:¬(a:Int)+20<=(n:Int):=by omega
  have hi:=ab7 hX hw (by omega) a n f1 h2 (b_ _);clear hnx;refine l9 Tryz.func120 mixed 12 _ _ (by kernel_rfl) ?_;simp only[go_sem,seval,run.eq_1,n1,h.len,h.gog,h.at0,h.atj,h.set0,h.setj,h.tk,h.tk0,h.tkj,h.refs,h.refsj,h.hcaps,h.capsj,h.hcaps2,h.capsj2,a_]
  repeat' (first|refine hi.mono ?_<;>(rintro c H' ⟨rfl,f2,m2,s2,rfl⟩)<;>try simp only[go_sem,seval,n1,run.eq_1,h.len,h.gog,h.at0,h.atj,h.set0,h.setj,h.tk,h.tk0,h.tkj,h.refs,h.refsj,h.hcaps,h.capsj,h.hcaps2,h.capsj2,a_]|fail)
  have hb2:by3 lt f2 20 n n:=by
   rw[h1] at m2 s2;exact aH8 (by omega) h4 m2 s2 (by omega)
  have hM2:=h3.trans (m2.mono (l_ _) (b_ _));clear m2 s2 h1 h2 h3 h4 hc n1 hi;refine AW.lp [1,2] (fun u:Nat×(Nat->α)=>[(4,.d (.int .i64 (u.1:Int)))]) (fun _ u=>Hs u.2++[.box [.fn g cs,.xfn sf ds]]) (fun u=>20<=u.1/\Mv n 0 n f u.2/\by3 lt u.2 u.1 n n) (fun u=>n - u.1) (20,f2) ⟨b_ _,hM2,hb2⟩ ai2 ?_;rintro ⟨bs,f3⟩ ⟨b1,b2,b3⟩ hnext;dsimp only at b1 b2 b3 hnext |-;have hny:=fun b' f' s'=>hnext (b',f') s';clear hnext;by_cases hc:bs<n
  ·have n1:(bs:Int)<(n:Int):=by omega
   have w1:IntKind.i64.wrap (2 * (bs:Int))=2 * (bs:Int):=l6 (by omega) (by omega);have w2:IntKind.i64.wrap ((bs:Int) * 2)=((bs * 2:Nat):Int):=wrapN _ (by omega) (by omega);refine rS_ Tryz.func120 ?_;simp only[go_sem,seval,n1,w1,h.len,h.gog,h.at0,h.atj,h.set0,h.setj,h.tk,h.tk0,h.tkj,h.refs,h.refsj,h.hcaps,h.capsj,h.hcaps2,h.capsj2,a_];refine AW.lp [1,2,4] (fun u:Nat×Nat×(Nat->α)=>[(5,.d (.int .i64 (u.1:Int))),(6,.d (.int .i64 ((u.1:Int)+2 * (bs:Int))))]) (fun _ u=>Hs u.2.2++[.box [.fn g cs,.xfn sf ds]]) (fun u=>u.1=u.2.1 * (2 * bs)/\u.1<=n/\Mv n 0 n f u.2.2/\by3 lt u.2.2 (2 * bs) n (u.2.1 * (2 * bs))/\rest lt u.2.2 bs n (2 * u.2.1)) (fun u=>n - u.1) (0,0,f3) ⟨by simp,l_ _,b2,by simp[bK5],rest_of b3⟩ ai2 ?_;rintro ⟨a,t,f4⟩ ⟨h5,h6,h7,h8,h9⟩ hnext;dsimp only at h5 h6 h7 h8 h9 hnext |-;have hnz:=fun a' t' f' s'=>hnext (a',t',f') s';clear hnext;have w3:IntKind.i64.wrap ((a:Int)+(bs:Int))=((a+bs:Nat):Int):=wrapN _ (by omega) (by omega);by_cases hd:a+2 * bs<=n
   ·have n2:(a:Int)+2 * (bs:Int)<=(n:Int):=by omega
    have w4:IntKind.i64.wrap ((a:Int)+2 * (bs:Int)+2 * (bs:Int))=(a:Int)+2 * (bs:Int)+2 * (bs:Int):=l6 (by omega) (by omega);obtain⟨r1,r2⟩:=aZ7 h9 (by rw[<-h5];omega);rw[<-h5] at r1 r2;rw[I_ hd] at r2;have hs:=aA5 hw (by omega) (a+2 * bs - a) _ _ hX a (a+bs) (a+2 * bs) f4 (b_ _) (by omega) (by omega) hd r1 r2;have hcast:((a+2 * bs:Nat):Int)=(a:Int)+2 * (bs:Int):=by omega
    rw[hcast] at hs;refine rS_ Tryz.func120 ?_;simp only[go_sem,seval,n2,w1,w3,h.len,h.gog,h.at0,h.atj,h.set0,h.setj,h.tk,h.tk0,h.tkj,h.refs,h.refsj,h.hcaps,h.capsj,h.hcaps2,h.capsj2,a_]
    repeat' (first|refine hs.mono ?_<;>(rintro c H' ⟨rfl,f5,m5,s5,rfl⟩)<;>try simp only[go_sem,seval,n2,w1,w3,w4,h.len,h.gog,h.at0,h.atj,h.set0,h.setj,h.tk,h.tk0,h.tkj,h.refs,h.refsj,h.hcaps,h.capsj,h.hcaps2,h.capsj2,a_]|fail)
    refine hnz (a+2 * bs) (t+1) f5 _ ⟨by dsimp only;rw[Nat.add_mul t 1 (2 * bs),Nat.one_mul,<-h5],hd,h7.trans (m5.mono (l_ _) hd),?_,?_⟩ (by dsimp only;omega) (by dsimp only;rw[hcast];exact by refine⟨by simp[mkS,h.len],by simp only[mkS,m_,f_,v_,h.len,h.tkj,h.tk0,h.tk];first | done | rfl | (simp;done),by simp[mkS,O.refsLt,C.refsLt,C.refsLt1,h.len,h.refs,h.refsj,h.hcaps,h.capsj,h.hcaps2,h.capsj2,l7,O9,-List.all_eq_true],?_⟩;simp[mkS,Abs.get,C.refsLtT,C.refsLt,C.refsLt1,h.len,h.hcaps,h.capsj,h.hcaps2,h.capsj2,-List.all_eq_true])
    ·rw[h5] at m5 s5
     exact bK4 (by omega) h8 m5 (by rw[I_ (by rw[<-h5];omega)];exact s5)
    ·exact bX2 h9 (t':=2 * (t+1)) (by omega) m5 (by rw[show 2 * (t+1)=2 * t+2 by omega,aJ7,<-h5];exact b_ _)
   ·have n2:¬(a:Int)+2 * (bs:Int)<=(n:Int):=by omega
    clear hnz;by_cases he:a+bs<n
    ·have n3:((a+bs:Nat):Int)<(n:Int):=by omega
     have n3':(a:Int)+(bs:Int)<(n:Int):=by omega
     obtain⟨r1,r2⟩:=aZ7 h9 (by rw[<-h5];omega);rw[<-h5] at r1 r2;rw[Nat.min_eq_right (by omega)] at r2;have hs:=aA5 hw (by omega) (n - a) _ _ hX a (a+bs) n f4 (b_ _) (by omega) he (b_ _) r1 r2;refine rS_ Tryz.func120 ?_;simp only[go_sem,seval,n2,w3,n3,n3',h.len,h.gog,h.at0,h.atj,h.set0,h.setj,h.tk,h.tk0,h.tkj,h.refs,h.refsj,h.hcaps,h.capsj,h.hcaps2,h.capsj2,a_]
     repeat' (first|refine hs.mono ?_<;>(rintro c H' ⟨rfl,f5,m5,s5,rfl⟩)<;>try simp only[go_sem,seval,n2,w2,w3,n3,n3',h.len,h.gog,h.at0,h.atj,h.set0,h.setj,h.tk,h.tk0,h.tkj,h.refs,h.refsj,h.hcaps,h.capsj,h.hcaps2,h.capsj2,a_]|fail)
     have hM5:=h7.trans (m5.mono (l_ _) (b_ _));rw[h5] at m5 s5;have hbl:=aH8 (k:=2 * bs) (by omega) h8 m5 s5 (by rw[<-h5];omega);all_goals refine hny (bs * 2) f5 _ ⟨by omega,hM5,by dsimp only;rw[Nat.mul_comm bs 2];exact hbl⟩ (by dsimp only;omega) ai2
    ·have n3:¬((a+bs:Nat):Int)<(n:Int):=by omega
     have n3':¬(a:Int)+(bs:Int)<(n:Int):=by omega
     have hl:=bq6 h9 (by rw[<-h5];omega);refine rS_ Tryz.func120 ?_;simp only[go_sem,seval,n2,w3,n3,n3',h.len,h.gog,h.at0,h.atj,h.set0,h.setj,h.tk,h.tk0,h.tkj,h.refs,h.refsj,h.hcaps,h.capsj,h.hcaps2,h.capsj2,a_]
     repeat' (first|simp(disch:=omega) only[l6]|fail)
     have hbl:=aH8 (k:=2 * bs) (by omega) h8 (.refl _ _ _ _) hl (by rw[<-h5];omega);all_goals refine hny (bs * 2) f4 _ ⟨by omega,h7,by dsimp only;rw[Nat.mul_comm bs 2];exact hbl⟩ (by dsimp only;omega) ai2
  ·have n1:¬(bs:Int)<(n:Int):=by omega
   have hP:=b2.perm;have hS:=by2 b3 (by omega);refine rS_ Tryz.func120 ?_;simp only[go_sem,seval,n1,h.len,h.gog,h.at0,h.atj,h.set0,h.setj,h.tk,h.tk0,h.tkj,h.refs,h.refsj,h.hcaps,h.capsj,h.hcaps2,h.capsj2,a_]
   repeat' (first|((first|refine⟨sd,?_⟩|refine⟨by assumption,?_⟩)<;>(try simp only[go_sem,seval,n1,h.len,h.gog,h.at0,h.atj,h.set0,h.setj,h.tk,h.tk0,h.tkj,h.refs,h.refsj,h.hcaps,h.capsj,h.hcaps2,h.capsj2,a_]))|assumption)
   all_goals first | exact hS | exact⟨hP,hS⟩ | exact⟨_,hP,hS,rfl⟩
end
set_option maxHeartbeats 4000000
def fcE (f:FcV):List D:=f.fc.enc
@[go_sem] theorem bR1 (f:FcV):(fcE f).length=2:=Fc.enc_len _
theorem o5 (f:FcV):fcE f=[.str f.1,.sl (f.2.map V.enc)]:=by unfold fcE;rw[Fc.enc_eq];simp only[FcV.fc,D5]
theorem R4 (a b:FcV):Gives Tryz.prog 71 [.agg (fcE a),.agg (fcE b)] (.d (.int .i64 (a.cmp b))):=aj5 a.1 b.1 a.2 b.2
noncomputable def cb1:TypeInfo:=(Tryz.prog.info? 33).get (by kernel_rfl)
noncomputable def cn6:TypeInfo:=(Tryz.prog.info? 29).get (by kernel_rfl)
theorem cb0 (n:Nat) (h2:2<=n):Lib.swapperK n cb1 25=9:=by
 have a:cb1.hasPointers=true:=by kernel_rfl
 have b:cb1.bytes=40:=by kernel_rfl
 have c:(n == 0)=false:=by simp;omega
 have d:(n == 1)=false:=by simp;omega
 simp[Lib.swapperK,a,b,c,d]
theorem aE8 (xs:List (List D)) (a b:FcV) (i j:Nat) (hi:xs[i]? = some (fcE a)) (hj:xs[j]? = some (fcE b)):ACalls Tryz.prog 138 [.d (.int .i64 i),.d (.int .i64 j),.cptr [.sl xs]] [] (fun c _=>c=.d (.bool (decide (a.cmp b<0)))):=by
 have h1:=(c_.1 hi).1;have h2:=(c_.1 hj).1;have n1:(i:Int)<(xs.length:Int):=by omega
 have n2:(j:Int)<(xs.length:Int):=by omega
 have ho:=R4 a b;refine aE_ Tryz.func138 ?_;refine rS_ Tryz.func138 ?_;simp only[go_sem,seval,n1,n2,d9 hi,d9 hj]
 repeat' (first|refine ho.callQ rfl ?_<;>try simp only[go_sem,seval,n1,n2,d9 hi,d9 hj]|fail)
theorem aK3 {H:List O} {rb r q e:Nat} {xs:List FcV} (hb:H[rb]? = some (.box [.own r q])) (hr:H[r]? = some (.buf q 2 e (xs.map fcE))) (hne:rb≠r) (hrefs:H.all (O.refsLt H.length)=true) (hn:xs.length<=1000000000000) :
  ACalls Tryz.prog 74 [.ifc 29 (.own r q),.fn 138 [.ptr rb 0]] H (fun c H'=>c=.tup []/\∃ys:List FcV,ys.Perm xs/\ys.Pairwise (fun a b=>decide (b.cmp a<0)=false)/\H'=H.set r (.buf q 2 e (ys.map fcE))):=by
 have hz:cb1.size=2:=by kernel_rfl
 have hw:Wk (fun a b:FcV=>decide (a.cmp b<0)):=FcV.cmp_lin.wk;have hbl:=(c_.1 hb).1;have hrl:=(c_.1 hr).1
 have h:=X7 Tryz.laysGt8 29 33 cn6 cb1 (by kernel_rfl) (by kernel_rfl) (by kernel_rfl) (by kernel_rfl) 25 (fun _=>by kernel_rfl) (fun _=>by kernel_rfl) 148 149 156
  (by kernel_rfl) (by kernel_rfl) (fun n h2=>by rw[cb0 n h2];kernel_rfl) false (fun args W=>run_callFunc_extern Tryz.func156 (by kernel_rfl) (by kernel_rfl) (by kernel_rfl) (e:=Extern.ReflectliteSwapper.swap false) (by kernel_rfl) args W)
  fcE (fun x=>(bR1 x).trans hz.symm) (fun a b=>decide (a.cmp b<0)) (g:=138) (caps:=[.ptr rb 0]) (H:=H) (r:=r) (q:=q) (e:=e) (xs:=xs) (by kernel_rfl) (by simp[C.refsLt1,hbl]) hrefs (by rw[hz];exact hr) hn
  (fun caps2 n m Hs h1 S f0=>aY4 hw h1 S f0)
  (fun f X i j hi hj=>ca0 hb hne hrl X (aE8 _ (f i) (f j) i j (H6 fcE f hi) (H6 fcE f hj)))
 rw[hz] at h;exact h
theorem aK0 (l:List FcV) (hl:l.length<=2000000):Gives Tryz.prog 104 [.sl (l.map fcE)] (.d (.sl ((al7 FcV.cmp l).map fcE))):=by
 have hmx:maxLen=9223372036854775807:=rfl;have hmap:∀x:List FcV,(x.map fcE).length=x.length:=fun x=>h_ _;refine aE_ Tryz.func104 ?_;refine l9 Tryz.func104 mixed 3 _ _ (by kernel_rfl) ?_;simp only[go_sem,seval,run.eq_1];refine AW.regS ?_;simp only[go_sem,seval,hmap];refine⟨by omega,by omega,?_⟩;have hst:ACalls Tryz.prog 74 [.ifc 29 (.own 0 1),.fn 138 [.ptr 1 0]] [.buf 1 2 33 (l.map fcE),.box [.own 0 1]] _:=aK3 rfl rfl (by decide) rfl (by omega);refine l9 Tryz.func104 mixed 2 _ _ (by kernel_rfl) ?_;simp only[go_sem,seval,run.eq_1];refine hst.mono ?_;rintro c H' ⟨rfl,ys,hp,hs,rfl⟩;simp only[go_sem,seval,run.eq_1];refine AW.frzBox 1 0 0 rfl rfl rfl (by decide) ?_;refine l9 Tryz.func104 mixed 2 _ _ (by kernel_rfl) ?_;simp only[go_sem,seval,run.eq_1];refine AW.adopt 4 2 33 (by decide) rfl ?_;have hyl:ys.length=l.length:=hp.length_eq;have hR:ddC FcV.cmp none ys=al7 FcV.cmp l:=bd0 FcV.cmp_lin (fun z=>hp.mem_iff) (hs.imp (fun h=>by simpa using h));rw[<-hR];refine rS_ Tryz.func104 ?_;simp only[go_sem,seval,hmap]
 refine AW.rng ys [3,15,16] 17 15 (fun p:List FcV=>[(4,.own 2 (ddC FcV.cmp none p).length)]) (fun _ p=>[.dead,.box [.d (.sl (ys.map fcE))],.grow (ddC FcV.cmp none p).length 2 33 ((ddC FcV.cmp none p).map fcE)]) (fun r p=>ys=p++r) [] rfl (by simp) rfl (by refine⟨by simp[mkS,ddC],by simp[mkS,ddC],by simp only[mkS,e_,i_,O.refsLt,C.refsLt,C.refsLt1,l7];first | done | rfl | (simp;done),?_⟩;simp[mkS,Abs.get,C.refsLtT,C.refsLt,C.refsLt1,ddC]) (fun i x r p hxi hdr hlt hm hinv hnext=>?_) (fun p hinv=>?_)
 ·have hdl:=congrArg List.length hdr
  have hil:=congrArg List.length hinv;simp only[y_,f_,m_] at hdl hil;have hip:i=p.length:=by omega
  have hnx:=fun s'=>hnext (p++[x]) s' (by rw[hinv];simp);clear hnext;have hdd:=bd1 (c:=FcV.cmp) p none x;have hddl:(ddC FcV.cmp none p).length<=p.length:=by
   have key:∀(q:List FcV) (o:Option FcV),(ddC FcV.cmp o q).length<=q.length:=fun q=>by
    induction q with
    | nil=>intro o;simp[ddC]
    | cons z q ih =>
     intro o;cases o with
     | none=>simp only[ddC,f_];have:=ih (some z);omega
     | some w=>simp only[ddC];split<;>simp only[f_]<;>have:=ih (some z)<;>omega
   exact key p none
  rcases List.eq_nil_or_concat p with rfl | ⟨p',y,rfl⟩
  ·obtain rfl:i=0:=by simpa using hip
   have hd1:ddC FcV.cmp none ([]++[x])=[x]:=rfl;have hd0:ddC FcV.cmp none ([]:List FcV)=[]:=rfl;rw[hd1] at hnx;rw[hd0];have z0:((0:Nat):Int)=0:=rfl;have hlt0:(0:Int)<(ys.length:Int):=by omega
   rw[z0] at hnx;refine rS_ Tryz.func104 ?_;simp only[go_sem,seval,hlt0,d9 hxi,z0]
   repeat' (first|simp(disch:=omega) only[l6]|refine⟨sd,?_⟩<;>try simp only[go_sem,seval,hlt0,d9 hxi,z0]|fail)
   refine hnx _ A7
  ·rw[List.concat_eq_append] at *
   have hi0:¬(i:Int)=0:=by rw[hip];simp;omega
   have hw1:IntKind.i64.wrap ((i:Int) - 1)=((i - 1:Nat):Int):=by rw[l6 (by omega) (by omega)];omega
   have n2:((i - 1:Nat):Int)<(ys.length:Int):=by omega
   have hyi:ys[i - 1]? = some y:=by
    rw[hinv,hip];simp
   have ho:=R4 y x;have hlast:(((none:Option FcV).toList++(p'++[y])).getLast?)=some y:=by simp
   rw[hlast] at hdd;dsimp only at hdd;by_cases e:y.cmp x=0
   ·rw[if_pos e,g_] at hdd
    rw[e] at ho;rw[hdd] at hnx;refine rS_ Tryz.func104 ?_;simp only[go_sem,seval,hlt,d9 hxi,hi0,hw1,n2,d9 hyi,hmap]
    repeat' (first|simp(disch:=omega) only[l6]|refine ho.callQ rfl ?_<;>try simp only[go_sem,seval,hlt,d9 hxi,hi0,hw1,n2,d9 hyi,hmap]|fail)
    all_goals refine hnx _ A7
   ·rw[if_neg e] at hdd
    rw[hdd] at hnx;refine rS_ Tryz.func104 ?_;simp only[go_sem,seval,hlt,d9 hxi,hi0,hw1,n2,d9 hyi,hmap]
    repeat' (first|refine E8 ?_ ?_<;>intro hq<;>try simp only[go_sem,seval,hlt,d9 hxi,hi0,hw1,n2,d9 hyi,hmap,e,hq]|simp(disch:=omega) only[l6]|((first|refine ho.callQ rfl ?_|refine⟨sd,?_⟩)<;>(try simp only[go_sem,seval,hlt,d9 hxi,hi0,hw1,n2,d9 hyi,hmap,e]))|fail)
    all_goals first | exfalso;exact e (by assumption) | skip
    all_goals refine hnx _ A7
 ·rw[g_] at hinv
  rw[hinv];refine rS_ Tryz.func104 ?_;simp only[go_sem,seval]
theorem cb4 (x y:Nat) (h:x+y<=1000000000):IntKind.i64.wrap (bU4 .u64 (IntKind.u64.wrap ((x:Int)+(y:Int))) 1)=(((x+y) / 2:Nat):Int):=bj2 x y (by omega)
theorem bp5 {g:FuncId} {caps:List C} {m:Nat} {H:List O} {p:Nat->Bool} (n:Nat) (hn:n<=100000000) (h:CloR Tryz.prog g caps m (fun i:Nat=>D.int .i64 (i:Int)) H (fun i=>i<n) (fun i=>.d (.bool (p i)))) (hm:∀i j,i<=j->j<n->p i=true->p j=true) :
  ACalls Tryz.prog 106 [.d (.int .i64 n),.fn g caps] H (fun c H'=>c=.d (.int .i64 (aJ9 p n:Int))/\H'=H):=by
 obtain⟨K,hK⟩:∃K,aJ9 p n=K:=⟨_,rfl⟩;rw[hK];refine aE_ Tryz.func106 ?_;refine rS_ Tryz.func106 ?_;simp only[go_sem,seval,h.len,h.go,h.at0,h.atj,h.set0,h.setj,h.tk,h.tk0,h.tkj,h.refs,h.refsj,h.hcaps,h.capsj,a_];refine AW.lp [1] (fun u:Nat×Nat=>[(5,.d (.int .i64 (u.1:Int))),(6,.d (.int .i64 (u.2:Int)))]) (fun H _=>H) (fun u=>u.1<=u.2/\u.2<=n/\(∀i,i<u.1->p i=false)/\(∀i,u.2<=i->i<n->p i=true)) (fun u=>u.2 - u.1) (0,n) ⟨l_ _,b_ _,fun i hi=>absurd hi (Nat.not_lt_zero _),fun i a b=>by omega⟩ bV2 ?_;rintro ⟨i,j⟩ ⟨h1,h2,h3,h4⟩ hnext;dsimp only at h1 h2 h3 h4 hnext |-;by_cases hij:i<j
 ·have n1:(i:Int)<(j:Int):=by omega
  have hh:=cb4 i j (by omega);have w0:IntKind.i64.wrap ((i:Int)+(j:Int))=(i:Int)+(j:Int):=l6 (by omega) (by omega);have hnx:=fun i' j' s'=>hnext (i',j') s';clear hnext;have hq:(i+j) / 2<n:=by omega
  have hc:=h.call ((i+j) / 2) hq;cases hp:p ((i+j) / 2) with
  | false =>
   rw[hp] at hc;refine rS_ Tryz.func106 ?_;simp only[go_sem,seval,n1,w0,hh,h.len,h.go,h.at0,h.atj,h.set0,h.setj,h.tk,h.tk0,h.tkj,h.refs,h.refsj,h.hcaps,h.capsj,a_]
   repeat' (first|simp(disch:=omega) only[l6]|refine hc.mono ?_<;>(rintro c H' ⟨rfl,rfl⟩)<;>try simp only[go_sem,seval,n1,w0,hh,h.len,h.go,h.at0,h.atj,h.set0,h.setj,h.tk,h.tk0,h.tkj,h.refs,h.refsj,h.hcaps,h.capsj,a_]|fail)
   refine hnx ((i+j) / 2+1) j _ ⟨by omega,h2,fun x hx=>?_,h4⟩ (by dsimp only;omega) bV2;cases hpx:p x with
   | false=>rfl
   | true=>rw[<-hp];exact(hm x _ (by omega) hq hpx).symm
  | true =>
   rw[hp] at hc;refine rS_ Tryz.func106 ?_;simp only[go_sem,seval,n1,w0,hh,h.len,h.go,h.at0,h.atj,h.set0,h.setj,h.tk,h.tk0,h.tkj,h.refs,h.refsj,h.hcaps,h.capsj,a_]
   repeat' (first|refine hc.mono ?_<;>(rintro c H' ⟨rfl,rfl⟩)<;>try simp only[go_sem,seval,n1,w0,hh,h.len,h.go,h.at0,h.atj,h.set0,h.setj,h.tk,h.tk0,h.tkj,h.refs,h.refsj,h.hcaps,h.capsj,a_]|fail)
   refine hnx i ((i+j) / 2) _ ⟨by omega,by omega,h3,fun x hx hxn=>hm _ x hx hxn hp⟩ (by dsimp only;omega) bV2
 ·have n1:¬(i:Int)<(j:Int):=by omega
  obtain rfl:i=j:=by omega
  have hki:K=i:=by rw[<-hK];exact bN0 h2 h3 (fun hlt=>h4 i (b_ _) hlt)
  rw[hki];refine rS_ Tryz.func106 ?_;simp only[go_sem,seval,n1,h.len,h.go,h.at0,h.atj,h.set0,h.setj,h.tk,h.tk0,h.tkj,h.refs,h.refsj,h.hcaps,h.capsj,a_]
theorem aO1 (l:List FcV) (f:FcV):CloR Tryz.prog 107 [.ptr 0 0,.ptr 1 0] 2 (fun i:Nat=>D.int .i64 (i:Int)) [.box [.d (.sl (l.map fcE))],.box ((fcE f).map .d)] (fun i=>i<l.length) (fun i=>.d (.bool (geC FcV.cmp l f i))):=by
 have hmap:∀x:List FcV,(x.map fcE).length=x.length:=fun x=>h_ _;refine⟨by kernel_rfl,rfl,rfl,by simp only[e_,i_,O.refsLt,l7,C.refsLt,C.refsLt1];rfl,fun i hi=>?_⟩;have hb:l[i]? = some l[i]:=k_ hi;have hg:geC FcV.cmp l f i=decide (0<=l[i].cmp f):=by unfold geC;rw[hb]
 rw[hg];generalize l[i]=b at hb;have n1:(i:Int)<(l.length:Int):=by omega
 have ho:=R4 b f;refine aE_ Tryz.func107 ?_;refine rS_ Tryz.func107 ?_;simp only[go_sem,seval,hmap,n1,d9 hb]
 repeat' (first|refine ho.callQ rfl ?_<;>try simp only[go_sem,seval,hmap,n1,d9 hb]|fail)
 all_goals simp only[l7]
theorem Y4 (l:List FcV) (f:FcV) (hl:l.length<=9000000) (ha:ai0 FcV.cmp l):Gives Tryz.prog 60 [.sl (l.map fcE),.agg (fcE f)] (.d (.bool (decide (f∈l)))):=by
 have hmap:∀x:List FcV,(x.map fcE).length=x.length:=fun x=>h_ _;have hs:=bp5 l.length (by omega) (aO1 l f) (bF3 FcV.cmp_lin ha f);have hh:=bC0 FcV.cmp_lin ha f;generalize aJ9 (geC FcV.cmp l f) l.length=k at hs hh;cases hb:l[k]? with
 | none =>
  have hk:=o_.1 hb;have n1:¬(k:Int)<(l.length:Int):=by omega
  rw[hb] at hh;rw[decide_eq_false (fun h=>hh.2 h)];refine aE_ Tryz.func60 ?_;refine rS_ Tryz.func60 ?_;simp only[go_sem,seval,hmap,n1]
  repeat' (first|refine hs.mono ?_<;>(rintro c H' ⟨rfl,rfl⟩)<;>try simp only[go_sem,seval,hmap,n1]|fail)
 | some b =>
  have hk:=(c_.1 hb).1;have n1:(k:Int)<(l.length:Int):=by omega
  rw[hb] at hh;dsimp only at hh;have ho:=R4 b f;rw[show decide (f∈l)=decide (b.cmp f=0) from by rw[w_,decide_eq_true_eq,decide_eq_true_eq];exact hh.symm];refine aE_ Tryz.func60 ?_;refine rS_ Tryz.func60 ?_;simp only[go_sem,seval,hmap,n1,d9 hb]
  repeat' (first|((first|refine hs.mono ?_<;>(rintro c H' ⟨rfl,rfl⟩)|refine ho.callQ rfl ?_)<;>(try simp only[go_sem,seval,hmap,n1,d9 hb]))|fail)
def bm6 (c:List Gl):List D:=[.sl (c.map Gl.enc)]
theorem aq8 (c:List Gl):(bm6 c).length=1:=rfl
theorem T9 (c:List Gl):bm6 c=[.sl (c.map Gl.enc)]:=rfl
def bd2 (o:Option (List (List Gl))):C:=.tup [.d (.sl ((o.getD []).map bm6)),.d (.bool o.isSome)]
theorem aQ0 {x:Gl} {l:List (List Gl)} (h:x.clsI=some l):l.length<=64/\∀c,c∈l->c.length<=x.cnt:=by
 rw[Gl.cls_same] at h;split at h
 ·simp only[Option.some.injEq] at h
  subst h;exact⟨by assumption,fun c hc=>(Gl.clsS_row x c hc).1⟩
 ·cases h
theorem ap4:∀t:Gl,wtL t.enc<=1048576->Gives Tryz.prog 70 [.agg t.enc] (bd2 t.clsI):=by
 intro t;induction t using Gl.ind' with
 | h t ih =>
  intro hw;have hmx:maxLen=9223372036854775807:=rfl;have hcn:=Gl.cnt_eq t;have hcw:=Gl.cnt_le_wt t;rw[Gl.clsI_eq];by_cases h0:t.kind=0
  ·rw[if_pos h0]
   refine aE_ Tryz.func70 ?_;refine rS_ Tryz.func70 ?_;simp only[go_sem,seval,h0];all_goals rfl
  ·rw[if_neg h0]
   by_cases h1:t.kind=1
   ·rw[if_pos h1]
    refine aE_ Tryz.func70 ?_;refine rS_ Tryz.func70 ?_;simp only[go_sem,seval,h0,h1];all_goals rfl
   ·rw[if_neg h1]
    by_cases h8:t.kind=8
    ·rw[if_pos h8]
     refine aE_ Tryz.func70 ?_;refine rS_ Tryz.func70 ?_;simp only[go_sem,seval,h0,h1,h8];refine AW.adopt 4 1 90 (by decide) rfl ?_;refine AW.rng t.goals [34,35] 36 34 (fun p:Nat×List (List Gl)=>[(4,.own 1 p.1)]) (fun _ p=>[.box (t.enc.map .d),.grow p.1 1 90 (p.2.map bm6)]) (fun r p=>p.2.length<=64/\Gl.orI r p.2=Gl.orI t.goals []) (0,[]) rfl (by simp) ⟨by simp,rfl⟩ A7 (fun i x r p hxi hdr hlt hm hinv hnext=>?_) (fun p hinv=>?_)
     ·have hxm:=d_ hxi
      obtain⟨hi1,hi2⟩:=hinv;have hx:=ih x hxm (by have:=Gl.wt_goals hxm;omega);simp only[Gl.orI] at hi2;cases hcl:x.clsI with
      | none =>
       rw[hcl] at hx hi2;dsimp only at hi2;rw[<-hi2];refine rS_ Tryz.func70 ?_;simp only[go_sem,seval,hlt,d9 hxi]
       repeat' (first|refine hx.calls rfl ?_<;>try simp only[go_sem,seval,hlt,d9 hxi,bd2,F_,D_]|fail)
       all_goals rfl
      | some l =>
       obtain⟨hl1,_⟩:=aQ0 hcl;rw[hcl] at hx hi2;dsimp only at hi2;have hal:(p.2++l).length=p.2.length+l.length:=m_;by_cases hb:64<(p.2++l).length
       ·rw[if_pos hb] at hi2
        rw[<-hi2];have hlb:(64:Int)<p.2.length+l.length:=by omega
        refine rS_ Tryz.func70 ?_;simp only[go_sem,seval,hlt,d9 hxi]
        repeat' (first|refine E8 ?_ ?_<;>intro hq<;>try simp only[go_sem,seval,hlt,d9 hxi,bd2,q_,s_,aq8,hq]|simp(disch:=omega) only[l6]|((first|refine hx.calls rfl ?_|refine⟨sd,?_⟩)<;>(try simp only[go_sem,seval,hlt,d9 hxi,bd2,q_,s_,aq8]))|fail)
        all_goals first | exfalso;omega | skip
        all_goals rfl
       ·rw[if_neg hb] at hi2
        have hlb:¬(64:Int)<p.2.length+l.length:=by omega
        refine rS_ Tryz.func70 ?_;simp only[go_sem,seval,hlt,d9 hxi]
        repeat' (first|refine E8 ?_ ?_<;>intro hq<;>try simp only[go_sem,seval,hlt,d9 hxi,bd2,q_,s_,aq8,hq]|simp(disch:=omega) only[l6]|((first|refine hx.calls rfl ?_|refine⟨sd,?_⟩)<;>(try simp only[go_sem,seval,hlt,d9 hxi,bd2,q_,s_,aq8]))|fail)
        all_goals first | exfalso;omega | skip
        refine hnext (p.1+1,p.2++l) _ ⟨by show (p.2++l).length<=64;omega,hi2⟩ A7
     ·obtain⟨hi1,hi2⟩:=hinv
      simp only[Gl.orI] at hi2;rw[<-hi2];refine rS_ Tryz.func70 ?_;simp only[go_sem,seval];all_goals rfl
    ·rw[if_neg h8]
     by_cases h7:t.kind=7
     ·rw[if_pos h7]
      refine aE_ Tryz.func70 ?_;refine rS_ Tryz.func70 ?_;simp only[go_sem,seval,h0,h1,h8,h7];refine AW.rng t.goals [59,60] 61 59 (fun p:List (List Gl)=>[(9,.d (.bool false)),(4,.d (.sl (p.map bm6)))]) (fun _ p=>[.box (t.enc.map .d)]) (fun r p=>p.length<=64/\Gl.andI r p=Gl.andI t.goals [[]]/\∀c,c∈p->c.length+Gl.cnts r<=Gl.cnts t.goals) [[]] rfl (by simp) ⟨by simp,rfl,by simp⟩ (by refine⟨by simp[mkS,T9],by simp[mkS,T9],by simp only[mkS,e_,i_,O.refsLt,C.refsLt,C.refsLt1,l7];first | done | rfl | (simp;done),?_⟩;simp[mkS,Abs.get,C.refsLtT,C.refsLt,C.refsLt1,T9]) (fun i x r p hxi hdr hlt hm hinv hnext=>?_) (fun p hinv=>?_)
      ·have hxm:=d_ hxi
       obtain⟨hi1,hi2,hi3⟩:=hinv;have hx:=ih x hxm (by have:=Gl.wt_goals hxm;omega);simp only[Gl.andI] at hi2;simp only[Gl.cnts] at hi3;cases hcl:x.clsI with
       | none =>
        rw[hcl] at hx hi2;dsimp only at hi2;rw[<-hi2];refine rS_ Tryz.func70 ?_;simp only[go_sem,seval,hlt,d9 hxi]
        repeat' (first|refine hx.calls rfl ?_<;>try simp only[go_sem,seval,hlt,d9 hxi,bd2,F_,D_]|fail)
        all_goals rfl
       | some l =>
        obtain⟨hl1,hl2⟩:=aQ0 hcl;rw[hcl] at hx hi2;dsimp only at hi2;have hpl:=au6 p l;have hpb:p.length * l.length<=64 * 64:=K_ hi1 hl1;refine rS_ Tryz.func70 ?_;simp only[go_sem,seval,hlt,d9 hxi]
        repeat' (first|refine hx.calls rfl ?_<;>try simp only[go_sem,seval,hlt,d9 hxi,bd2,q_,s_]|fail)
        refine AW.adopt 14 1 90 (by decide) rfl ?_;refine AW.rng p [9,12,59,60,61,73,74] 75 73 (fun u:Nat×List (List Gl)=>[(14,.own 2 u.1)]) (fun _ u=>[.box (t.enc.map .d),.box (x.enc.map .d),.grow u.1 1 90 (u.2.map bm6)]) (fun ar u=>u.2++J5 ar l=J5 p l) (0,[]) rfl (by simp) rfl A7 (fun ia a ar u hai hda hal hma hua hna=>?_) (fun u hua=>?_)
        ·have ham:=d_ hai
         have hac:=hi3 a ham;simp only[J5,List.flatMap_cons] at hua;refine rS_ Tryz.func70 ?_;simp only[go_sem,seval,hal,d9 hai,T9];refine AW.rng l [9,12,16,59,60,61,73,74,75,79,80] 81 79 (fun v:Nat×List (List Gl)=>[(14,.own 2 v.1)]) (fun _ v=>[.box (t.enc.map .d),.box (x.enc.map .d),.grow v.1 1 90 (v.2.map bm6)]) (fun br v=>v.2++(br.map (fun y=>a++y)++J5 ar l)=J5 p l) u rfl (by simp) hua A7 (fun ib b br v hbi hdb hbl hmb hvb hnb=>?_) (fun v hvb=>?_)
         ·have hbm:=d_ hbi
          have hbc:=hl2 b hbm;have hvl:=congrArg List.length hvb;simp only[m_,A_,f_] at hvl;refine rS_ Tryz.func70 ?_;simp only[go_sem,seval,hbl,d9 hbi,T9]
          repeat' (first|simp(disch:=omega) only[l6]|refine⟨sd,?_⟩<;>try simp only[go_sem,seval,hbl,d9 hbi,T9]|fail)
          refine hnb (v.1+1,v.2++[a++b]) _ (by rw[<-hvb];simp) (by refine⟨by simp[mkS,T9],by simp[mkS,T9],by simp only[mkS,e_,i_,O.refsLt,C.refsLt,C.refsLt1,l7];first | done | rfl | (simp;done),?_⟩;simp[mkS,Abs.get,C.refsLtT,C.refsLt,C.refsLt1,T9])
         ·simp only[C_,u_] at hvb
          refine rS_ Tryz.func70 ?_;simp only[go_sem,seval]
          repeat' (first|simp(disch:=omega) only[l6]|fail)
          refine hna v _ hvb A7
        ·simp only[J5,List.flatMap_nil,g_] at hua
         have hub:u.2.length=p.length * l.length:=by rw[hua];exact hpl
         refine AW.readG 14 2 rfl rfl ?_;by_cases hb:64<(J5 p l).length
         ·rw[if_pos hb] at hi2
          rw[<-hi2];have hlb:(64:Int)<(u.2.length:Int):=by omega
          refine rS_ Tryz.func70 ?_;simp only[go_sem,seval,hlb];all_goals rfl
         ·rw[if_neg hb] at hi2
          have hlb:¬(64:Int)<(u.2.length:Int):=by omega
          refine rS_ Tryz.func70 ?_;simp only[go_sem,seval,hlb]
          repeat' (first|simp(disch:=omega) only[l6]|fail)
          have hu2:u.2=J5 p l:=hua;refine hnext u.2 _ ⟨by omega,by rw[hu2];exact hi2,fun c hc=>?_⟩ A7;rw[hu2] at hc;obtain⟨ca,cb,hca,hcb,rfl⟩:=au9 hc;have k1:=hi3 ca hca;have k2:=hl2 cb hcb;rw[m_];omega
      ·obtain⟨hi1,hi2,_⟩:=hinv
       simp only[Gl.andI] at hi2;rw[<-hi2];refine rS_ Tryz.func70 ?_;simp only[go_sem,seval];all_goals rfl
     ·rw[if_neg h7]
      refine aE_ Tryz.func70 ?_;refine rS_ Tryz.func70 ?_;simp only[go_sem,seval,h0,h1,h8,h7];all_goals rfl
def l2T (t:Tm):Prop:=ACalls Tryz.prog 162 [.d (.agg t.enc)] [.hole] fun c H'=>c=.agg [.d (.int .i64 t.kind),.d (.int .i64 t.int),.d (.str t.name),.own 0 1]/\∃e B,H'=[.tree 1 4 e (t.args.map Tm.enc) B none]
theorem bu2:∀t:Tm,wtL t.enc<=2000000->l2T t:=by
 intro t;induction t using Tm.ind' with
 | h t ih =>
  intro hw;have hmx:maxLen=9223372036854775807:=rfl;have hwr:wtR (t.args.map Tm.enc)<=2000000:=by
   simp only[Tm.enc_eq t,wtL,D.wt] at hw;omega
  have hlg0:t.args.length<=2000000:=by
   have:=af7 (t.args.map Tm.enc) 0;simp[bo6] at this;omega
  unfold l2T;refine aE_ Tryz.func162 ?_;refine l9 Tryz.func162 mixed 7 _ _ (by kernel_rfl) ?_;simp only[go_sem,seval,run.eq_1];refine AW.adoptTB 3 3 4 47 (by decide) rfl rfl ?_;refine rS_ Tryz.func162 ?_;simp only[go_sem,seval];refine AW.rng t.args [2,3,14,15] 16 14 (fun p:List Tm×(Nat->Prop)=>[]) (fun _ p=>[.hole,.box (t.enc.map .d),.box [.d (.int .i64 0),.d (.int .i64 0),.d (.str []),.nil0],.box [.d (.int .i64 t.kind),.d (.int .i64 t.int),.d (.str t.name),.own 4 p.1.length],.tree p.1.length 4 47 (p.1.map Tm.enc) p.2 none]) (fun r p=>p.1++r=t.args) ([],fun _=>False) rfl (by simp) rfl A7 (fun i x r p hxi hdr hlt hm hinv hnext=>?_) (fun p hinv=>?_)
  ·have hxm:=d_ hxi
   have hpl:p.1.length+(r.length+1)=t.args.length:=by rw[<-hinv];simp
   have hx:=ih x hxm (by have:=al4 hxm;omega);unfold l2T at hx;refine AW.hole ?_;refine l9 Tryz.func162 mixed 9 _ _ (by kernel_rfl) ?_;simp only[go_sem,seval,run.eq_1,hlt,d9 hxi];refine AW.drawA mixed #[true,true,true,true,true,true,false,false] [(3,.box [.d (.int .i64 t.kind),.d (.int .i64 t.int),.d (.str t.name),.own 4 p.1.length]),(6,.box (x.enc.map .d))] [] [0,1,2,3,4,5] [6,7] none (by kernel_rfl) trivial (by simp[D8]) ?_;simp only[go_sem,seval]
   repeat' (first|((first|refine ACalls.fresh (ds:=[.agg x.enc]) (m:=1) hx [5] rfl rfl (by simp) (by simp) ?_<;>(rintro c H' ⟨rfl,e2,B2,rfl⟩ _;refine⟨rfl,rfl,?_⟩)|refine I6 (fun Bz=>?_)|refine⟨sd,?_⟩)<;>(try simp only[go_sem,seval]))|fail)
   refine rS_ Tryz.func162 ?_;simp only[go_sem,seval];try simp(disch:=omega) only[l6]
   refine hnext (p.1++[x],Bz) _ (by simp[<-hinv]) (by refine⟨by simp[mkS,Tm.enc_eq x],by simp[mkS,Tm.enc_eq x],by simp only[mkS,e_,i_,O.refsLt,C.refsLt,C.refsLt1,l7];first | done | rfl | (simp;done),?_⟩;simp[mkS,Abs.get,C.refsLtT,C.refsLt,C.refsLt1])
  ·simp only[g_] at hinv
   rw[hinv];refine l9 Tryz.func162 mixed 7 _ _ (by kernel_rfl) ?_;simp only[go_sem,seval,run.eq_1];refine AW.placeB 2 3 4 0 rfl rfl rfl rfl (by decide) ?_;refine rS_ Tryz.func162 ?_;simp only[go_sem,seval]
   repeat' (first|exact⟨_,_,rfl⟩|fail)
theorem aN4 (l:List Tm) (hw:wtR (l.map Tm.enc)<=2000000):ACalls Tryz.prog 125 [.d (.sl (l.map Tm.enc))] [.hole] (fun c H'=>c=.own 0 1/\∃e B,H'=[.tree 1 4 e (l.map Tm.enc) B none]):=by
 have hmx:maxLen=9223372036854775807:=rfl;have hlen:l.length<=2000000:=by
  have:=af7 (l.map Tm.enc) 0;simp[bo6] at this;omega
 have hwl:∀x,x∈l->wtL x.enc<=2000000:=fun x hx=>by have:=ai1 (l.map Tm.enc) x.enc (x_.2 ⟨x,hx,rfl⟩);omega
 refine aE_ Tryz.func125 ?_;refine l9 Tryz.func125 mixed 5 _ _ (by kernel_rfl) ?_;simp only[go_sem,seval,run.eq_1];refine AW.adoptT 3 4 47 (by decide) rfl ?_;refine rS_ Tryz.func125 ?_;simp only[go_sem,seval];refine AW.rng l [7,8] 9 7 (fun p:List Tm×(Nat->Prop)=>[(3,.own 1 p.1.length)]) (fun _ p=>[.hole,.tree p.1.length 4 47 (p.1.map Tm.enc) p.2 none]) (fun r p=>p.1++r=l) ([],fun _=>False) rfl (by simp) rfl A7 (fun i x r p hxi hdr hlt hm hinv hnext=>?_) (fun p hinv=>?_)
 ·have hpl:p.1.length+(r.length+1)=l.length:=by rw[<-hinv];simp
  have hx:=bu2 x (hwl x (d_ hxi));unfold l2T at hx;refine AW.hole ?_;refine l9 Tryz.func125 mixed 9 _ _ (by kernel_rfl) ?_;simp only[go_sem,seval,run.eq_1,hlt,d9 hxi];refine AW.regT ?_;simp only[go_sem,seval]
  repeat' (first|((first|refine ACalls.fresh (ds:=[.agg x.enc]) (m:=1) hx [2] rfl rfl (by simp) (by simp) ?_<;>(rintro c H' ⟨rfl,e1,B1,rfl⟩ _;refine⟨rfl,rfl,?_⟩)|refine I6 (fun Bz=>?_)|refine⟨sd,?_⟩)<;>(try simp only[go_sem,seval,hlt,d9 hxi]))|fail)
  refine rS_ Tryz.func125 ?_;simp only[go_sem,seval];try simp(disch:=omega) only[l6]
  refine hnext (p.1++[x],Bz) _ (by simp[<-hinv]) (by refine⟨by simp[mkS,Tm.enc_eq x],by simp[mkS,Tm.enc_eq x],by simp only[mkS,e_,i_,O.refsLt,C.refsLt,C.refsLt1,l7];first | done | rfl | (simp;done),?_⟩;simp[mkS,Abs.get,C.refsLtT,C.refsLt,C.refsLt1])
 ·simp only[g_] at hinv
  subst hinv;refine l9 Tryz.func125 mixed 7 _ _ (by kernel_rfl) ?_;simp only[go_sem,seval,run.eq_1];refine AW.place 2 1 0 rfl rfl rfl (by decide) ?_;refine rS_ Tryz.func125 ?_;simp only[go_sem,seval];all_goals exact⟨_,_,rfl⟩
set_option maxHeartbeats 8000000
theorem ao8 (tag:List UInt8):∀v:V,Gives Tryz.prog 117 [.agg v.enc,.str tag] (.d (.bool (v.has tag))):=by
 intro v;induction v with
 | pair a b iha ihb =>
  refine aE_ Tryz.func117 ?_;refine rS_ Tryz.func117 ?_;simp only[go_sem,seval,V.kind,V.kids]
  repeat' (first|refine E8 ?_ ?_<;>intro hq<;>try simp only[go_sem,seval,V.kind,V.kids,hq]|((first|refine iha.calls rfl ?_|refine ihb.calls rfl ?_)<;>(try simp only[go_sem,seval,V.kind,V.kids]))|fail)
  all_goals simp_all[V.has]
 | _ =>
  refine aE_ Tryz.func117 ?_;refine rS_ Tryz.func117 ?_;simp only[go_sem,seval,V.kind,V.kids,V.name];all_goals simp[V.has]
theorem M3 (a b:V):Gives Tryz.prog 77 [.agg a.enc,.agg b.enc] (.d (.bool (decide (a.cmp b=0)))):=by
 refine aE_ Tryz.func77 ?_;refine rS_ Tryz.func77 ?_;simp only[go_sem,seval]
 repeat' (first|refine(K9 _ _ _ (b_ _)).calls rfl ?_<;>try simp only[go_sem,seval]|fail)
theorem bi2 (a b:V):Gives Tryz.prog 97 [.agg a.enc,.agg b.enc] (.d (.bool (decide (a.cmp b=0)))):=by
 refine aE_ Tryz.func97 ?_;refine rS_ Tryz.func97 ?_;simp only[go_sem,seval]
 repeat' (first|refine(Y1 _ _ _ (b_ _)).calls rfl ?_<;>try simp only[go_sem,seval]|fail)
theorem bP7 (gb:List D):Clo Tryz.prog 145 [.ptr 1 0] 2 (fun n:Int=>D.int .i64 n) (fun b:Bool=>[.box (gb.map .d),.box [.d (.bool b)]]) (fun _=>True) (fun b _=>false):=by
 refine⟨by kernel_rfl,rfl,fun _=>rfl,fun a=>by simp only[e_,i_,O.refsLt,l7,C.refsLt,C.refsLt1];rfl,fun a x _=>?_⟩;refine aE_ Tryz.func145 ?_;refine rS_ Tryz.func145 ?_;simp only[go_sem,seval];all_goals simp only[l7]
theorem aU2 (v:V):Gives Tryz.prog 114 [.agg v.enc] (.d (.bool (decide (v.vars=[])))):=by
 have e1:=aC8 (bP7 v.enc) v true;have hN:v.vars.foldl (fun (b:Bool) (_:Int)=>false) true=decide (v.vars=[]):=by
  cases v.vars with
  | nil=>rfl
  | cons x r =>
   have:∀(l:List Int),l.foldl (fun (b:Bool) (_:Int)=>false) false=false:=by
    intro l;induction l with
    | nil=>rfl
    | cons y q ih=>exact ih
   rw[List.foldl_cons,this];rfl
 rw[hN] at e1;generalize decide (v.vars=[])=N at e1 |-;refine aE_ Tryz.func114 ?_;refine rS_ Tryz.func114 ?_;simp only[go_sem,seval]
 repeat' (first|refine ACalls.mono e1 ?_<;>(rintro c H' ⟨rfl,rfl⟩)<;>try simp only[go_sem,seval]|fail)
theorem ao7 (t:Tm) (hw:wtL t.enc<=1048576):Gives Tryz.prog 69 [.agg t.enc] (.d (.bool t.ground)):=by
 have hg:t.ground=(M7 t && decide (t.vars=[])):=rfl;rw[hg];by_cases hok:M7 t=true
 ·have e1:=aU2 t.V
  rw[<-Tm.vars_V hok,<-Tm.enc_V hok] at e1;rw[hok,M_];generalize decide (t.vars=[])=N at e1 |-;refine aE_ Tryz.func69 ?_;refine rS_ Tryz.func69 ?_;simp only[go_sem,seval,hok]
  repeat' (first|((first|refine e1.calls rfl ?_|refine(ad9 _ sd).calls rfl ?_)<;>(try simp only[go_sem,seval,hok]))|fail)
 ·simp only[z_] at hok
  rw[hok];refine aE_ Tryz.func69 ?_;refine rS_ Tryz.func69 ?_;simp only[go_sem,seval,hok]
  repeat' (first|refine(ad9 _ sd).calls rfl ?_<;>try simp only[go_sem,seval,hok]|fail)
theorem an8 (t:Tm) (hw:wtL t.enc<=1048576):Gives Tryz.prog 123 [.agg t.enc] (.d (.bool t.ground)):=by
 have hg:t.ground=(M7 t && decide (t.vars=[])):=rfl;have hvw:=Tm.vars_wt t;have hasc:Asc []:=by simp[Asc]
 have hnil:(t.vars.foldl ab8 [])=P9 t.vars:=rfl;have hlen:(P9 t.vars).length=0↔t.vars=[]:=by rw[List.length_eq_zero_iff];exact aI1
 have hN:decide (t.vars=[])=decide (((P9 t.vars).length:Int)=0):=by
  rw[w_,decide_eq_true_eq,decide_eq_true_eq,<-hlen];omega
 rw[hg,hN];clear hg hN hlen;by_cases hok:M7 t=true
 ·rw[hok]
  refine aE_ Tryz.func123 ?_;refine rS_ Tryz.func123 ?_;simp only[go_sem,seval,hok]
  repeat' (first|((first|refine(aB8 t [] hasc (by simp;omega)).calls rfl ?_|refine(al8 _ sd).calls rfl ?_)<;>(try simp only[go_sem,seval,hnil,hok]))|fail)
 ·simp only[z_] at hok
  rw[hok];refine aE_ Tryz.func123 ?_;refine rS_ Tryz.func123 ?_;simp only[go_sem,seval,hok]
  repeat' (first|refine(al8 _ sd).calls rfl ?_<;>try simp only[go_sem,seval,hok]|fail)
def bdD (vs:List V):List (List D):=(bl8 0 vs).map Bd.enc
set_option maxHeartbeats 4000000
theorem aE1 {s r:List Tm} {x:Tm} {i:Nat} (hdr:s.drop i=x :: r):i=s.length - (r.length+1)/\r.length+1<=s.length/\i<s.length:=by
 have:=congrArg List.length hdr;simp only[y_,f_] at this;omega
theorem ay8 (s:List Tm) (hw:∀t,t∈s->wtL t.enc<=1048576) (hl:s.length<=9000000):Gives Tryz.prog 55 [.sl (s.map Tm.enc)] (.d (.bool (U3 s))):=by
 have hmap:(s.map Tm.enc).length=s.length:=h_ _;by_cases h1:1<=s.length
 ·have n1:¬(s.length:Int)<1:=by omega
  by_cases h2:s.length<=8
  ·have n2:¬(8:Int)<(s.length:Int):=by omega
   have hu:U3 s=ap6 none s:=by unfold U3;simp[h1,h2]
   rw[hu];refine aE_ Tryz.func55 ?_;refine rS_ Tryz.func55 ?_;simp only[go_sem,seval,hmap,n1,n2];refine AW.rng s [0,13,14] 15 13 (fun _:Option V=>[]) (fun H _=>H) (fun r p=>ap6 p r=ap6 none s/\(r.length=s.length->p=none)/\(r.length<s.length->∃y:Tm,s[s.length - r.length - 1]? = some y/\p=some y.V/\M7 y=true)) none rfl (by simp) ⟨rfl,fun _=>rfl,fun h=>absurd h (N_ _)⟩ I7 (fun i x r p hxi hdr hlt hm hinv hnext=>?_) (fun p hinv=>?_)
   ·obtain⟨i1,i2,i3⟩:=hinv
    obtain⟨hi1,hi2,hi3⟩:=aE1 hdr;have hto:Gives Tryz.prog 69 [.agg x.enc] (.d (.bool x.ground)):=ao7 x (hw x (d_ hxi));have ho:=hto;simp only[f_,ap6] at i1 i2 i3;cases hg:x.ground with
    | false =>
     rw[hg] at hto ho;have c3:True:=trivial;have hf:ap6 none s=false:=by rw[<-i1];simp[hg]
     rw[hf];refine rS_ Tryz.func55 ?_;simp only[go_sem,seval,hlt,d9 hxi,hmap]
     repeat' (first|refine hto.callQ rfl ?_<;>try simp only[go_sem,seval,hlt,d9 hxi,hmap]|fail)
     all_goals first | exfalso;omega | exfalso;exact absurd (by assumption) c3 | rfl
    | true =>
     rw[hg] at hto;clear ho;have hxV:=Tm.enc_V (G8 hg);by_cases hi0:i=0
     ·obtain rfl:=i2 (by omega)
      have n0:¬(0:Int)<(i:Int):=by omega
      have ho:=hto;refine rS_ Tryz.func55 ?_;simp only[go_sem,seval,hlt,d9 hxi,n0]
      repeat' (first|simp(disch:=omega) only[l6]|(refine hnext (some x.V) _ ⟨by rw[<-i1];simp[hi0,hg],fun h=>by omega,fun _=>⟨x,by rw[show s.length - r.length - 1=i by omega];exact hxi,rfl,G8 hg⟩⟩ I7)|refine hto.callQ rfl ?_<;>try simp only[go_sem,seval,hlt,d9 hxi,n0]|fail)
      all_goals (exfalso;omega)
     ·obtain⟨y,hy,rfl,hyo⟩:=i3 (by omega)
      have n0:(0:Int)<(i:Int):=by omega
      have hw1:IntKind.i64.wrap ((i:Int) - 1)=((i - 1:Nat):Int):=by rw[l6 (by omega) (by omega)];omega
      have n2:((i - 1:Nat):Int)<(s.length:Int):=by omega
      have hyi:s[i - 1]? = some y:=by rw[<-hy];congr 1;omega
      have ho:Gives Tryz.prog 76 [.agg y.enc,.agg x.enc] (.d (.int .i64 (y.V.cmp x.V))):=by
       rw[Tm.enc_V hyo,hxV];exact K9 _ _ _ (b_ _)
      by_cases c3:y.V.cmp x.V<0
      ·have c4:¬0<=y.V.cmp x.V:=by omega
       refine rS_ Tryz.func55 ?_;simp only[go_sem,seval,hlt,d9 hxi,n0,hw1,n2,d9 hyi,hmap,c3,c4]
       repeat' (first|simp(disch:=omega) only[l6]|(refine hnext (some x.V) _ ⟨by rw[<-i1];simp[c3,hg],fun h=>by omega,fun _=>⟨x,by rw[show s.length - r.length - 1=i by omega];exact hxi,rfl,G8 hg⟩⟩ I7)|((first|refine hto.callQ rfl ?_|refine ho.callQ rfl ?_)<;>(try simp only[go_sem,seval,hlt,d9 hxi,n0,hw1,n2,d9 hyi,hmap,c3,c4]))|fail)
       all_goals (exfalso;omega)
      ·have c4:0<=y.V.cmp x.V:=by omega
       have hf:ap6 none s=false:=by rw[<-i1];simp[c3]
       rw[hf];refine rS_ Tryz.func55 ?_;simp only[go_sem,seval,hlt,d9 hxi,n0,hw1,n2,d9 hyi,hmap,c4]
       repeat' (first|((first|refine hto.callQ rfl ?_|refine ho.callQ rfl ?_)<;>(try simp only[go_sem,seval,hlt,d9 hxi,n0,hw1,n2,d9 hyi,hmap,c4]))|fail)
       all_goals first | exfalso;omega | exfalso;exact absurd (by assumption) c3 | rfl
   rw[<-hinv.1];refine rS_ Tryz.func55 ?_;simp only[go_sem,seval];all_goals rfl
  ·have n2:(8:Int)<(s.length:Int):=by omega
   have hu:U3 s=false:=by unfold U3;simp[h2]
   rw[hu];refine aE_ Tryz.func55 ?_;refine rS_ Tryz.func55 ?_;simp only[go_sem,seval,hmap,n1,n2]
 ·have n1:(s.length:Int)<1:=by omega
  have hu:U3 s=false:=by unfold U3;simp[h1]
  rw[hu];refine aE_ Tryz.func55 ?_;refine rS_ Tryz.func55 ?_;simp only[go_sem,seval,hmap,n1]
theorem ay5 (s:List Tm) (hw:∀t,t∈s->wtL t.enc<=1048576) (hl:s.length<=9000000):Gives Tryz.prog 79 [.sl (s.map Tm.enc)] (.d (.bool (U3 s))):=by
 have hmap:(s.map Tm.enc).length=s.length:=h_ _;cases hun:ap6 none s with
 | false =>
  have hu:U3 s=ap6 none s:=by unfold U3;rw[hun];simp
  rw[hu];refine aE_ Tryz.func79 ?_;refine rS_ Tryz.func79 ?_;simp only[go_sem,seval,hmap];refine AW.rng s [0,5,6] 7 5 (fun _:Option V=>[]) (fun H _=>H) (fun r p=>ap6 p r=ap6 none s/\(r.length=s.length->p=none)/\(r.length<s.length->∃y:Tm,s[s.length - r.length - 1]? = some y/\p=some y.V/\M7 y=true)) none rfl (by simp) ⟨rfl,fun _=>rfl,fun h=>absurd h (N_ _)⟩ I7 (fun i x r p hxi hdr hlt hm hinv hnext=>?_) (fun p hinv=>?_)
  ·obtain⟨i1,i2,i3⟩:=hinv
   obtain⟨hi1,hi2,hi3⟩:=aE1 hdr;have hto:Gives Tryz.prog 123 [.agg x.enc] (.d (.bool x.ground)):=an8 x (hw x (d_ hxi));have ho:=hto;simp only[f_,ap6] at i1 i2 i3;cases hg:x.ground with
   | false =>
    rw[hg] at hto ho;have c3:True:=trivial;have hf:ap6 none s=false:=by rw[<-i1];simp[hg]
    rw[hf];refine rS_ Tryz.func79 ?_;simp only[go_sem,seval,hlt,d9 hxi,hmap]
    repeat' (first|refine hto.callQ rfl ?_<;>try simp only[go_sem,seval,hlt,d9 hxi,hmap]|fail)
    all_goals first | exfalso;omega | exfalso;exact absurd (by assumption) c3 | rfl
   | true =>
    rw[hg] at hto;clear ho;have hxV:=Tm.enc_V (G8 hg);by_cases hi0:i=0
    ·obtain rfl:=i2 (by omega)
     have n0:¬(0:Int)<(i:Int):=by omega
     have ho:=hto;refine rS_ Tryz.func79 ?_;simp only[go_sem,seval,hlt,d9 hxi,n0]
     repeat' (first|simp(disch:=omega) only[l6]|(refine hnext (some x.V) _ ⟨by rw[<-i1];simp[hi0,hg],fun h=>by omega,fun _=>⟨x,by rw[show s.length - r.length - 1=i by omega];exact hxi,rfl,G8 hg⟩⟩ I7)|refine hto.callQ rfl ?_<;>try simp only[go_sem,seval,hlt,d9 hxi,n0]|fail)
     all_goals (exfalso;omega)
    ·obtain⟨y,hy,rfl,hyo⟩:=i3 (by omega)
     have n0:(0:Int)<(i:Int):=by omega
     have hw1:IntKind.i64.wrap ((i:Int) - 1)=((i - 1:Nat):Int):=by rw[l6 (by omega) (by omega)];omega
     have n2:((i - 1:Nat):Int)<(s.length:Int):=by omega
     have hyi:s[i - 1]? = some y:=by rw[<-hy];congr 1;omega
     have ho:Gives Tryz.prog 96 [.agg y.enc,.agg x.enc] (.d (.int .i64 (y.V.cmp x.V))):=by
      rw[Tm.enc_V hyo,hxV];exact Y1 _ _ _ (b_ _)
     by_cases c3:y.V.cmp x.V<0
     ·have c4:¬0<=y.V.cmp x.V:=by omega
      refine rS_ Tryz.func79 ?_;simp only[go_sem,seval,hlt,d9 hxi,n0,hw1,n2,d9 hyi,hmap,c3,c4]
      repeat' (first|simp(disch:=omega) only[l6]|(refine hnext (some x.V) _ ⟨by rw[<-i1];simp[c3,hg],fun h=>by omega,fun _=>⟨x,by rw[show s.length - r.length - 1=i by omega];exact hxi,rfl,G8 hg⟩⟩ I7)|((first|refine hto.callQ rfl ?_|refine ho.callQ rfl ?_)<;>(try simp only[go_sem,seval,hlt,d9 hxi,n0,hw1,n2,d9 hyi,hmap,c3,c4]))|fail)
      all_goals (exfalso;omega)
     ·have c4:0<=y.V.cmp x.V:=by omega
      have hf:ap6 none s=false:=by rw[<-i1];simp[c3]
      rw[hf];refine rS_ Tryz.func79 ?_;simp only[go_sem,seval,hlt,d9 hxi,n0,hw1,n2,d9 hyi,hmap,c4]
      repeat' (first|((first|refine hto.callQ rfl ?_|refine ho.callQ rfl ?_)<;>(try simp only[go_sem,seval,hlt,d9 hxi,n0,hw1,n2,d9 hyi,hmap,c4]))|fail)
      all_goals first | exfalso;omega | exfalso;exact absurd (by assumption) c3 | rfl
  exfalso;rw[<-hinv.1] at hun;simp[ap6] at hun
 | true =>
  have hu:U3 s=(decide ((1:Int)<=(s.length:Int)) && decide ((s.length:Int)<=8)):=by unfold U3;rw[hun,Bool.and_true,w_];simp;omega
  rw[hu];obtain⟨RES,hRES⟩:∃RES,(decide ((1:Int)<=(s.length:Int)) && decide ((s.length:Int)<=8))=RES:=⟨_,rfl⟩;rw[hRES];have hin:=F8 (s.length:Int) 1 8;rw[hRES] at hin;refine aE_ Tryz.func79 ?_;refine rS_ Tryz.func79 ?_;simp only[go_sem,seval,hmap];refine AW.rng s [0,5,6] 7 5 (fun _:Option V=>[]) (fun H _=>H) (fun r p=>ap6 p r=ap6 none s/\(r.length=s.length->p=none)/\(r.length<s.length->∃y:Tm,s[s.length - r.length - 1]? = some y/\p=some y.V/\M7 y=true)) none rfl (by simp) ⟨rfl,fun _=>rfl,fun h=>absurd h (N_ _)⟩ I7 (fun i x r p hxi hdr hlt hm hinv hnext=>?_) (fun p hinv=>?_)
  ·obtain⟨i1,i2,i3⟩:=hinv
   obtain⟨hi1,hi2,hi3⟩:=aE1 hdr;have hto:Gives Tryz.prog 123 [.agg x.enc] (.d (.bool x.ground)):=an8 x (hw x (d_ hxi));have ho:=hto;simp only[f_,ap6] at i1 i2 i3;cases hg:x.ground with
   | false =>
    rw[hg] at hto ho;have c3:True:=trivial;have hf:ap6 none s=false:=by rw[<-i1];simp[hg]
    exact absurd (hf.symm.trans hun) (by simp)
   | true =>
    rw[hg] at hto;clear ho;have hxV:=Tm.enc_V (G8 hg);by_cases hi0:i=0
    ·obtain rfl:=i2 (by omega)
     have n0:¬(0:Int)<(i:Int):=by omega
     have ho:=hto;refine rS_ Tryz.func79 ?_;simp only[go_sem,seval,hlt,d9 hxi,n0]
     repeat' (first|simp(disch:=omega) only[l6]|(refine hnext (some x.V) _ ⟨by rw[<-i1];simp[hi0,hg],fun h=>by omega,fun _=>⟨x,by rw[show s.length - r.length - 1=i by omega];exact hxi,rfl,G8 hg⟩⟩ I7)|refine hto.callQ rfl ?_<;>try simp only[go_sem,seval,hlt,d9 hxi,n0]|fail)
     all_goals (exfalso;omega)
    ·obtain⟨y,hy,rfl,hyo⟩:=i3 (by omega)
     have n0:(0:Int)<(i:Int):=by omega
     have hw1:IntKind.i64.wrap ((i:Int) - 1)=((i - 1:Nat):Int):=by rw[l6 (by omega) (by omega)];omega
     have n2:((i - 1:Nat):Int)<(s.length:Int):=by omega
     have hyi:s[i - 1]? = some y:=by rw[<-hy];congr 1;omega
     have ho:Gives Tryz.prog 96 [.agg y.enc,.agg x.enc] (.d (.int .i64 (y.V.cmp x.V))):=by
      rw[Tm.enc_V hyo,hxV];exact Y1 _ _ _ (b_ _)
     by_cases c3:y.V.cmp x.V<0
     ·have c4:¬0<=y.V.cmp x.V:=by omega
      refine rS_ Tryz.func79 ?_;simp only[go_sem,seval,hlt,d9 hxi,n0,hw1,n2,d9 hyi,hmap,c3,c4]
      repeat' (first|simp(disch:=omega) only[l6]|(refine hnext (some x.V) _ ⟨by rw[<-i1];simp[c3,hg],fun h=>by omega,fun _=>⟨x,by rw[show s.length - r.length - 1=i by omega];exact hxi,rfl,G8 hg⟩⟩ I7)|((first|refine hto.callQ rfl ?_|refine ho.callQ rfl ?_)<;>(try simp only[go_sem,seval,hlt,d9 hxi,n0,hw1,n2,d9 hyi,hmap,c3,c4]))|fail)
      all_goals (exfalso;omega)
     ·have c4:0<=y.V.cmp x.V:=by omega
      have hf:ap6 none s=false:=by rw[<-i1];simp[c3]
      exact absurd (hf.symm.trans hun) (by simp)
  refine rS_ Tryz.func79 ?_;simp only[go_sem,seval,hmap]
  repeat' (first|refine hin.calls rfl ?_<;>try simp only[go_sem,seval,hmap]|fail)
theorem bn0 (b n L:Nat) (hb8:b<=8) (hL:L<=1000000) (hn:n<=1000000):Gives Tryz.prog 102 [.int .i64 b,.int .i64 n,.int .i64 L] (.d (.int .i64 (min (I8 b L n 1) (L+1):Nat))):=by
 obtain⟨W,hW⟩:∃W,I8 b L n 1=W:=⟨_,rfl⟩;rw[hW];have w3:IntKind.i64.wrap ((L:Int)+1)=(L:Int)+1:=l6 (by omega) (by omega);have hmin:∀k:Nat,(if (L:Int)+1<(k:Int) then (L:Int)+1 else (k:Int))=((min k (L+1):Nat):Int):=fun k=>by split<;>omega
 refine aE_ Tryz.func102 ?_;refine rS_ Tryz.func102 ?_;simp only[go_sem,seval];refine AW.lp [0,1,2] (fun u:Nat×Nat=>[(8,.d (.int .i64 (u.1:Int))),(7,.d (.int .i64 (u.2:Int)))]) (fun H _=>H) (fun u=>u.1<=n/\u.2<=(L+1) * 8/\I8 b L (n - u.1) u.2=W) (fun u=>n - u.1) (0,1) ⟨l_ _,by dsimp only;omega,hW⟩ I7 ?_;rintro ⟨i,k⟩ ⟨h1,h2,h3⟩ hnext;dsimp only at h1 h2 h3 hnext |-;have hnx:=fun i' k' s'=>hnext (i',k') s';clear hnext;have w2:IntKind.i64.wrap ((i:Int)+1)=((i+1:Nat):Int):=by rw[l6 (by omega) (by omega)];omega
 by_cases hi:i<n
 ·have n1:(i:Int)<(n:Int):=by omega
  by_cases hk:k<=L
  ·have n2:(k:Int)<=(L:Int):=by omega
   have hkb:k * b<=(L+1) * 8:=K_ (by omega) hb8;have w1:IntKind.i64.wrap ((k:Int) * (b:Int))=((k * b:Nat):Int):=by rw[<-Int.natCast_mul,l6 (by omega) (by omega)]
   have h4:I8 b L (n - (i+1)) (k * b)=W:=by
    rw[show n - i=(n - (i+1))+1 by omega] at h3;unfold I8 at h3;rw[if_pos hk] at h3;exact h3
   refine rS_ Tryz.func102 ?_;simp only[go_sem,seval,n1,n2,w1,w2];refine hnx (i+1) (k * b) _ ⟨by omega,hkb,h4⟩ (by dsimp only;omega) I7
  ·have n2:¬(k:Int)<=(L:Int):=by omega
   rw[aY2 hk] at h3;subst h3;refine rS_ Tryz.func102 ?_;simp only[go_sem,seval,n1,n2,w3];all_goals first | rfl | exfalso;omega | exact congrArg (fun x=>C.d (D.int IntKind.i64 x)) (hmin _)
 ·have n1:¬(i:Int)<(n:Int):=by omega
  rw[show n - i=0 by omega] at h3;unfold I8 at h3;subst h3;refine rS_ Tryz.func102 ?_;simp only[go_sem,seval,n1,w3];all_goals first | rfl | exfalso;omega | exact congrArg (fun x=>C.d (D.int IntKind.i64 x)) (hmin _)
theorem bh9 (b n L:Nat) (hb8:b<=8) (hL:L<=1000000) (hn:n<=1000000):Gives Tryz.prog 80 [.int .i64 b,.int .i64 n,.int .i64 L] (.d (.int .i64 (I8 b L n 1:Nat))):=by
 obtain⟨W,hW⟩:∃W,I8 b L n 1=W:=⟨_,rfl⟩;rw[hW];have w3:IntKind.i64.wrap ((L:Int)+1)=(L:Int)+1:=l6 (by omega) (by omega);have hmin:∀k:Nat,(if (L:Int)+1<(k:Int) then (L:Int)+1 else (k:Int))=((min k (L+1):Nat):Int):=fun k=>by split<;>omega
 refine aE_ Tryz.func80 ?_;refine rS_ Tryz.func80 ?_;simp only[go_sem,seval];refine AW.lp [0,1,2] (fun u:Nat×Nat=>[(8,.d (.int .i64 (u.1:Int))),(7,.d (.int .i64 (u.2:Int)))]) (fun H _=>H) (fun u=>u.1<=n/\u.2<=(L+1) * 8/\I8 b L (n - u.1) u.2=W) (fun u=>n - u.1) (0,1) ⟨l_ _,by dsimp only;omega,hW⟩ I7 ?_;rintro ⟨i,k⟩ ⟨h1,h2,h3⟩ hnext;dsimp only at h1 h2 h3 hnext |-;have hnx:=fun i' k' s'=>hnext (i',k') s';clear hnext;have w2:IntKind.i64.wrap ((i:Int)+1)=((i+1:Nat):Int):=by rw[l6 (by omega) (by omega)];omega
 by_cases hi:i<n
 ·have n1:(i:Int)<(n:Int):=by omega
  by_cases hk:k<=L
  ·have n2:(k:Int)<=(L:Int):=by omega
   have hkb:k * b<=(L+1) * 8:=K_ (by omega) hb8;have w1:IntKind.i64.wrap ((k:Int) * (b:Int))=((k * b:Nat):Int):=by rw[<-Int.natCast_mul,l6 (by omega) (by omega)]
   have h4:I8 b L (n - (i+1)) (k * b)=W:=by
    rw[show n - i=(n - (i+1))+1 by omega] at h3;unfold I8 at h3;rw[if_pos hk] at h3;exact h3
   refine rS_ Tryz.func80 ?_;simp only[go_sem,seval,n1,n2,w1,w2];refine hnx (i+1) (k * b) _ ⟨by omega,hkb,h4⟩ (by dsimp only;omega) I7
  ·have n2:¬(k:Int)<=(L:Int):=by omega
   rw[aY2 hk] at h3;subst h3;refine rS_ Tryz.func80 ?_;simp only[go_sem,seval,n1,n2,w3];all_goals first | rfl | exfalso;omega | exact congrArg (fun x=>C.d (D.int IntKind.i64 x)) (hmin _)
 ·have n1:¬(i:Int)<(n:Int):=by omega
  rw[show n - i=0 by omega] at h3;unfold I8 at h3;subst h3;refine rS_ Tryz.func80 ?_;simp only[go_sem,seval,n1,w3];all_goals first | rfl | exfalso;omega | exact congrArg (fun x=>C.d (D.int IntKind.i64 x)) (hmin _)
theorem cT9 (a b:V):decide (a.cmp b=0)=decide (a=b):=by
 rw[w_,decide_eq_true_eq,decide_eq_true_eq];exact V.cmp_zero a b
theorem cz8 (x y:V) (q:List V):decide (x∈y :: q)=(decide (y=x) || decide (x∈q)):=by
 rw[w_];simp only[decide_eq_true_eq,Bool.or_eq_true,L_];exact⟨fun h=>h.elim (fun e=>.inl e.symm) .inr,fun h=>h.elim (fun e=>.inl e.symm) .inr⟩
theorem bW1 (a b:Nat):(a:Int).tmod (b:Int)=((a % b:Nat):Int):=by rw[Int.tmod_eq_emod_of_nonneg (by omega)];omega
theorem bW2 (a b:Nat):(a:Int).tdiv (b:Int)=((a / b:Nat):Int):=by rw[Int.tdiv_eq_ediv_of_nonneg (by omega)];omega
theorem ak1 (u l:List V) (hu:u.length<=1000000):Gives Tryz.prog 103 [.sl (u.map V.enc),.sl (l.map V.enc)] (.d (.bool (l.all fun t=>decide (t∈u)))):=by
 obtain⟨K,hK⟩:∃K,(l.all fun t=>decide (t∈u))=K:=⟨_,rfl⟩;rw[hK];refine aE_ Tryz.func103 ?_;refine rS_ Tryz.func103 ?_;simp only[go_sem,seval];refine AW.rng l [0,10,11] 12 10 (fun _:Unit=>[]) (fun H _=>H) (fun r _=>(r.all fun t=>decide (t∈u))=K) () rfl (by simp) hK I7 (fun i x r p hxi hdr hlt hm hinv hnext=>?_) (fun p hinv=>?_)
 ·rw[e_] at hinv
  refine rS_ Tryz.func103 ?_;simp only[go_sem,seval,hlt,d9 hxi];refine AW.rng u [0,6,10,11,12,16,17] 18 16 (fun b:Bool=>[(7,.d (.bool b))]) (fun H _=>H) (fun r b=>(b || decide (x∈r))=decide (x∈u)) false rfl (by simp) (by simp) A7 (fun j y q b hyj hdr2 hlt2 hm2 hinv2 hnext2=>?_) (fun b hinv2=>?_)
  ·have he:=M3 y x
   rw[cT9] at he;rw[cz8,<-Bool.or_assoc] at hinv2;cases b with
   | true =>
    refine rS_ Tryz.func103 ?_;simp only[go_sem,seval,hlt2,d9 hyj]
    repeat' (first|simp(disch:=omega) only[l6]|refine hnext2 true _ (by simpa using hinv2) A7|fail)
   | false =>
    rw[Bool.false_or] at hinv2;generalize decide (y=x)=b2 at he hinv2;refine rS_ Tryz.func103 ?_;simp only[go_sem,seval,hlt2,d9 hyj]
    repeat' (first|simp(disch:=omega) only[l6]|refine hnext2 b2 _ hinv2 A7|refine he.calls rfl ?_<;>try simp only[go_sem,seval,hlt2,d9 hyj]|fail)
  ·simp only[List.not_mem_nil,decide_false,Bool.or_false] at hinv2
   rw[<-hinv2] at hinv;cases b with
   | true =>
    rw[M_] at hinv;refine rS_ Tryz.func103 ?_;simp only[go_sem,seval]
    repeat' (first|simp(disch:=omega) only[l6]|refine hnext () _ hinv I7|fail)
   | false =>
    rw[Bool.false_and] at hinv;rw[<-hinv];refine rS_ Tryz.func103 ?_;simp only[go_sem,seval]
 ·rw[<-hinv]
  refine rS_ Tryz.func103 ?_;simp only[go_sem,seval];all_goals rfl
theorem aN0 (u:List V) (n k:Nat) (hu1:1<=u.length) (hu:u.length<=1000000) (hk:k<=1000000) (hn:n<=1000000):Gives Tryz.prog 81 [.sl (A9 ((List.range n).map fun i:Nat=>(i:Int))),.sl (u.map V.enc),.int .i64 k] (.d (.sl (bdD (E5 u n k)))):=by
 have hmx:maxLen=9223372036854775807:=rfl;have hml:(u.map V.enc).length=u.length:=h_ _;obtain⟨G,hG⟩:∃G,E5 u n k=G:=⟨_,rfl⟩;have hGl:G.length=n:=by rw[<-hG];exact M0 u n k
 rw[hG];obtain⟨zs,hzs⟩:∃zs:List Int,((List.range n).map fun i:Nat=>(i:Int))=zs:=⟨_,rfl⟩;have hzl:zs.length=n:=by rw[<-hzs];simp
 have hza:∀(i:Nat) (z:Int),zs[i]? = some z->z=(i:Int):=fun i z h=>by
  rw[<-hzs,n_,Option.map_eq_some_iff] at h;obtain⟨j,h1,h2⟩:=h;have h3:=(c_.1 h1).1;rw[E_ (by simpa using h3)] at h1;cases h1;exact h2.symm
 rw[hzs];refine aE_ Tryz.func81 ?_;refine l9 Tryz.func81 mixed 5 _ _ (by kernel_rfl) ?_;simp only[go_sem,seval,run.eq_1];refine AW.adopt 7 5 131 (by decide) rfl ?_;refine rS_ Tryz.func81 ?_;simp only[go_sem,seval,Y2];refine AW.rng zs [1,11,12] 13 11 (fun w:List V×Nat=>[(2,.d (.int .i64 (w.2:Int))),(7,.own 0 w.1.length)]) (fun _ w=>[.grow w.1.length 5 131 (bdD w.1)]) (fun r w=>w.1++E5 u r.length w.2=G/\w.1.length+r.length=n/\w.2<=k) ([],k) rfl (by simp[A9,hzl]) ⟨by rw[hzl];exact hG,by simp[hzl],b_ _⟩ (by refine⟨by simp[mkS,bdD,bl8],by simp[mkS,bdD,bl8],by simp only[mkS,e_,i_,O.refsLt,C.refsLt,C.refsLt1,l7];first | done | rfl | (simp;done),?_⟩;simp[mkS,Abs.get,C.refsLtT,C.refsLt,C.refsLt1,bdD,bl8]) (fun i z r w hxi hdr hlt hm hinv hnext=>?_) (fun w hinv=>?_)
 ·obtain⟨w,x⟩:=w
  obtain⟨i1,i2,i3⟩:=hinv;dsimp only at i1 i2 i3 hnext |-;have hnx:=fun w' x' s'=>hnext (w',x') s';clear hnext;have hdl:=congrArg List.length hdr;simp only[y_,f_] at hdl i1 i2;have hi:i=w.length:=by omega
  obtain rfl:=hza i z hxi;have hxd:(A9 zs)[i]? = some [.int .i64 (i:Int)]:=by simp[A9,hxi]
  have hm1:x % u.length<u.length:=Nat.mod_lt _ (by omega);obtain⟨v,hv⟩:∃v,u[x % u.length]? = some v:=⟨_,k_ hm1⟩;have hve:u.getD (x % u.length) .nil=v:=by rw[J_,hv];rfl
  have hvd:(u.map V.enc)[x % u.length]? = some v.enc:=by rw[n_,hv];rfl
  have hdv:x / u.length<=x:=Nat.div_le_self _ _;have hrm:=bW1 x u.length;have hqd:=bW2 x u.length;have h0:¬(u.length:Int)=0:=by omega
  have hre:E5 u (r.length+1) x=v :: E5 u r.length (x / u.length):=by rw[<-hve];rfl
  rw[hre] at i1;clear hve hre;generalize x % u.length=xm at *;generalize x / u.length=xq at *;have w1:IntKind.i64.wrap (xq:Int)=(xq:Int):=l6 (by omega) (by omega);have n2:(xm:Int)<(u.length:Int):=by omega
  have hbln:(bdD w).length=w.length:=by unfold bdD;rw[h_,aH9]
  have hbw5:∀y,y∈bdD w->y.length=5:=fun y hy=>by obtain⟨b,_,rfl⟩:=x_.1 hy;exact Bd.enc_len b
  have hbs:bdD (w++[v])=bdD w++[[.int .i64 (i:Int),.int .i64 v.kind,.int .i64 v.int,.str v.name,.sl (v.kids.map V.enc)]]:=by
   unfold bdD;rw[aQ6,H_,A_,C_];congr 2;rw[hi,Nat.zero_add];show [D.int .i64 _]++V.enc v=_;rw[V.enc_eq];rfl
  have hhv:=V.enc_eq v;generalize hBD:bdD w=BD at *;refine rS_ Tryz.func81 ?_;simp only[go_sem,seval,hlt,d9 hxd,d9 hvd,hrm,hqd,h0,w1,n2,hml,hhv]
  repeat' (first|simp(disch:=omega) only[l6]|refine⟨sd,?_⟩<;>try simp only[go_sem,seval,hlt,d9 hxd,d9 hvd,hrm,hqd,h0,w1,n2,hml,hhv]|fail)
  refine hnx (w++[v]) xq _ ⟨by rw[<-i1];simp,by simp;omega,by omega⟩ (by refine⟨by simp[mkS,hbs],by simp[mkS,hbs],by simp only[mkS,e_,i_,O.refsLt,C.refsLt,C.refsLt1,l7];first | done | rfl | (simp;done),?_⟩;simp[mkS,Abs.get,C.refsLtT,C.refsLt,C.refsLt1,hbs])
 ·obtain⟨w,x⟩:=w
  obtain⟨i1,i2,i3⟩:=hinv;dsimp only[v_,E5] at i1;rw[g_] at i1;dsimp only;subst i1;refine rS_ Tryz.func81 ?_;simp only[go_sem,seval]
def cpT (t:V):Prop:=ACalls Tryz.prog 78 [.d (.agg t.enc)] [.hole] fun c H'=>c=.agg [.d (.int .i64 t.kind),.d (.int .i64 t.int),.d (.str t.name),.own 0 1]/\∃e B,H'=[.tree 1 4 e (t.kids.map V.enc) B none]
theorem an1:∀t:V,cpT t:=by
 intro t;induction t with
 | pair x y ihx ihy =>
  unfold cpT;refine aE_ Tryz.func78 ?_;refine AW.hole ?_;refine AW.hole ?_;refine l9 Tryz.func78 mixed 8 _ _ (by kernel_rfl) ?_;simp only[go_sem,seval,run.eq_1,V.kind,V.int,V.kids];all_goals first | exact absurd hq (by decide) | skip
  have hk:(V.pair x y).kids=[x,y]:=rfl;refine AW.drawA mixed #[true,true,true,true,true,true,true,true,true,true,true,true,false] [(3,.box ((V.pair x y).enc.map .d))] [] [0,1,2,3,5,6,7,8,4,9,10,11] [12] none (by kernel_rfl) trivial (by simp[D8]) ?_;simp only[go_sem,seval,hk]
  repeat' (first|((first|refine ACalls.fresh (ds:=[.agg x.enc]) (m:=1) ihx [1] rfl rfl (by simp) (by simp) ?_<;>(rintro c H' ⟨rfl,e1,B1,rfl⟩ _;refine⟨rfl,rfl,?_⟩)|refine ACalls.fresh (ds:=[.agg y.enc]) (m:=1) ihy [2] rfl rfl (by simp) (by simp) ?_<;>(rintro c H' ⟨rfl,e2,B2,rfl⟩ _;refine⟨rfl,rfl,?_⟩)|refine I6 (fun Bz=>?_))<;>(try simp only[go_sem,seval,hk]))|fail)
  refine AW.placeB 4 3 5 0 rfl rfl rfl rfl (by decide) ?_;refine rS_ Tryz.func78 ?_;simp only[go_sem,seval];refine⟨rfl,47,Bz,?_⟩;rw[V.enc_eq x,V.enc_eq y]
 | nil =>
  unfold cpT;refine aE_ Tryz.func78 ?_;refine l9 Tryz.func78 mixed 8 _ _ (by kernel_rfl) ?_;simp only[go_sem,seval,run.eq_1,V.kind,V.int,V.kids];all_goals first | exact absurd hq (by decide) | skip
  refine AW.adoptTB 2 3 4 0 (by decide) rfl rfl ?_;refine AW.placeB 2 3 3 0 rfl rfl rfl rfl (by decide) ?_;refine rS_ Tryz.func78 ?_;simp only[go_sem,seval];exact⟨_,_,rfl⟩
 | var n =>
  unfold cpT;refine aE_ Tryz.func78 ?_;refine l9 Tryz.func78 mixed 8 _ _ (by kernel_rfl) ?_;simp only[go_sem,seval,run.eq_1,V.kind,V.int,V.kids];all_goals first | exact absurd hq (by decide) | skip
  refine AW.adoptTB 2 3 4 0 (by decide) rfl rfl ?_;refine AW.placeB 2 3 3 0 rfl rfl rfl rfl (by decide) ?_;refine rS_ Tryz.func78 ?_;simp only[go_sem,seval];exact⟨_,_,rfl⟩
 | sym s =>
  unfold cpT;refine aE_ Tryz.func78 ?_;refine l9 Tryz.func78 mixed 8 _ _ (by kernel_rfl) ?_;simp only[go_sem,seval,run.eq_1,V.kind,V.int,V.kids];all_goals first | exact absurd hq (by decide) | skip
  refine AW.adoptTB 2 3 4 0 (by decide) rfl rfl ?_;refine AW.placeB 2 3 3 0 rfl rfl rfl rfl (by decide) ?_;refine rS_ Tryz.func78 ?_;simp only[go_sem,seval];exact⟨_,_,rfl⟩
 | num n =>
  unfold cpT;refine aE_ Tryz.func78 ?_;refine l9 Tryz.func78 mixed 8 _ _ (by kernel_rfl) ?_;simp only[go_sem,seval,run.eq_1,V.kind,V.int,V.kids];all_goals first | exact absurd hq (by decide) | skip
  refine AW.adoptTB 2 3 4 0 (by decide) rfl rfl ?_;refine AW.placeB 2 3 3 0 rfl rfl rfl rfl (by decide) ?_;refine rS_ Tryz.func78 ?_;simp only[go_sem,seval];exact⟨_,_,rfl⟩
def cb7 (l:List V):Prop:=ACalls Tryz.prog 63 [.d (.sl (l.map V.enc))] [.hole] fun c H'=>c=.own 0 1/\∃e B,H'=[.tree 1 4 e (l.map V.enc) B none]
theorem ah4 (l:List V) (hl:l.length<=100000000):cb7 l:=by
 have hmx:maxLen=9223372036854775807:=rfl;unfold cb7;refine aE_ Tryz.func63 ?_;refine l9 Tryz.func63 mixed 5 _ _ (by kernel_rfl) ?_;simp only[go_sem,seval,run.eq_1];refine AW.adoptT 3 4 47 (by decide) rfl ?_;refine rS_ Tryz.func63 ?_;simp only[go_sem,seval];refine AW.rng l [7,8] 9 7 (fun p:List V×(Nat->Prop)=>[(3,.own 1 p.1.length)]) (fun _ p=>[.hole,.tree p.1.length 4 47 (p.1.map V.enc) p.2 none]) (fun r p=>p.1++r=l) ([],fun _=>False) rfl (by simp) rfl A7 (fun i x r p hxi hdr hlt hm hinv hnext=>?_) (fun p hinv=>?_)
 ·have hpl:p.1.length+(r.length+1)=l.length:=by rw[<-hinv];simp
  have hx:=an1 x;refine AW.hole ?_;refine l9 Tryz.func63 mixed 9 _ _ (by kernel_rfl) ?_;simp only[go_sem,seval,run.eq_1,hlt,d9 hxi];refine AW.regT ?_;simp only[go_sem,seval]
  repeat' (first|((first|refine ACalls.fresh (ds:=[.agg x.enc]) (m:=1) hx [2] rfl rfl (by simp) (by simp) ?_<;>(rintro c H' ⟨rfl,e1,B1,rfl⟩ _;refine⟨rfl,rfl,?_⟩)|refine I6 (fun Bz=>?_)|refine⟨sd,?_⟩)<;>(try simp only[go_sem,seval,hlt,d9 hxi]))|fail)
  refine rS_ Tryz.func63 ?_;simp only[go_sem,seval];try simp(disch:=omega) only[l6]
  refine hnext (p.1++[x],Bz) _ (by simp[<-hinv]) (by refine⟨by simp[mkS,V.enc_eq x],by simp[mkS,V.enc_eq x],by simp only[mkS,e_,i_,O.refsLt,C.refsLt,C.refsLt1,l7];first | done | rfl | (simp;done),?_⟩;simp[mkS,Abs.get,C.refsLtT,C.refsLt,C.refsLt1])
 ·simp only[g_] at hinv
  subst hinv;refine l9 Tryz.func63 mixed 7 _ _ (by kernel_rfl) ?_;simp only[go_sem,seval,run.eq_1];refine AW.place 2 1 0 rfl rfl rfl (by decide) ?_;refine rS_ Tryz.func63 ?_;simp only[go_sem,seval];all_goals exact⟨_,_,rfl⟩
theorem aV7 (v:V):Gives Tryz.prog 78 [.agg v.enc] (.d (.agg v.enc)):=by
 have h:=an1 v;unfold cpT at h;refine ACalls.frozen (ds:=[.agg v.enc]) (m:=1) h (fun c H' ⟨h1,e,B,h2⟩ _=>?_);subst h1 h2;rw[V.enc_eq v];rfl
theorem bN7 (a b:V):Gives Tryz.prog 171 [.agg a.enc,.agg b.enc] (.d (.agg (V.pair a b).enc)):=by
 rw[V.enc_pair];refine aE_ Tryz.func171 ?_;refine rS_ Tryz.func171 ?_;simp only[go_sem,seval]
theorem bg5 {g:FuncId} {caps:List C} {m:Nat} {H:List O} {Q:Int->Prop} {fv:Int->V} (h:CloR Tryz.prog g caps m (fun n:Int=>D.int .i64 n) H Q (fun n=>.tup [.d (.agg (fv n).enc),.d (.bool true)])) :
  ∀v:V,(∀n,n∈v.vars->Q n)->ACalls Tryz.prog 146 [.d (.agg v.enc),.fn g caps] H (fun c H'=>c=.d (.agg (v.sub fv).enc)/\H'=H):=by
 intro v;induction v with
 | pair x y ihx ihy =>
  intro hq;have hx:=ihx (fun n hn=>hq n (by simp[V.vars,hn]));have hy:=ihy (fun n hn=>hq n (by simp[V.vars,hn]));simp only[V.sub];refine aE_ Tryz.func146 ?_;refine l9 Tryz.func146 mixed 13 _ _ (by kernel_rfl) ?_;simp only[go_sem,seval,run.eq_1,h.len,h.go,h.at0,h.atj,h.set0,h.setj,h.tk,h.tk0,h.tkj,h.refs,h.refsj,h.hcaps,h.capsj,a_,V.kind,V.int,V.kids];refine AW.drawA mixed #[true,true,true,true,true,true,true,true,true,true,true,true,true,false] [(m,.box ((V.pair x y).enc.map .d))] [] [0,1,2,3,4,6,7,8,9,10,5,11,12] [13] none (by kernel_rfl) trivial (by simp[D8,h.at0]) ?_;simp only[go_sem,seval,h.len,h.go,h.at0,h.atj,h.set0,h.setj,h.tk,h.tk0,h.tkj,h.refs,h.refsj,h.hcaps,h.capsj,a_,V.kind,V.int,V.kids]
  repeat' (first|((first|refine h.sub hx ?_|refine h.sub hy ?_|refine(bN7 _ _).calls rfl ?_)<;>(try simp only[go_sem,seval,h.len,h.go,h.at0,h.atj,h.set0,h.setj,h.tk,h.tk0,h.tkj,h.refs,h.refsj,h.hcaps,h.capsj,a_,V.kind,V.int,V.kids]))|fail)
  refine rS_ Tryz.func146 ?_;simp only[go_sem,seval,h.len,h.go,h.at0,h.atj,h.set0,h.setj,h.tk,h.tk0,h.tkj,h.refs,h.refsj,h.hcaps,h.capsj,a_]
 | var n =>
  intro hq;have hn:=hq n (by simp[V.vars]);simp only[V.sub];refine aE_ Tryz.func146 ?_;refine rS_ Tryz.func146 ?_;simp only[go_sem,seval,h.len,h.go,h.at0,h.atj,h.set0,h.setj,h.tk,h.tk0,h.tkj,h.refs,h.refsj,h.hcaps,h.capsj,a_,V.kind,V.int,V.kids]
  repeat' (first|((first|refine h.on hn ?_|refine(aV7 _).calls rfl ?_)<;>(try simp only[go_sem,seval,h.len,h.go,h.at0,h.atj,h.set0,h.setj,h.tk,h.tk0,h.tkj,h.refs,h.refsj,h.hcaps,h.capsj,a_,V.kind,V.int,V.kids]))|fail)
 | _ =>
  intro hq;simp only[V.sub];refine aE_ Tryz.func146 ?_;refine rS_ Tryz.func146 ?_;simp only[go_sem,seval,h.len,h.go,h.at0,h.atj,h.set0,h.setj,h.tk,h.tk0,h.tkj,h.refs,h.refsj,h.hcaps,h.capsj,a_,V.kind,V.int,V.kids]
theorem bm9 (tb:List D) (vs:List V):CloR Tryz.prog 147 [.ptr 1 0] 3 (fun n:Int=>D.int .i64 n) [.box (tb.map .d),.box [.d (.sl (vs.map V.enc))],.box [.d (.int .i64 0),.d (.int .i64 0),.d (.str []),.nil0]] (fun n=>0<=n/\n<vs.length) (fun n=>.tup [.d (.agg (o7 vs n).enc),.d (.bool true)]):=by
 have e1:=fun n (h:0<=n/\n<(vs.length:Int))=>bA8 h.1 h.2;refine⟨by kernel_rfl,rfl,rfl,by simp only[e_,i_,O.refsLt,l7,C.refsLt,C.refsLt1];rfl,fun n hn=>?_⟩;have hat:(vs.map V.enc)[n.toNat]? = some (o7 vs n).enc:=by rw[n_,e1 n hn];rfl
 have hl:=hn.2;have h0:=hn.1;refine aE_ Tryz.func147 ?_;refine rS_ Tryz.func147 ?_;simp only[go_sem,seval,d9 hat]
 repeat' (first|refine⟨sd,?_⟩<;>try simp only[go_sem,seval,d9 hat]|fail)
 all_goals simp only[l7]
theorem bm8 (v:V) (vs:List V) (hv:∀n,n∈v.vars->0<=n/\n<vs.length):Gives Tryz.prog 116 [.agg v.enc,.sl (vs.map V.enc)] (.d (.agg (v.sub (o7 vs)).enc)):=by
 have e1:=bg5 (bm9 v.enc vs) v (fun n hn=>by have:=hv n hn;omega);refine aE_ Tryz.func116 ?_;refine rS_ Tryz.func116 ?_;simp only[go_sem,seval]
 repeat' (first|refine ACalls.mono e1 ?_<;>(rintro c H' ⟨rfl,rfl⟩)<;>try simp only[go_sem,seval]|fail)
theorem ah5 (g:Gl) (vs:List V) (hg:g.inst vs.length):Gives Tryz.prog 72 [.agg g.enc,.sl (vs.map V.enc)] (.d (.agg (FcV.fc (g.callV (o7 vs))).enc)):=by
 have hmx:maxLen=9223372036854775807:=rfl;have hln:=(Gl.shape_len hg.1).1;have hit:=Gl.inst_terms hg;have hR:(FcV.fc (g.callV (o7 vs))).enc=[.str g.name,.sl ((g.terms.map fun t=>t.V.sub (o7 vs)).map V.enc)]:=by rw[Fc.enc_eq];simp only[FcV.fc,Gl.callV,D5]
 rw[hR];refine aE_ Tryz.func72 ?_;refine l9 Tryz.func72 mixed 5 _ _ (by kernel_rfl) ?_;simp only[go_sem,seval,run.eq_1];refine AW.adoptGB 2 1 4 47 (by decide) rfl rfl ?_;refine rS_ Tryz.func72 ?_;simp only[go_sem,seval];refine AW.rng g.terms [1,4,5,12,13] 14 12 (fun p:List V=>[]) (fun _ p=>[.box (g.enc.map .d),.box [.d (.str []),.nil0],.box [.d (.str g.name),.own 3 p.length],.grow p.length 4 47 (p.map V.enc)]) (fun r p=>p++r.map (fun t=>t.V.sub (o7 vs))=g.terms.map fun t=>t.V.sub (o7 vs)) [] rfl (by simp) rfl A7 (fun i x r p hxi hdr hlt hm hinv hnext=>?_) (fun p hinv=>?_)
 ·have hxm:=d_ hxi
  obtain⟨he,hv⟩:=hit x hxm;have hw:=bm8 x.V vs (fun n hn=>by have:=hv n hn;omega);rw[<-he] at hw;have hpl:p.length+(r.length+1)=g.terms.length:=by have:=congrArg List.length hinv;simpa using this
  refine l9 Tryz.func72 mixed 9 _ _ (by kernel_rfl) ?_;simp only[go_sem,seval,run.eq_1,hlt,d9 hxi];refine AW.drawA mixed #[true,true,true,true,true,true,true,false,false] [(2,.box [.d (.str g.name),.own 3 p.length]),(4,.box (x.enc.map .d))] [] [0,1,2,3,4,5,6] [7,8] none (by kernel_rfl) trivial (by simp[D8]) ?_;simp only[go_sem,seval]
  repeat' (first|((first|refine hw.calls rfl ?_|refine⟨sd,?_⟩)<;>(try simp only[go_sem,seval]))|fail)
  refine rS_ Tryz.func72 ?_;simp only[go_sem,seval]
  repeat' (first|simp(disch:=omega) only[l6]|fail)
  refine hnext (p++[x.V.sub (o7 vs)]) _ (by rw[<-hinv];simp) A7
 ·simp only[C_,g_] at hinv
  rw[<-hinv];refine rS_ Tryz.func72 ?_;simp only[go_sem,seval]
theorem bB3 {f:Int->V} {g:Gl} (h:7<=g.kind):g.testV f=false:=by
 unfold Gl.testV;split<;>first | rfl | omega
theorem as2 (g:Gl) (vs:List V) (hg:g.inst vs.length):Gives Tryz.prog 73 [.agg g.enc,.sl (vs.map V.enc)] (.d (.bool (g.testV (o7 vs)))):=by
 have hmx:maxLen=9223372036854775807:=rfl;have hln:=(Gl.shape_len hg.1).1;have hit:=Gl.inst_terms hg;refine aE_ Tryz.func73 ?_;refine l9 Tryz.func73 mixed 5 _ _ (by kernel_rfl) ?_;simp only[go_sem,seval,run.eq_1];refine AW.adoptGB 1 2 4 47 (by decide) rfl rfl ?_;refine rS_ Tryz.func73 ?_;simp only[go_sem,seval];refine AW.rng g.terms [1,2,5,12,13] 14 12 (fun p:List V=>[]) (fun _ p=>[.box (g.enc.map .d),.box [.d (.int .i64 g.kind),.d (.str []),.own 2 p.length,.nil0],.grow p.length 4 47 (p.map V.enc)]) (fun r p=>p++r.map (fun t=>t.V.sub (o7 vs))=g.terms.map fun t=>t.V.sub (o7 vs)) [] rfl (by simp) rfl A7 (fun i x r p hxi hdr hlt hm hinv hnext=>?_) (fun p hinv=>?_)
 ·have hxm:=d_ hxi
  obtain⟨he,hv⟩:=hit x hxm;have hw:=bm8 x.V vs (fun n hn=>by have:=hv n hn;omega);rw[<-he] at hw;have hpl:p.length+(r.length+1)=g.terms.length:=by have:=congrArg List.length hinv;simpa using this
  refine l9 Tryz.func73 mixed 9 _ _ (by kernel_rfl) ?_;simp only[go_sem,seval,run.eq_1,hlt,d9 hxi];refine AW.drawA mixed #[true,true,true,true,true,true,true,false,false] [(1,.box [.d (.int .i64 g.kind),.d (.str []),.own 2 p.length,.nil0]),(3,.box (x.enc.map .d))] [] [0,1,2,3,4,5,6] [7,8] none (by kernel_rfl) trivial (by simp[D8]) ?_;simp only[go_sem,seval]
  repeat' (first|((first|refine hw.calls rfl ?_|refine⟨sd,?_⟩)<;>(try simp only[go_sem,seval]))|fail)
  refine rS_ Tryz.func73 ?_;simp only[go_sem,seval]
  repeat' (first|simp(disch:=omega) only[l6]|fail)
  refine hnext (p++[x.V.sub (o7 vs)]) _ (by rw[<-hinv];simp) A7
 ·simp only[C_,g_] at hinv
  subst hinv;rcases Gl.shape_cases hg.1 with ⟨hkk,ht⟩ | ⟨hkk,a,b,ht,ha,hb⟩ | ⟨hkk,a,ht,ha⟩ | h7
  ·have hL:(g.terms.map fun t=>t.V.sub (o7 vs))=[]:=by rw[ht];rfl
   rcases hkk with hkk | hkk
   ·have hT:g.testV (o7 vs)=true:=by simp[Gl.testV,hkk]
    rw[hT];refine rS_ Tryz.func73 ?_;simp only[go_sem,seval,hkk,hL];all_goals first | rfl | exfalso;omega | simp_all;done | simp_all;omega
   ·have hT:g.testV (o7 vs)=false:=by simp[Gl.testV,hkk]
    rw[hT];refine rS_ Tryz.func73 ?_;simp only[go_sem,seval,hkk,hL];all_goals first | rfl | exfalso;omega | simp_all;done | simp_all;omega
  ·have hL:(g.terms.map fun t=>t.V.sub (o7 vs))=[a.V.sub (o7 vs),b.V.sub (o7 vs)]:=by rw[ht];rfl
   rcases hkk with hkk | hkk | hkk
   ·have hT:g.testV (o7 vs)=decide ((a.V.sub (o7 vs)).cmp (b.V.sub (o7 vs))=0):=by simp[Gl.testV,hkk,ht]
    rw[hT];refine rS_ Tryz.func73 ?_;simp only[go_sem,seval,hkk,hL]
    repeat' (first|refine(M3 _ _).callQ rfl ?_<;>try simp only[go_sem,seval,hkk,hL]|fail)
    all_goals first | rfl | exfalso;omega | simp_all;done | simp_all;omega
   ·have hT:g.testV (o7 vs)=!decide ((a.V.sub (o7 vs)).cmp (b.V.sub (o7 vs))=0):=by simp[Gl.testV,hkk,ht]
    rw[hT];refine rS_ Tryz.func73 ?_;simp only[go_sem,seval,hkk,hL]
    repeat' (first|refine(M3 _ _).callQ rfl ?_<;>try simp only[go_sem,seval,hkk,hL]|fail)
    all_goals first | rfl | exfalso;omega | simp_all;done | simp_all;omega
   ·have hT:g.testV (o7 vs)=!(b.V.sub (o7 vs)).has (a.V.sub (o7 vs)).name:=by simp[Gl.testV,hkk,ht]
    rw[hT];refine rS_ Tryz.func73 ?_;simp only[go_sem,seval,hkk,hL]
    repeat' (first|refine(ao8 _ _).callQ rfl ?_<;>try simp only[go_sem,seval,hkk,hL]|fail)
    all_goals first | rfl | exfalso;omega | simp_all;done | simp_all;omega
  ·have hL:(g.terms.map fun t=>t.V.sub (o7 vs))=[a.V.sub (o7 vs)]:=by rw[ht];rfl
   rcases hkk with hkk | hkk
   ·have hT:g.testV (o7 vs)=decide ((a.V.sub (o7 vs)).kind=2):=by simp[Gl.testV,hkk,ht]
    rw[hT];refine rS_ Tryz.func73 ?_;simp only[go_sem,seval,hkk,hL];all_goals first | rfl | exfalso;omega | simp_all;done | simp_all;omega
   ·have hT:g.testV (o7 vs)=decide ((a.V.sub (o7 vs)).kind=3):=by simp[Gl.testV,hkk,ht]
    rw[hT];refine rS_ Tryz.func73 ?_;simp only[go_sem,seval,hkk,hL];all_goals first | rfl | exfalso;omega | simp_all;done | simp_all;omega
  ·rw[bB3 h7]
   refine rS_ Tryz.func73 ?_;simp only[go_sem,seval]
   repeat' (first|((first | refine E8 ?_ ?_<;>intro hq | (refine A8 (fun x hx=>have hq:=hx;?_)))<;>(try simp only[go_sem,seval,hq]))|((first|refine(M3 _ _).callQ rfl ?_|refine(ao8 _ _).callQ rfl ?_|refine⟨sd,?_⟩)<;>(try simp only[go_sem,seval]))|fail)
   all_goals first | rfl | exfalso;omega
theorem ao0 (p:Pg) (hok:M9 p=true) (t:Pf) (ht:p.prf t=true):Gives Tryz.prog 35 [.agg p.enc,.agg t.enc] (.d (.agg (FcV.fc (p.headV t.rel t.values)).enc)):=by
 obtain⟨h0,r,hr,hl,hg,hh⟩:=Pg.prf_head ht;obtain⟨_,ha,hb,_⟩:=Pg.body_inst hok (d_ hr) (m:=t.values.length) hl;have hR:(FcV.fc (p.headV t.rel t.values)).enc=[.str t.rel,.sl ((t.values.take r.arity.toNat).map Tm.enc)]:=by
  rw[Fc.enc_eq,hh];simp only[FcV.fc,p_];rw[<-ac0 hg]
 rw[hR];have hre:(p.rels.map Rl.enc)[(p.find t.rel).toNat]? = some r.enc:=by simp[hr]
 have hrel:=Z7 p t.rel;have hrg:=Pg.find_range p t.rel;generalize p.find t.rel=f at *;refine aE_ Tryz.func35 ?_;refine l9 Tryz.func35 mixed 3 _ _ (by kernel_rfl) ?_;simp only[go_sem,seval,run.eq_1];refine AW.drawA mixed #[true,true,true,true,true,true,true,true,true,true,true,true,true,true,true,false] [(0,.box (p.enc.map .d)),(1,.box (t.enc.map .d))] [] [0,1,2,3,4,5,6,7,8,9,10,11,12,13,14] [15] none (by kernel_rfl) trivial (by simp[D8]) ?_;simp only[go_sem,seval,d9 hre]
 repeat' (first|((refine A8 (fun x hx=>have hq:=hx;?_))<;>(try simp only[go_sem,seval,d9 hre,hq]))|((first|refine hrel.calls rfl ?_|refine⟨sd,?_⟩)<;>(try simp only[go_sem,seval,d9 hre]))|fail)
 obtain rfl:r=x:=by rw[hr] at hx;exact Option.some.inj hx
 refine⟨ha,by omega,?_⟩;refine rS_ Tryz.func35 ?_;simp only[go_sem,seval]
set_option maxHeartbeats 8000000
def rvE (r:RV):List D:=r.ru.enc
theorem M8 (r:RV):rvE r=[.str r.head.1,.sl (r.head.2.map V.enc),.int .i64 r.clause,.sl (r.values.map V.enc),.sl (r.pos.map fcE),.sl (r.neg.map fcE)]:=by
 unfold rvE;rw[Ru.enc_eq];simp only[RV.ru,FcV.fc,D5,P_];rfl
def grC (o:Option (List RV)):C:=match o with | some l=>.tup [.d (.sl (l.map rvE)),.d (.bool true)] | none=>.tup [.d (.sl []),.d (.bool false)]
theorem L8:grC none=.tup [.d (.sl []),.d (.bool false)]:=rfl
theorem ak4 (l:List RV):grC (some l)=.tup [.d (.sl (l.map rvE)),.d (.bool true)]:=rfl
def bA1 (r:Rl):List D:=[.sl (r.body.clsS.map bm6)]
theorem aW4 (r:Rl):bA1 r=[.sl (r.body.clsS.map bm6)]:=rfl
theorem bO5 (vs:List V) (v:V) {n:Nat} (h:vs.length<n):(vs.map V.enc++List.replicate (n - vs.length) [D.int .i64 0,.int .i64 0,.str [],.sl []]).set vs.length (v.enc++List.drop 4 ((vs.map V.enc++List.replicate (n - vs.length) [D.int .i64 0,.int .i64 0,.str [],.sl []])[vs.length]?.getD []))=(vs++[v]).map V.enc++List.replicate (n - (vs++[v]).length) [D.int .i64 0,.int .i64 0,.str [],.sl []]:=by
 obtain⟨m,hm⟩:∃m,n - vs.length=m+1:=⟨n - vs.length - 1,by omega⟩;have e1:(vs.map V.enc++List.replicate (n - vs.length) [D.int .i64 0,.int .i64 0,.str [],.sl []])[vs.length]? = some [D.int .i64 0,.int .i64 0,.str [],.sl []]:=by
  rw[List.getElem?_append_right (by simp),hm];simp[List.replicate_succ]
 rw[e1,hm,List.set_append,if_neg (by simp)];simp only[h_,Nat.sub_self,List.replicate_succ,List.set_cons_zero,q_,List.drop_succ_cons,List.drop_nil,g_,H_,A_,C_,a_,List.cons_append,u_,m_,f_,v_];rw[show n - (vs.length+(0+1))=m by omega]
theorem az1 (p:Pg) (u:List V) (hp:M9 p=true) (hw:wtL p.enc<=1048576) (hu:Uni u):Gives Tryz.prog 56 [.agg p.enc,.sl (u.map V.enc)] (grC (p.gr u)):=by
 have hmx:maxLen=9223372036854775807:=rfl;have hul:=hu.le;have hup:=hu.pos;obtain⟨RES,hRES⟩:∃RES,grC (p.gr u)=RES:=⟨_,rfl⟩;rw[hRES];have hbz:∀y,y∈p.rels.map bA1->y.length=1:=fun y hy=>by obtain⟨b,_,rfl⟩:=x_.1 hy;rfl
 have hpl:p.rels.length<=8:=by
  unfold M9 at hp;rw[j_,decide_eq_true_eq] at hp;exact hp.1
 refine aE_ Tryz.func56 ?_;refine l9 Tryz.func56 mixed 5 _ _ (by kernel_rfl) ?_;simp only[go_sem,seval,run.eq_1];refine AW.adopt 6 1 116 (by decide) rfl ?_;refine rS_ Tryz.func56 ?_;simp only[go_sem,seval];refine AW.rng p.rels [1,2,30,31] 32 30 (fun L:List Rl=>[(6,.own 1 L.length)]) (fun _ L=>[.box (p.enc.map .d),.grow L.length 1 116 (L.map bA1)]) (fun r L=>p.rels=L++r/\L.all (Rl.gOk u)=true) [] rfl (by simp) ⟨rfl,rfl⟩ A7 (fun i x r L hxi hdr hlt hm hinv hnext=>?_) (fun L hinv=>?_)
 ·obtain⟨i1,i2⟩:=hinv
  have hxm:=d_ hxi;obtain⟨z1,z2,z3,z4⟩:=Pg.dims hp hxm;have hLl:L.length<=8:=by have:=congrArg List.length i1;simp at this;omega
  obtain⟨n,hn⟩:∃n:Nat,x.arity+x.locals=(n:Int):=⟨(x.arity+x.locals).toNat,by omega⟩;have hnn:(x.arity+x.locals).toNat=n:=by omega
  have hcl:=ap4 x.body (by have:=Pg.wt_rels hxm;have:=Rl.wt_body x;omega);rw[Gl.cls_same] at hcl;have hwy:=bn0 u.length n 4096 hul (by omega) (by omega);have hsw:=bo4 (b:=u.length) (L:=4096) (n:=n) hup;have hwr:IntKind.i64.wrap (x.arity+x.locals)=(n:Int):=by rw[hn];exact l6 (by omega) (by omega)
  have hgo:x.gOk u=(decide (x.body.clsS.length<=64) && decide (u.length ^ n<=4096)):=by unfold Rl.gOk Rl.ways;rw[hnn]
  by_cases h64:x.body.clsS.length<=64
  ·rw[if_pos h64] at hcl
   unfold bd2 at hcl;rw[q_,s_] at hcl;by_cases h4:u.length ^ n<=4096
   ·have hg:x.gOk u=true:=by rw[hgo,decide_eq_true h64,decide_eq_true h4];rfl
    have hmn:min (I8 u.length 4096 n 1) (4096+1)<=4096:=by have:=hsw.1.1 h4;omega
    have n1:¬(4096:Int)<((min (I8 u.length 4096 n 1) (4096+1):Nat):Int):=by omega
    generalize (min (I8 u.length 4096 n 1) (4096+1):Nat)=W at *;refine rS_ Tryz.func56 ?_;simp only[go_sem,seval,hlt,d9 hxi]
    repeat' (first|simp(disch:=omega) only[l6]|((first|refine hcl.calls rfl ?_|refine hwy.calls rfl ?_|refine⟨sd,?_⟩)<;>(try simp only[go_sem,seval,hlt,d9 hxi,hwr,n1]))|fail)
    refine hnext (L++[x]) _ ⟨by rw[i1];simp,by rw[B_,i2];simp[hg]⟩ (by refine⟨by simp[mkS,aW4],by simp[mkS,aW4],by simp only[mkS,e_,i_,O.refsLt,C.refsLt,C.refsLt1,l7];first | done | rfl | (simp;done),?_⟩;simp[mkS,Abs.get,C.refsLtT,C.refsLt,C.refsLt1,aW4])
   ·have hg:x.gOk u=false:=by rw[hgo,decide_eq_false h4,Bool.and_false]
    have hmn:4096<min (I8 u.length 4096 n 1) (4096+1):=by
     have:¬I8 u.length 4096 n 1<=4096:=fun h=>h4 (hsw.1.2 h);omega
    have n1:(4096:Int)<((min (I8 u.length 4096 n 1) (4096+1):Nat):Int):=by omega
    rw[Pg.gr_bad hxm hg,L8] at hRES;rw[<-hRES];generalize (min (I8 u.length 4096 n 1) (4096+1):Nat)=W at *;refine rS_ Tryz.func56 ?_;simp only[go_sem,seval,hlt,d9 hxi]
    repeat' (first|((first|refine hcl.calls rfl ?_|refine hwy.calls rfl ?_)<;>(try simp only[go_sem,seval,hlt,d9 hxi,hwr,n1]))|fail)
  ·have hg:x.gOk u=false:=by rw[hgo,decide_eq_false h64,Bool.false_and]
   rw[if_neg h64] at hcl;unfold bd2 at hcl;rw[F_,D_] at hcl;rw[Pg.gr_bad hxm hg,L8] at hRES;rw[<-hRES];refine rS_ Tryz.func56 ?_;simp only[go_sem,seval,hlt,d9 hxi]
   repeat' (first|refine hcl.calls rfl ?_<;>try simp only[go_sem,seval,hlt,d9 hxi]|fail)
 ·obtain⟨i1,i2⟩:=hinv
  rw[g_] at i1;subst i1;have hgr:=fun hl=>Pg.gr_some i2 hl;refine l9 Tryz.func56 mixed 8 _ _ (by kernel_rfl) ?_;simp only[go_sem,seval,run.eq_1];refine AW.adopt 11 6 109 (by decide) rfl ?_;refine rS_ Tryz.func56 ?_;simp only[go_sem,seval];have hgok:∀x,x∈p.rels->x.gOk u=true:=r_.1 i2;clear i2;generalize hGN:Pg.gnd u p.rels=GN at hgr;refine AW.rng p.rels [1,6,62,63] 64 62 (fun L:List RV=>[(11,.own 2 L.length)]) (fun _ L=>[.box (p.enc.map .d),.grow p.rels.length 1 116 (p.rels.map bA1),.grow L.length 6 109 (L.map rvE)]) (fun r L=>GN=L++Pg.gnd u r/\L.length<=2000) [] rfl (by simp) ⟨hGN.symm,by simp⟩ A7 (fun i x r L hxi hdr hlt hm hinv hnext=>?_) (fun L hinv=>?_)
  ·obtain⟨i1,i2⟩:=hinv
   have hxm:=d_ hxi;obtain⟨z1,z2,z3,z4⟩:=Pg.dims hp hxm;obtain⟨n,hn⟩:∃n:Nat,x.arity+x.locals=(n:Int):=⟨(x.arity+x.locals).toNat,by omega⟩;have hnn:(x.arity+x.locals).toNat=n:=by omega
   have hn12:n<=12:=by omega
   have hwr:IntKind.i64.wrap (x.arity+x.locals)=(n:Int):=by rw[hn];exact l6 (by omega) (by omega)
   have hwy:=bn0 u.length n 4096 hul (by omega) (by omega);have hsw:=bo4 (b:=u.length) (L:=4096) (n:=n) hup;have hgx:=hgok x hxm;have hgo:x.gOk u=(decide (x.body.clsS.length<=64) && decide (u.length ^ n<=4096)):=by unfold Rl.gOk Rl.ways;rw[hnn]
   rw[hgo,j_,decide_eq_true_eq,decide_eq_true_eq] at hgx;obtain⟨h64,h4⟩:=hgx;have hW:x.ways u=u.length ^ n:=by unfold Rl.ways;rw[hnn]
   have hmn:min (I8 u.length 4096 n 1) (4096+1)=x.ways u:=by rw[hsw.2 h4,hW];omega
   rw[hmn] at hwy;rw[<-hW] at h4;have hbe:(p.rels.map bA1)[i]? = some [.sl (x.body.clsS.map bm6)]:=by rw[n_,hxi];rfl
   have hbm:(p.rels.map bA1).length=p.rels.length:=h_ _;have hcs:∀c,c∈x.body.clsS->∀g,g∈c->g.inst n:=fun c hc g hg=>Gl.inst_sub (Pg.body_inst hp hxm (m:=n) hn.symm).1 g (aH7 hc hg);have hcl:∀c,c∈x.body.clsS->c.length<=60:=fun c hc=>R_ (Gl.clsS_row x.body c hc).1 (Pg.body_inst hp hxm (m:=n) hn.symm).2.2.2.2.2;have hgn:Pg.gnd u (x :: r)=ay7 u x (x.ways u) 0 x.body.clsS++Pg.gnd u r:=rfl;rw[hgn] at i1;clear hgn hsw hmn hgo hW hgok;have hxar:x.enc=[.str x.name,.int .i64 x.arity,.int .i64 x.locals]++x.body.enc:=by unfold Rl.enc;simp
   generalize hCS:x.body.clsS=CS at *;generalize hWW:x.ways u=W at *;refine rS_ Tryz.func56 ?_;simp only[go_sem,seval,hlt,d9 hxi,hwr,hbm]
   repeat' (first|refine hwy.calls rfl ?_<;>try simp only[go_sem,seval,hlt,d9 hxi,hwr,hbm,d9 hbe]|fail)
   refine AW.rng CS [1,6,13,14,15,62,63,64,81,82] 83 81 (fun L:List RV=>[(11,.own 2 L.length)]) (fun _ L=>[.box (p.enc.map .d),.grow p.rels.length 1 116 (p.rels.map bA1),.grow L.length 6 109 (L.map rvE),.box (x.enc.map .d)]) (fun cs L=>GN=L++(ay7 u x W ((CS.length - cs.length:Nat):Int) cs++Pg.gnd u r)/\L.length<=2000) L rfl (by simp) ⟨by rw[Nat.sub_self];exact i1,i2⟩ A7 (fun ci c cs L hci hdc hltc hmc hinv hnc=>?_) (fun L hinv=>?_)
   ·obtain⟨i1,i2⟩:=hinv
    have hcm:=d_ hci;have hdl:=congrArg List.length hdc;simp only[y_,f_] at hdl;have hcs:=hcs c hcm;have hcl:=hcl c hcm;have hcil:ci<CS.length:=(c_.1 hci).1;rw[f_,show CS.length - (cs.length+1)=ci by omega,aK7,a_] at i1;have hnc:=fun (L:List RV) s' (h2:L.length<=2000) (h1:GN=L++(ay7 u x W ((ci+1:Nat):Int) cs++Pg.gnd u r))=>hnc L s' ⟨by rw[show CS.length - cs.length=ci+1 by omega];exact h1,h2⟩;rw[show ((ci:Int)+1)=((ci+1:Nat):Int) by omega] at i1;generalize hX:ay7 u x W ((ci+1:Nat):Int) cs++Pg.gnd u r=X at *;refine rS_ Tryz.func56 ?_;simp only[go_sem,seval,hltc,d9 hci,T9];refine AW.lp [1,6,13,14,15,16,17,62,63,64,81,82,83] (fun u:Nat×List RV=>[(18,.d (.int .i64 (u.1:Int))),(11,.own 2 u.2.length)]) (fun _ y=>[.box (p.enc.map .d),.grow p.rels.length 1 116 (p.rels.map bA1),.grow y.2.length 6 109 (y.2.map rvE),.box (x.enc.map .d)]) (fun y=>y.1<=W/\GN=y.2++(aK6 u x (ci:Int) c y.1 (W - y.1)++X)/\y.2.length<=2000) (fun y=>W - y.1) (0,L) ⟨l_ _,i1,i2⟩ A7 ?_;rintro ⟨w,L1⟩ ⟨j1,j2,j3⟩ hnw;dsimp only at j1 j2 j3 hnw |-;have hnw:=fun w' L' s' h=>hnw (w',L') s' h;clear i1 i2;by_cases hwW:w<W
    ·have n1:(w:Int)<(W:Int):=by omega
     have hvl:=M0 u n w;have hvm:=L9 hup n w;rw[show W - w=(W - (w+1))+1 by omega,aY7] at j2;have hrk:rvK u x (ci:Int) c w=if V5 u c (E5 u n w)=true then some (aK8 x (ci:Int) c (E5 u n w)) else none:=by unfold rvK;rw[hnn]
     rw[hrk,a_] at j2;have hng:¬(n:Int)<0:=by omega
     obtain⟨G,hG⟩:∃G,E5 u n w=G:=⟨_,rfl⟩;rw[hG] at j2 hvl hvm;clear hrk;refine rS_ Tryz.func56 ?_;simp only[go_sem,seval,n1,hng]
     repeat' (first|refine⟨sd,?_⟩<;>try simp only[go_sem,seval,n1,hng]|fail)
     refine AW.lp [1,6,11,13,14,15,16,17,18,19,62,63,64,81,82,83] (fun v:List V×Nat=>[(21,.d (.int .i64 (v.1.length:Int))),(20,.d (.int .i64 (v.2:Int)))]) (fun _ v=>[.box (p.enc.map .d),.grow p.rels.length 1 116 (p.rels.map bA1),.grow L1.length 6 109 (L1.map rvE),.box (x.enc.map .d),.row 4 47 (v.1.map V.enc++List.replicate (n - v.1.length) [.int .i64 0,.int .i64 0,.str [],.sl []])]) (fun v=>v.1++E5 u (n - v.1.length) v.2=G/\v.1.length<=n/\v.2<=w) (fun v=>n - v.1.length) ([],w) ⟨hG,l_ _,b_ _⟩ A7 ?_;rintro ⟨vs,y⟩ ⟨k1,k2,k3⟩ hnv;dsimp only at k1 k2 k3 hnv |-;have hnv:=fun v' y' s' h=>hnv (v',y') s' h;by_cases hvn:vs.length<n
     ·have n2:(vs.length:Int)<(n:Int):=by omega
      have hm1:y % u.length<u.length:=Nat.mod_lt _ (by omega);obtain⟨v,hv⟩:∃v,u[y % u.length]? = some v:=⟨_,k_ hm1⟩;have hve:u.getD (y % u.length) .nil=v:=by rw[J_,hv];rfl
      have hvd:(u.map V.enc)[y % u.length]? = some v.enc:=by rw[n_,hv];rfl
      have hml:(u.map V.enc).length=u.length:=h_ _;have hdv:y / u.length<=y:=Nat.div_le_self _ _;have hrm:=bW1 y u.length;have hqd:=bW2 y u.length;have h0:¬(u.length:Int)=0:=by omega
      rw[show n - vs.length=(n - (vs.length+1))+1 by omega] at k1;have hre:E5 u (n - (vs.length+1)+1) y=v :: E5 u (n - (vs.length+1)) (y / u.length):=by rw[<-hve];rfl
      rw[hre] at k1;clear hve hre;generalize y % u.length=ym at *;generalize y / u.length=yq at *;have w1:IntKind.i64.wrap (yq:Int)=(yq:Int):=l6 (by omega) (by omega);have w2:IntKind.i64.wrap ((vs.length:Int)+1)=(vs.length:Int)+1:=l6 (by omega) (by omega);have n3:(ym:Int)<(u.length:Int):=by omega
      refine rS_ Tryz.func56 ?_;simp only[go_sem,seval,n2,d9 hvd,hrm,hqd,h0,w1,w2,n3,hml]
      repeat' (first|refine⟨sd,?_⟩<;>try simp only[go_sem,seval,n2,d9 hvd,hrm,hqd,h0,w1,w2,n3,hml]|fail)
      rw[bO5 vs v hvn];refine hnv (vs++[v]) yq _ ⟨by rw[<-k1];simp,by simp;omega,by omega⟩ (by simp;omega) A7
     ·have n2:¬(vs.length:Int)<(n:Int):=by omega
      rw[show n - vs.length=0 by omega] at k1 |-;have e0:E5 u 0 y=[]:=rfl;rw[e0,g_] at k1;subst k1;clear hnv;refine l9 Tryz.func56 mixed 6 _ _ (by kernel_rfl) ?_;simp only[go_sem,seval,run.eq_1,n2];refine AW.freeze 19 4 rfl rfl (by simp;omega) ?_;try rw[List.replicate_zero,g_]
      refine AW.drawA mixed #[true,true,true,true,true,true,true,true,true,true,true,false] [(3,.box (x.enc.map .d))] [] [0,1,2,3,4,7,8,10,5,6,9] [11] (some (10,22,109,[.string ⟨#[]⟩,.slice none 0 0,.int .i64 0,.slice none 0 0,.slice none 0 0,.slice none 0 0])) (by kernel_rfl) cg6 (by simp[D8]) ?_;simp only[go_sem,seval];refine⟨z1,by omega,?_⟩;refine AW.adoptGB 5 4 2 33 (by decide) rfl rfl ?_;refine AW.adoptGB 5 5 2 33 (by decide) rfl rfl ?_;refine rS_ Tryz.func56 ?_;simp only[go_sem,seval];have hfa:=aA7 u vs c;clear hvm;refine AW.rng c [1,6,11,13,14,15,16,17,18,19,22,62,63,64,81,82,83,125,126] 127 125 (fun a:Bool×List FcV×List FcV=>[(23,.d (.bool a.1))]) (fun _ a=>[.box (p.enc.map .d),.grow p.rels.length 1 116 (p.rels.map bA1),.grow L1.length 6 109 (L1.map rvE),.box (x.enc.map .d),.dead,.box [.d (.str x.name),.d (.sl ((vs.take x.arity.toNat).map V.enc)),.d (.int .i64 ci),.d (.sl (vs.map V.enc)),.own 6 a.2.1.length,.own 7 a.2.2.length],.grow a.2.1.length 2 33 (a.2.1.map fcE),.grow a.2.2.length 2 33 (a.2.2.map fcE)]) (fun s a=>∃d,c=d++s/\a.2.1.length<=d.length/\a.2.2.length<=d.length/\(a.1=true->a.2.1=x9 (o7 vs) d/\a.2.2=z8 (o7 vs) d/\d.all (okG u vs)=true)/\(a.1=false->c.all (okG u vs)=false)) (true,[],[]) rfl (by simp) ⟨[],rfl,by simp,by simp,fun _=>⟨rfl,rfl,rfl⟩,fun h=>by cases h⟩ A7 (fun gi g s a hgi hdg hltg hmg hinv hng2=>?_) (fun a hinv=>?_)
      ·obtain⟨fine,P,N⟩:=a
       obtain⟨d,d1,d2,d3,d4,d5⟩:=hinv;dsimp only at d2 d3 d4 d5 hng2 |-;have hng2:=fun b P N s' h=>hng2 (b,P,N) s' h;cases fine with
       | false =>
        have hff:=d5 rfl;rw[hfa,hff,if_neg (by simp),Option.toList_none,u_] at j2;have hn5:¬(2000:Int)<(L1.length:Int):=by omega
        have w7:IntKind.i64.wrap ((w:Int)+1)=((w+1:Nat):Int):=by rw[l6 (by omega) (by omega)];omega
        refine rS_ Tryz.func56 ?_;simp only[go_sem,seval,hn5,w7,hltg,d9 hgi];refine hnw (w+1) L1 _ ⟨by omega,j2,j3⟩ (by dsimp only;omega) A7
       | true =>
        obtain⟨e1,e2,e3⟩:=d4 rfl;clear d4 d5;have hgm:=d_ hgi;have hgn:=hcs g hgm;rw[<-hvl] at hgn;have hok:(d++[g]).all (okG u vs)=okG u vs g:=by rw[B_,e3];simp
        have hbad:okG u vs g=false->c.all (okG u vs)=false:=fun h=>by rw[d1,B_,e_,h];simp
        have hd60:d.length<=60:=by have:=congrArg List.length d1;simp at this;omega
        have hP60:P.length<=60:=by omega
        have hN60:N.length<=60:=by omega
        have hps:=aW0 (o7 vs) d g;have hns:=aW1 (o7 vs) d g;by_cases h9:g.kind=9
        ·have hcf:=ah5 g vs hgn
         have hog:okG u vs g=bK1 u (g.callV (o7 vs)):=by unfold okG;rw[if_pos h9]
         have hin:=ak1 u (g.callV (o7 vs)).2 (by omega);rw[show ((g.callV (o7 vs)).2.all fun t=>decide (t∈u))=okG u vs g from hog.symm] at hin;have hFe:=o5 (g.callV (o7 vs));rw[if_pos h9,<-e1] at hps;rw[if_neg (by omega),g_,<-e2] at hns;change Gives _ _ _ (.d (.agg (fcE (g.callV (o7 vs))))) at hcf
         generalize g.callV (o7 vs)=F at *;generalize okG u vs g=ok at *;refine rS_ Tryz.func56 ?_;simp only[go_sem,seval,hltg,d9 hgi,h9]
         repeat' (first|simp(disch:=omega) only[l6]|((first|refine hcf.calls rfl ?_|refine hin.calls rfl ?_|refine⟨sd,?_⟩)<;>(try simp only[go_sem,seval,hltg,d9 hgi,h9,hFe]))|fail)
         refine hng2 ok (P++[F]) N _ ⟨d++[g],by rw[d1];simp,by simp;omega,by simp;omega,fun h=>⟨hps.symm,hns.symm,hok.trans h⟩,hbad⟩ (by refine⟨by simp[mkS,hFe],by simp[mkS,hFe],by simp only[mkS,e_,i_,O.refsLt,C.refsLt,C.refsLt1,l7];first | done | rfl | (simp;done),?_⟩;simp[mkS,Abs.get,C.refsLtT,C.refsLt,C.refsLt1,hFe])
        ·rw[if_neg h9,g_,<-e1] at hps
         by_cases h10:g.kind=10
         ·obtain⟨y,hy⟩:=Gl.shape_not hgn.1 h10
          have hcf:=ah5 y vs (Gl.inst_sub hgn y (bM7 hy));have hog:okG u vs g=bK1 u (y.callV (o7 vs)):=by unfold okG;rw[if_neg h9,if_pos h10,hy];rfl
          have hin:=ak1 u (y.callV (o7 vs)).2 (by omega);rw[show ((y.callV (o7 vs)).2.all fun t=>decide (t∈u))=okG u vs g from hog.symm] at hin;have hFe:=o5 (y.callV (o7 vs));rw[if_pos h10,hy,<-e2] at hns;change Gives _ _ _ (.d (.agg (fcE (y.callV (o7 vs))))) at hcf
          change z8 (o7 vs) (d++[g])=N++[y.callV (o7 vs)] at hns
          generalize y.callV (o7 vs)=F at *;generalize okG u vs g=ok at *;have hy0:g.goals[0]? = some y:=by rw[hy];rfl
          have hy1:(0:Int)<(g.goals.length:Int):=by rw[hy];simp
          refine rS_ Tryz.func56 ?_;simp only[go_sem,seval,hltg,d9 hgi,h9,h10,d9 hy0,hy1]
          repeat' (first|simp(disch:=omega) only[l6]|((first|refine hcf.calls rfl ?_|refine hin.calls rfl ?_|refine⟨sd,?_⟩)<;>(try simp only[go_sem,seval,hltg,d9 hgi,h9,h10,hFe,d9 hy0,hy1]))|fail)
          refine hng2 ok P (N++[F]) _ ⟨d++[g],by rw[d1];simp,by simp;omega,by simp;omega,fun h=>⟨hps.symm,hns.symm,hok.trans h⟩,hbad⟩ (by refine⟨by simp[mkS,hFe],by simp[mkS,hFe],by simp only[mkS,e_,i_,O.refsLt,C.refsLt,C.refsLt1,l7];first | done | rfl | (simp;done),?_⟩;simp[mkS,Abs.get,C.refsLtT,C.refsLt,C.refsLt1,hFe])
         ·have htw:=as2 g vs hgn
          have hog:okG u vs g=g.testV (o7 vs):=by unfold okG;rw[if_neg h9,if_neg h10]
          rw[<-hog] at htw;rw[if_neg h10,g_,<-e2] at hns;generalize okG u vs g=ok at *;refine rS_ Tryz.func56 ?_;simp only[go_sem,seval,hltg,d9 hgi,h9,h10]
          repeat' (first|simp(disch:=omega) only[l6]|refine htw.calls rfl ?_<;>try simp only[go_sem,seval,hltg,d9 hgi,h9,h10]|fail)
          refine hng2 ok P N _ ⟨d++[g],by rw[d1];simp,by simp;omega,by simp;omega,fun h=>⟨hps.symm,hns.symm,hok.trans h⟩,hbad⟩ A7
      ·obtain⟨fine,P,N⟩:=a
       obtain⟨d,d1,d2,d3,d4,d5⟩:=hinv;dsimp only at d2 d3 d4 d5 |-;rw[g_] at d1;subst d1;cases fine with
       | false =>
        have hff:=d5 rfl;rw[hfa,hff,if_neg (by simp),Option.toList_none,u_] at j2;have hn5:¬(2000:Int)<(L1.length:Int):=by omega
        have w7:IntKind.i64.wrap ((w:Int)+1)=((w+1:Nat):Int):=by rw[l6 (by omega) (by omega)];omega
        refine rS_ Tryz.func56 ?_;simp only[go_sem,seval,hn5,w7,e0];refine hnw (w+1) L1 _ ⟨by omega,j2,j3⟩ (by dsimp only;omega) A7
       | true =>
        obtain⟨e1,e2,e3⟩:=d4 rfl;subst e1 e2;rw[hfa,e3,if_pos rfl,Option.toList_some] at j2;have hrE:=M8 (aK8 x (ci:Int) c vs);unfold aK8 at hrE;dsimp only at hrE;have hrF:aK8 x (ci:Int) c vs=⟨(x.name,vs.take x.arity.toNat),(ci:Int),vs,x9 (o7 vs) c,z8 (o7 vs) c⟩:=rfl;rw[hrF] at j2;generalize x9 (o7 vs) c=P at *;generalize z8 (o7 vs) c=N at *;generalize (RV.mk (x.name,vs.take x.arity.toNat) (ci:Int) vs P N)=RR at *;have w7:IntKind.i64.wrap ((w:Int)+1)=((w+1:Nat):Int):=by rw[l6 (by omega) (by omega)];omega
        have hrl:(L1.map rvE).length=L1.length:=h_ _;have hj2:GN=(L1++[RR])++(aK6 u x (ci:Int) c (w+1) (W - (w+1))++X):=by rw[j2];simp
        by_cases h20:L1.length<2000
        ·have hn5:¬(2000:Int)<(L1.length:Int)+1:=by omega
         refine rS_ Tryz.func56 ?_;simp only[go_sem,seval,hn5,w7,hrl]
         repeat' (first|refine⟨sd,?_⟩<;>try simp only[go_sem,seval,hn5,w7,hrl]|fail)
         refine hnw (w+1) (L1++[RR]) _ ⟨by omega,hj2,by simp;omega⟩ (by dsimp only;omega) (by refine⟨by simp[mkS,hrE],by simp[mkS,hrE],by simp only[mkS,e_,i_,O.refsLt,C.refsLt,C.refsLt1,l7];first | done | rfl | (simp;done),?_⟩;simp[mkS,Abs.get,C.refsLtT,C.refsLt,C.refsLt1,hrE])
        ·have hn5:(2000:Int)<(L1.length:Int)+1:=by omega
         rw[Pg.gr_none (hGN.trans hj2) (by simp;omega),L8] at hRES;rw[<-hRES];refine rS_ Tryz.func56 ?_;simp only[go_sem,seval,hn5,w7,hrl]
         repeat' (first|refine⟨sd,?_⟩<;>try simp only[go_sem,seval,hn5,w7,hrl]|fail)
         all_goals omega
    ·have n1:¬(w:Int)<(W:Int):=by omega
     rw[show W - w=0 by omega] at j2;have e0:aK6 u x (ci:Int) c w 0=[]:=rfl;rw[e0,u_] at j2;refine rS_ Tryz.func56 ?_;simp only[go_sem,seval,n1]
     repeat' (first|simp(disch:=omega) only[l6]|refine hnc L1 _ j3 j2 A7|fail)
     all_goals refine hnc L1 _ j3 (by rw[hX];exact j2) A7
   ·obtain⟨i1,i2⟩:=hinv
    have e0:ay7 u x W ((CS.length - ([]:List (List Gl)).length:Nat):Int) []=[]:=rfl;rw[e0,u_] at i1;refine rS_ Tryz.func56 ?_;simp only[go_sem,seval]
    repeat' (first|simp(disch:=omega) only[l6]|fail)
    all_goals refine hnext L _ ⟨i1,i2⟩ A7
  ·obtain⟨i1,i2⟩:=hinv
   have e0:Pg.gnd u []=[]:=rfl;rw[e0,g_] at i1;subst i1;rw[hgr i2,ak4] at hRES;rw[<-hRES];refine rS_ Tryz.func56 ?_;simp only[go_sem,seval]
theorem aG4 (l:List Tm) (hw:wtR (l.map Tm.enc)<=2000000):Gives Tryz.prog 125 [.sl (l.map Tm.enc)] (.d (.sl (l.map Tm.enc))):=by
 have h:=aN4 l hw;refine ACalls.frozen (ds:=[.sl (l.map Tm.enc)]) (m:=1) h (fun c H' ⟨h1,e,B,h2⟩ _=>?_);subst h1 h2;rfl
theorem aN3 (l:List V) (hw:wtR (l.map V.enc)<=2000000):Gives Tryz.prog 125 [.sl (l.map V.enc)] (.d (.sl (l.map V.enc))):=by
 have h:=aG4 (l.map V.tm) (by rw[D5];exact hw);rw[D5] at h;exact h
theorem bt7 (l:List FcV) (hl:l.length<=2000000) (hw:∀x,x∈l->wtR (x.2.map V.enc)<=2000000):Gives Tryz.prog 83 [.sl (l.map fcE)] (.d (.sl (l.map fcE))):=by
 have hmx:maxLen=9223372036854775807:=rfl;refine aE_ Tryz.func83 ?_;refine rS_ Tryz.func83 ?_;simp only[go_sem,seval];refine AW.adopt 3 2 33 (by decide) rfl ?_;refine AW.rng l [7,8] 9 7 (fun p:List FcV=>[(3,.own 0 p.length)]) (fun _ p=>[.grow p.length 2 33 (p.map fcE)]) (fun r p=>p++r=l) [] rfl (by simp) rfl A7 (fun i x r p hxi hdr hlt hm hinv hnext=>?_) (fun p hinv=>?_)
 ·have hxm:=d_ hxi
  have hc:=aN3 x.2 (hw x hxm);have hpl:p.length+(r.length+1)=l.length:=by rw[<-hinv];simp
  have hxe:=o5 x;generalize hX:fcE x=X at *;subst hxe;refine l9 Tryz.func83 mixed 9 _ _ (by kernel_rfl) ?_;simp only[go_sem,seval,run.eq_1,hlt,d9 hxi,hX];refine AW.drawA mixed #[true,true,true,true,true,true,true,true,true,false] [(1,.box [.d (.str x.1),.d (.sl (x.2.map V.enc))])] [] [0,1,2,3,4,5,6,7,8] [9] none (by kernel_rfl) trivial (by simp[D8]) ?_;simp only[go_sem,seval]
  repeat' (first|((first|refine hc.calls rfl ?_|refine⟨sd,?_⟩)<;>(try simp only[go_sem,seval]))|fail)
  refine rS_ Tryz.func83 ?_;simp only[go_sem,seval]
  repeat' (first|simp(disch:=omega) only[l6]|fail)
  refine hnext (p++[x]) _ (by simp[<-hinv]) (by refine⟨by simp[mkS,hX],by simp[mkS,hX],by simp only[mkS,e_,i_,O.refsLt,C.refsLt,C.refsLt1,l7];first | done | rfl | (simp;done),?_⟩;simp[mkS,Abs.get,C.refsLtT,C.refsLt,C.refsLt1])
 ·simp only[g_] at hinv
  subst hinv;refine rS_ Tryz.func83 ?_;simp only[go_sem,seval]
theorem uniwts {u:List V} (hu:Uni u) (l:List V) (hl:∀v,v∈l->v∈u) (hn:l.length<=12):wtR (l.map V.enc)<=2000000:=by
 have:=aS8 l (r_.2 fun v hv=>hu.ok v (hl v hv));omega
theorem ax4 (rs:List RV) (F:List FcV) (hF:ai0 FcV.cmp F) (hl:F.length<=9000000) (hr:rs.length<=2000000):Gives Tryz.prog 57 [.sl (rs.map rvE),.sl (F.map fcE)] (.d (.sl ((Z9 rs F F).map fcE))):=by
 have hmx:maxLen=9223372036854775807:=rfl;have hhf:∀f:FcV,Gives Tryz.prog 60 [.sl (F.map fcE),.agg [.str f.1,.sl (f.2.map V.enc)]] (.d (.bool (decide (f∈F)))):=fun f=>by
  have h:=Y4 F f hl hF;rw[o5] at h;exact h
 obtain⟨RES,hRES⟩:∃RES,Z9 rs F F=RES:=⟨_,rfl⟩;rw[hRES];refine aE_ Tryz.func57 ?_;refine rS_ Tryz.func57 ?_;simp only[go_sem,seval];refine AW.adopt 5 2 33 (by decide) rfl ?_;refine AW.rng rs [1,14,15] 16 14 (fun L:List FcV=>[(5,.own 0 L.length)]) (fun _ L=>[.grow L.length 2 33 (L.map fcE)]) (fun r L=>∃d,rs=d++r/\L=(d.filter (RV.fires F F)).map RV.head) [] rfl (by simp) ⟨[],rfl,rfl⟩ A7 (fun i x r L hxi hdr hlt hm hinv hnext=>?_) (fun L hinv=>?_)
 ·obtain⟨d,d1,d2⟩:=hinv
  have hLl:L.length<=2000000:=by
   rw[d2,h_];have h1:=S_ (RV.fires F F) d;have h2:=congrArg List.length d1;simp at h2;omega
  have hfi:x.fires F F=(x.pos.all (fun f=>decide (f∈F)) && x.neg.all (fun f=>!decide (f∈F))):=by
   unfold RV.fires;simp
  have hnext:=fun (L':List FcV) s' (h:L'=L++(if x.fires F F=true then [x.head] else []))=>hnext L' s' ⟨d++[x],by rw[d1];simp,by rw[h,d2,List.filter_append,H_];congr 1;cases hq:x.fires F F<;>simp[hq]⟩;clear d1 d2;refine rS_ Tryz.func57 ?_;simp only[go_sem,seval,hlt,d9 hxi,M8];refine AW.rng x.pos [1,5,7,14,15,16,21,22] 23 21 (fun b:Bool=>[(8,.d (.bool b))]) (fun _ b=>[.grow L.length 2 33 (L.map fcE),.box [.d (.str x.head.1),.d (.sl (x.head.2.map V.enc)),.d (.int .i64 x.clause),.d (.sl (x.values.map V.enc)),.d (.sl (x.pos.map fcE)),.d (.sl (x.neg.map fcE))]]) (fun r b=>∃d,x.pos=d++r/\b=d.all (fun f=>decide (f∈F))) true rfl (by simp) ⟨[],rfl,rfl⟩ A7 (fun j f r1 b hfj hdj hltj hmj hinv hnj=>?_) (fun b hinv=>?_)
  ·obtain⟨d,d1,d2⟩:=hinv
   have hh:=hhf f;have hnj:=fun (b':Bool) s' (h:b'=(b && decide (f∈F)))=>hnj b' s' ⟨d++[f],by rw[d1];simp,by rw[h,d2,B_];simp⟩;clear d1 d2;generalize decide (f∈F)=q at *;cases b<;>· (
    refine rS_ Tryz.func57 ?_;simp only[go_sem,seval,hltj,d9 hfj,o5]
    repeat' (first|simp(disch:=omega) only[l6]|refine hh.calls rfl ?_<;>try simp only[go_sem,seval,hltj,d9 hfj,o5]|fail)
    refine hnj _ _ rfl A7)
  obtain⟨d,d1,d2⟩:=hinv;rw[g_] at d1;subst d1;refine rS_ Tryz.func57 ?_;simp only[go_sem,seval];refine AW.rng x.neg [1,5,7,14,15,16,35,36] 37 35 (fun b:Bool=>[(8,.d (.bool b))]) (fun _ b=>[.grow L.length 2 33 (L.map fcE),.box [.d (.str x.head.1),.d (.sl (x.head.2.map V.enc)),.d (.int .i64 x.clause),.d (.sl (x.values.map V.enc)),.d (.sl (x.pos.map fcE)),.d (.sl (x.neg.map fcE))]]) (fun r b=>∃d,x.neg=d++r/\b=(x.pos.all (fun f=>decide (f∈F)) && d.all (fun f=>!decide (f∈F)))) b rfl (by simp) ⟨[],rfl,by rw[d2];simp⟩ A7 (fun j f r1 b hfj hdj hltj hmj hinv hnj=>?_) (fun b hinv=>?_)
  ·obtain⟨d,d1,d3⟩:=hinv
   have hh:=hhf f;have hnj:=fun (b':Bool) s' (h:b'=(b && !decide (f∈F)))=>hnj b' s' ⟨d++[f],by rw[d1];simp,by rw[h,d3,B_,Bool.and_assoc];simp⟩;clear d1 d3 d2;generalize decide (f∈F)=q at *;cases b<;>· (
    refine rS_ Tryz.func57 ?_;simp only[go_sem,seval,hltj,d9 hfj,o5]
    repeat' (first|simp(disch:=omega) only[l6]|refine hh.calls rfl ?_<;>try simp only[go_sem,seval,hltj,d9 hfj,o5]|fail)
    refine hnj _ _ rfl A7)
  obtain⟨d,d1,d3⟩:=hinv;rw[g_] at d1;subst d1;rw[<-hfi] at d3;clear hfi d2;cases b with
  | false =>
   refine rS_ Tryz.func57 ?_;simp only[go_sem,seval]
   repeat' (first|simp(disch:=omega) only[l6]|fail)
   refine hnext L _ (by rw[<-d3];simp) A7
  | true =>
   have hFe:=o5 x.head;refine rS_ Tryz.func57 ?_;simp only[go_sem,seval]
   repeat' (first|simp(disch:=omega) only[l6]|refine⟨sd,?_⟩<;>try simp only[go_sem,seval]|fail)
   refine hnext (L++[x.head]) _ (by rw[<-d3];simp) (by refine⟨by simp[mkS,hFe],by simp[mkS,hFe],by simp only[mkS,e_,i_,O.refsLt,C.refsLt,C.refsLt1,l7];first | done | rfl | (simp;done),?_⟩;simp[mkS,Abs.get,C.refsLtT,C.refsLt,C.refsLt1,hFe])
 ·obtain⟨d,d1,d2⟩:=hinv
  rw[g_] at d1;subst d1;have hLl:L.length<=2000000:=by
   rw[d2,h_];exact R_ (S_ _ _) hr
  have hs:=aK0 L hLl;rw[show al7 FcV.cmp L=RES from by rw[<-hRES,d2];rfl] at hs;refine AW.readG 5 0 rfl rfl ?_;refine rS_ Tryz.func57 ?_;simp only[go_sem,seval]
  repeat' (first|refine hs.calls rfl ?_<;>try simp only[go_sem,seval]|fail)
theorem aK4 (a b:List FcV) (ha:a.length<=9000000) (hb:b.length<=9000000):Gives Tryz.prog 58 [.sl (a.map fcE),.sl (b.map fcE)] (.d (.bool (decide (a=b)))):=by
 have hmx:maxLen=9223372036854775807:=rfl;have hmap:∀x:List FcV,(x.map fcE).length=x.length:=fun x=>h_ _;by_cases hlen:a.length=b.length
 ·obtain⟨RES,hRES⟩:∃RES,decide (a=b)=RES:=⟨_,rfl⟩
  rw[hRES];have n1:(a.length:Int)=(b.length:Int):=by omega
  refine aE_ Tryz.func58 ?_;refine rS_ Tryz.func58 ?_;simp only[go_sem,seval,hmap,n1];refine AW.lp [0,1,12] (fun i:Nat=>[(13,.d (.int .i64 (i:Int)))]) (fun H _=>H) (fun i=>i<=a.length/\a.take i=b.take i) (fun i=>a.length - i) 0 ⟨l_ _,rfl⟩ A7 ?_;intro i hi hni;obtain⟨h1,h2⟩:=hi;by_cases hia:i<a.length
  ·have n2:(i:Int)<(b.length:Int):=by omega
   have n3:(i:Int)<(a.length:Int):=by omega
   obtain⟨x,hx⟩:∃x,a[i]? = some x:=⟨_,k_ hia⟩;obtain⟨y,hy⟩:∃y,b[i]? = some y:=⟨_,k_ (hlen ▸ hia)⟩;have ho:=R4 x y;have w1:IntKind.i64.wrap ((i:Int)+1)=((i+1:Nat):Int):=by rw[l6 (by omega) (by omega)];omega
   by_cases hxy:x.cmp y=0
   ·have he:=(FcV.cmp_lin.zero _ _).1 hxy
    rw[hxy] at ho;refine l9 Tryz.func58 mixed 10 _ _ (by kernel_rfl) ?_;simp only[go_sem,seval,run.eq_1,n2,n3,hmap];refine AW.drawA mixed #[true,true,true,true,true,true,true,true,true,false] [] [] [0,1,2,3,4,5,6,7,8] [9] none (by kernel_rfl) trivial (by simp[D8]) ?_;simp only[go_sem,seval,hmap,n2,n3,d9 hx,d9 hy]
    repeat' (first|refine ho.calls rfl ?_<;>try simp only[go_sem,seval,w1]|fail)
    refine rS_ Tryz.func58 ?_;simp only[go_sem,seval]
    repeat' (first|simp(disch:=omega) only[l6]|fail)
    refine hni (i+1) _ ⟨by omega,by rw[List.take_add_one,List.take_add_one,h2,hx,hy,he]⟩ (by omega) A7
   ·have he:a≠b:=fun e=>hxy (by rw[e,hy] at hx;cases hx;exact(FcV.cmp_lin.zero _ _).2 rfl)
    rw[decide_eq_false he] at hRES;subst hRES;refine l9 Tryz.func58 mixed 10 _ _ (by kernel_rfl) ?_;simp only[go_sem,seval,run.eq_1,n2,n3,hmap];refine AW.drawA mixed #[true,true,true,true,true,true,true,true,true,false] [] [] [0,1,2,3,4,5,6,7,8] [9] none (by kernel_rfl) trivial (by simp[D8]) ?_;simp only[go_sem,seval,hmap,n2,n3,d9 hx,d9 hy]
    repeat' (first|refine ho.calls rfl ?_<;>try simp only[go_sem,seval,w1,hxy]|fail)
    refine rS_ Tryz.func58 ?_;simp only[go_sem,seval,hxy]
    repeat' (first|refine E8 ?_ ?_<;>intro hq<;>try simp only[go_sem,seval,w1,hxy,hq]|fail)
    all_goals exact absurd (by assumption) hxy
  ·have n2:¬(i:Int)<(b.length:Int):=by omega
   have n3:¬(i:Int)<(a.length:Int):=by omega
   have he:a=b:=by rw[O_ (by omega),O_ (by omega)] at h2;exact h2
   rw[decide_eq_true he] at hRES;subst hRES;refine rS_ Tryz.func58 ?_;simp only[go_sem,seval,n2,n3]
 ·have n1:¬(a.length:Int)=(b.length:Int):=by omega
  rw[decide_eq_false (fun e=>hlen (by rw[e]))];refine aE_ Tryz.func58 ?_;refine rS_ Tryz.func58 ?_;simp only[go_sem,seval,hmap,n1]
  repeat' (first|refine E8 ?_ ?_<;>intro hq<;>try simp only[go_sem,seval,hmap,n1,hq]|fail)
  all_goals (exfalso;omega)
def aX1 (P:Program) (s:St) (o:Oper) (K:C->List O->Prop):Prop:=
 match o.op with
 | .buildSlice _ 0 _=>Q7 P s o K
 | _=>be2 P s o K
theorem aJ3 {P:Program} {s:St} {o:Oper} {K:C->List O->Prop} (h:aX1 P s o K):G6 P s o K:=by
 unfold aX1 at h;split at h
 ·exact G7 h
 ·exact ar5 h
def bd9 (P:Program) (n:Nat) (K:St->Prop):List Oper->St->Prop
 | [],⟨σ,H⟩=>K ⟨σ,H⟩
 | o :: rest,⟨σ,H⟩=>H9 n o=true/\o.guard=none/\aX1 P ⟨σ,H⟩ o (kR (bd9 P n K rest) ⟨σ,H⟩ o.dst)
theorem ar3 {P:Program} {n:Nat} {K:St->Prop} {ops:Array Oper} {E0:Env}:∀(os:List Oper) (l:List Nat) (s:St) (E:Env) (a:Act),l.map (ops[·]?)=os.map some->RepSt E n s a->Le E0 E->bd9 P n K os s ->
  wpOps P ops (Behind n E0 K) l a E.w
 | [],l,s,E,a,hl,hst,hle,h=>by
  have:l=[]:=by simpa using hl
  subst this;exact⟨rfl,E,s,rfl,hst,hle,h⟩
 | o :: os,l,s,E,a,hl,hst,hle,h=>by
  cases l with
  | nil=>simp at hl
  | cons i l =>
   simp only[A_,List.cons.injEq] at hl;obtain⟨ho,hl⟩:=hl;unfold bd9 at h;obtain⟨hd,hg,h⟩:=h;have hdst:∀d,o.dst=some d->d<n:=fun d hd'=>by
    unfold H9 at hd;rw[hd'] at hd;simpa using hd
   rw[Go.wpOps_cons];refine af1 (n:=n) ho hg ((aJ3 h).run hst (fun v E' c H' h1 h2 h3 h4=>?_));exact ar3 os l _ E' _ hl (hst.put h3 h2 hdst h1) (hle.trans h3) h4
theorem bT1 {P:Program} {n:Nat} {f:FuncId} {n0:Nat} {R:C->List O->Prop} {id:Nat} {ops:Array Oper} {k:List Item} {s:St} (h:bd9 P n (AW P f n n0 R k) ops.toList s):AW P f n n0 R (.code (.region id ops false) :: k) s:=by
 refine AW.of_behind (k':=k) fun _ E a b cs hst=>?_;have hw:=ar3 (ops:=ops) ops.toList (List.range ops.size) s E a (by
  apply List.ext_getElem?;intro j;simp only[n_];by_cases hj:j<ops.size
  ·rw[E_ hj]
   simp[hj]
  ·rw[T_ (by simpa using hj),T_ (by simpa using hj)]
   rfl) hst (Le.refl E) h
 obtain⟨e,a',w',⟨rfl,E',s',rfl,h1,h2,h3⟩,harr⟩:=wp_region (id:=id) hw b k cs;exact⟨a',E',s',harr,h1,h2,h3⟩
attribute [go_sem] aX1.eq_def bd9.eq_1 bd9.eq_2
theorem cd2 {P:Program} {f:FuncId} {n n0:Nat} {R:C->List O->Prop} {k:List Item} {s:St} (r:Nat) {q z e:Nat} {xs:List (List D)} (hr:s.H[r]? = some (.buf q z e xs))
  (h:AW P f n n0 R k ⟨s.σ,s.H.set r (.grow q z e xs)⟩):AW P f n n0 R k s:=by
 refine AW.recast (s':=⟨s.σ,s.H.set r (.grow q z e xs)⟩) (fun h0 E a hst=>?_);obtain⟨h1,h2,h3,h4⟩:=hst.heap.obj r _ hr;have hrl:=(c_.1 hr).1;rcases h4 with ⟨ad,h5,rfl⟩ | ⟨b0,cap,arr,h5,h6,h7,h8,h9,h10,h11,h12⟩
 ·refine⟨E,rfl,Le.refl E,⟨hst.size,hst.defers,?_,hst.slot⟩,h⟩
  refine hst.heap.turn (r0:=r) (o0:=.grow q z e []) (Le.refl E) (by simp[hst.heap.N]) (fun r' hr'=>?_) (fun o' ho'=>?_) (fun _ _ _=>rfl) (fun r' o' b hr' ho' hb=>⟨rfl,fun i hs=>hs⟩) (fun _ hb=>hb) (fun b i hs=>hst.heap.Slt b i hs) ⟨h1,h2,h3,.inl ⟨ad,h5,rfl⟩⟩ (fun b hb=>by have hb':ownB (E.τ r).2=some b:=hb;rw[h5] at hb';cases ad<;>simp[ownB] at hb')
  ·rw[List.getElem?_set_ne (fun e=>hr' e.symm)]
  ·rw[Q_ hrl] at ho'
   exact(Option.some.inj ho').symm
 ·have hx:=List.length_pos_iff.2 h7
  have hblk:(O.buf q z e xs).block E r b0:=by simp[O.block,h5,ownB];omega
  have hpv:=hst.heap.pv r _ _ hr hblk;have hlb:=hst.heap.lt r _ _ hr hblk;let E1:Env:={ E with S:=fun b i=>E.S b i\/(b=b0/\i<xs.length * z) }
  have hl:Le E E1:=by
   refine⟨rfl,rfl,rfl,b_ _,b_ _,fun _ _=>rfl,fun _ _=>⟨b_ _,fun _=>rfl⟩,fun _ _ hs=>.inl hs,fun _ _ _=>rfl,fun _ _ _=>rfl,fun b i hs=>?_,fun _ hp=>.inl hp,fun _ _ _ _ _ hh=>hh⟩;rcases hs with hs | ⟨rfl,_⟩
   ·exact .inl hs
   ·exact .inr (.inr hpv)
  refine⟨E1,rfl,hl,⟨hst.size,hst.defers,?_,fun t=>(hst.slot t).le hl⟩,h⟩;refine hst.heap.turn (r0:=r) (o0:=.grow q z e xs) hl (by simp[E1,hst.heap.N]) (fun r' hr'=>?_) (fun o' ho'=>?_) (fun _ _ _=>rfl) (fun r' o' b hr' ho' hb=>⟨rfl,fun i hs=>?_⟩) (fun _ hb=>hb) (fun b i hs=>?_) ⟨h1,h2,h3,.inr ⟨b0,cap,arr,h5,h6,by omega,h8,h9,h10,fun i j x c hi hj=>?_,fun i hi hS=>?_⟩⟩ (fun b hb=>⟨?_,?_,?_⟩)
  ·rw[List.getElem?_set_ne (fun e=>hr' e.symm)]
  ·rw[Q_ hrl] at ho'
   exact(Option.some.inj ho').symm
  ·rcases hs with hs | ⟨rfl,_⟩
   ·exact hs
   ·exact absurd (hst.heap.apart r' r o' _ _ ho' hr hb hblk) hr'
  ·rcases hs with hs | ⟨rfl,_⟩
   ·exact hst.heap.Slt b i hs
   ·exact hlb
  ·obtain⟨v,k2,k3,k4⟩:=h11 i j x c hi hj
   have hil:i<xs.length:=(c_.1 hi).1;have hjl:j<z:=by rw[<-h2 x (d_ hi)];exact(c_.1 hj).1
   have hm:(i+1) * z<=xs.length * z:=Nat.mul_le_mul_right z (by omega);rw[Nat.add_mul] at hm;exact⟨.inr ⟨rfl,by omega⟩,v,k2,k3,k4.le hl⟩
  ·rcases hS with hS | ⟨_,hlt⟩
   ·exact h12 i hS
   ·omega
  ·have hb':(O.buf q z e xs).block E r b:=hb
   exact hst.heap.pv r _ _ hr hb'
  ·have hb':(O.buf q z e xs).block E r b:=hb
   exact hst.heap.lt r _ _ hr hb'
  ·have hb':(O.buf q z e xs).block E r b:=hb
   exact fun r' o' hr' ho' hb2=>hr' (hst.heap.apart r' r o' _ b ho' hr hb2 hb')
def ay4 (rs:List RV) (m:Nat):List (List D):=(List.range m).map fun i=>[.sl ((stg rs i).map fcE)]
theorem bI7 (rs:List RV) (m:Nat):ay4 rs (m+1)=ay4 rs m++[[.sl ((stg rs m).map fcE)]]:=by simp[ay4,List.range_succ]
theorem bI8 (rs:List RV):ay4 rs 1=[[.sl []]]:=rfl
@[go_sem] theorem bB9 (rs:List RV) (m:Nat):(ay4 rs m).length=m:=by simp[ay4]
theorem as8 (rs:List RV) {i m:Nat} (h:i<m):(ay4 rs m)[i]? = some [.sl ((stg rs i).map fcE)]:=by
 unfold ay4;rw[n_,E_ h];rfl
def cf5 (rs:List RV):Prop:=∀r,r∈rs->r.neg=[]
theorem br7 {rs:List RV} (h:cf5 rs) (F:List FcV):Z9 rs F F=Z9 rs F []:=by
 unfold Z9;congr 2;refine List.filter_congr fun r hr=>?_;unfold RV.fires;rw[h r hr];rfl
theorem as9 (rs:List RV) (hr:rs.length<=2000000) (hp:cf5 rs):Gives Tryz.prog 28 [.sl (rs.map rvE)] (.d (.sl (ay4 rs (top rs+1)))):=by
 have hmx:maxLen=9223372036854775807:=rfl;obtain⟨t1,t2,t3⟩:=Y7 rs;obtain⟨RES,hRES⟩:∃RES,ay4 rs (top rs+1)=RES:=⟨_,rfl⟩;rw[hRES];refine aE_ Tryz.func28 ?_;refine l9 Tryz.func28 mixed 3 _ _ (by kernel_rfl) ?_;simp only[go_sem,seval,run.eq_1];refine bT1 ?_;simp only[go_sem,seval]
 repeat' (first|refine I6 (fun Bz=>?_)<;>try simp only[go_sem,seval]|fail)
 refine AW.treeB 0 rfl (by simp[D.flat]) ?_;refine cd2 0 rfl ?_;refine rS_ Tryz.func28 ?_;simp only[go_sem,seval];refine AW.lp [0] (fun k:Nat=>[(3,.own 0 k)]) (fun _ k=>[.grow k 1 29 (ay4 rs (k+1))]) (fun k=>k<=top rs) (fun k=>top rs - k) 0 (l_ _) (by refine⟨by simp[mkS,bI8],by simp[mkS,bI8],by simp only[mkS,e_,i_,O.refsLt,C.refsLt,C.refsLt1,l7];first | done | rfl | (simp;done),?_⟩;simp[mkS,Abs.get,C.refsLtT,C.refsLt,C.refsLt1]) ?_;intro k hk hnk;have w1:IntKind.i64.wrap ((k:Int)+1 - 1)=(k:Int):=by rw[l6 (by omega) (by omega)];omega
 have n1:(k:Int)<(k:Int)+1:=by omega
 have hat:=as8 rs (i:=k) (m:=k+1) (by omega);have hl1:=af8 rs k;have hl2:=af8 rs (k+1);have hc:=ax4 rs (stg rs k) (Y8 rs k) (by omega) hr;rw[br7 hp,show Z9 rs (stg rs k) []=stg rs (k+1) from rfl] at hc;have hsf:=aK4 (stg rs (k+1)) (stg rs k) (by omega) (by omega);by_cases hs:stg rs (k+1)=stg rs k
 ·rw[decide_eq_true hs] at hsf
  have hkt:k=top rs:=bW0 hs (fun j hj=>t3 j (by omega));rw[<-hkt] at hRES;rw[<-hRES];refine rS_ Tryz.func28 ?_;simp only[go_sem,seval,w1,n1,d9 hat]
  repeat' (first|((first|refine hc.calls rfl ?_|refine hsf.calls rfl ?_)<;>(try simp only[go_sem,seval,w1,n1,d9 hat]))|fail)
 ·rw[decide_eq_false hs] at hsf
  have hkt:k<top rs:=by
   rcases Nat.lt_or_ge k (top rs) with h | h
   ·exact h
   ·rw[show k=top rs by omega] at hs;exact absurd t2 hs
  refine rS_ Tryz.func28 ?_;simp only[go_sem,seval,w1,n1,d9 hat]
  repeat' (first|((first|refine hc.calls rfl ?_|refine hsf.calls rfl ?_|refine⟨sd,?_⟩)<;>(try simp only[go_sem,seval,w1,n1,d9 hat]))|fail)
  refine hnk (k+1) _ (by omega) (by omega) (by refine⟨by simp[mkS,bI7],by simp[mkS,bI7],by simp only[mkS,e_,i_,O.refsLt,C.refsLt,C.refsLt1,l7];first | done | rfl | (simp;done),?_⟩;simp[mkS,Abs.get,C.refsLtT,C.refsLt,C.refsLt1])
theorem am4 (a b:FcV):Gives Tryz.prog 124 [.agg [.str a.1,.sl (a.2.map V.enc)],.agg [.str b.1,.sl (b.2.map V.enc)]] (.d (.int .i64 (a.cmp b))):=by
 have h:Gives Tryz.prog 124 [.agg (fcE a),.agg (fcE b)] (.d (.int .i64 (a.cmp b))):=bt8 a.1 b.1 a.2 b.2;rw[o5,o5] at h;exact h
theorem aM6 (l:List FcV) (f:FcV) (ha:ai0 FcV.cmp l) (hl:l.length<=1000000):Gives Tryz.prog 82 [.sl (l.map fcE),.agg (fcE f)] (.d (.sl ((ad8 FcV.cmp l f).map fcE))):=by
 have hmx:maxLen=9223372036854775807:=rfl;have hmap:∀x:List FcV,(x.map fcE).length=x.length:=fun x=>h_ _;obtain⟨RES,hRES⟩:∃RES,ad8 FcV.cmp l f=RES:=⟨_,rfl⟩;have hFe:=o5 f;rw[hRES,hFe];refine aE_ Tryz.func82 ?_;refine rS_ Tryz.func82 ?_;simp only[go_sem,seval,hmap];refine AW.lp [0,3] (fun k:Nat=>[(5,.d (.int .i64 (k:Int)))]) (fun H _=>H) (fun k=>k<=l.length/\∀i y,k<=i->l[i]? = some y->¬y.cmp f<0) (fun k=>k) l.length ⟨b_ _,fun i y hi hy=>by have:=(c_.1 hy).1;omega⟩ A7 ?_;intro k hk hnk;obtain⟨k1,k2⟩:=hk;have stop:(∀i y,i<k->l[i]? = some y->y.cmp f<0)->ad8 FcV.cmp l f=if ae7 FcV.cmp l k f then l else l.take k++f :: l.drop k:=fun h=>aU4 FcV.cmp_lin l f k ha k1 h k2
 by_cases hkz:k=0
 ·have n1:¬(0:Int)<(k:Int):=by omega
  have hst:=stop (fun i y hi=>by omega);clear stop hnk;rw[hRES] at hst;have hks:(0:Int)<=(k:Int):=by omega
  cases hlk:l[k]? with
  | none =>
   have hkl:k=l.length:=by have:=o_.1 hlk;omega
   have m1:¬(k:Int)<(l.length:Int):=by omega
   have hq:ae7 FcV.cmp l k f=false:=by unfold ae7;rw[hlk]
   rw[hq,if_neg (by simp)] at hst;rw[hst];refine rS_ Tryz.func82 ?_;simp only[go_sem,seval,n1,hmap,m1,hks];skip
   repeat' (first|refine⟨sd,?_⟩<;>try simp only[go_sem,seval,n1,hmap,m1,hks]|fail)
   all_goals simp[hFe,p_,t_]
  | some z =>
   have m1:(k:Int)<(l.length:Int):=by have:=(c_.1 hlk).1;omega
   have hz:=am4 z f;by_cases hzf:z.cmp f=0
   ·have hq:ae7 FcV.cmp l k f=true:=by unfold ae7;rw[hlk];simp[hzf]
    rw[hq,if_pos rfl] at hst;rw[hzf] at hz;rw[hst];refine rS_ Tryz.func82 ?_;simp only[go_sem,seval,n1,hmap,m1,hks,d9 hlk,o5];skip
    repeat' (first|refine hz.callQ rfl ?_<;>try simp only[go_sem,seval,n1,hmap,m1,hks,d9 hlk,o5]|fail)
   ·have hq:ae7 FcV.cmp l k f=false:=by unfold ae7;rw[hlk];simp[hzf]
    rw[hq,if_neg (by simp)] at hst;rw[hst];refine rS_ Tryz.func82 ?_;simp only[go_sem,seval,n1,hmap,m1,hks,d9 hlk,o5,hzf];skip
    repeat' (first|((first|refine hz.callQ rfl ?_|refine⟨sd,?_⟩)<;>(try simp only[go_sem,seval,n1,hmap,m1,hks,d9 hlk,o5,hzf]))|fail)
    all_goals first | exact absurd (by assumption) hzf | skip
    all_goals simp[hFe,p_,t_]
 ·obtain⟨y,hy⟩:∃y,l[k - 1]? = some y:=⟨_,k_ (by omega)⟩
  have n1:(0:Int)<(k:Int):=by omega
  have w1:IntKind.i64.wrap ((k:Int) - 1)=((k - 1:Nat):Int):=by rw[l6 (by omega) (by omega)];omega
  have n2:((k - 1:Nat):Int)<(l.length:Int):=by omega
  have he:=am4 y f;by_cases hc:y.cmp f<0
  ·have hc':¬(0:Int)<=y.cmp f:=by omega
   have hst:=stop (fun i z hi hz=>by
    by_cases e:i=k - 1
    ·subst e;rw[hz] at hy;cases hy;exact hc
    ·exact FcV.cmp_lin.tr _ _ _ (aI2 ha (show i<k - 1 by omega) hz hy) hc)
   clear stop hnk;rw[hRES] at hst;have hks:(0:Int)<=(k:Int):=by omega
   cases hlk:l[k]? with
   | none =>
    have hkl:k=l.length:=by have:=o_.1 hlk;omega
    have m1:¬(k:Int)<(l.length:Int):=by omega
    have hq:ae7 FcV.cmp l k f=false:=by unfold ae7;rw[hlk]
    rw[hq,if_neg (by simp)] at hst;rw[hst];refine rS_ Tryz.func82 ?_;simp only[go_sem,seval,n1,w1,n2,d9 hy,hmap,o5,hc,hc',m1,hks]
    repeat' (first|((first|refine he.callQ rfl ?_|refine⟨sd,?_⟩)<;>(try simp only[go_sem,seval,n1,w1,n2,d9 hy,hmap,o5,hc,hc',m1,hks]))|fail)
    all_goals simp[hFe,p_,t_]
   | some z =>
    have m1:(k:Int)<(l.length:Int):=by have:=(c_.1 hlk).1;omega
    have hz:=am4 z f;by_cases hzf:z.cmp f=0
    ·have hq:ae7 FcV.cmp l k f=true:=by unfold ae7;rw[hlk];simp[hzf]
     rw[hq,if_pos rfl] at hst;rw[hzf] at hz;rw[hst];refine rS_ Tryz.func82 ?_;simp only[go_sem,seval,n1,w1,n2,d9 hy,hmap,o5,hc,hc',m1,hks,d9 hlk,o5]
     repeat' (first|((first|refine he.callQ rfl ?_|refine hz.callQ rfl ?_)<;>(try simp only[go_sem,seval,n1,w1,n2,d9 hy,hmap,o5,hc,hc',m1,hks,d9 hlk,o5]))|fail)
    ·have hq:ae7 FcV.cmp l k f=false:=by unfold ae7;rw[hlk];simp[hzf]
     rw[hq,if_neg (by simp)] at hst;rw[hst];refine rS_ Tryz.func82 ?_;simp only[go_sem,seval,n1,w1,n2,d9 hy,hmap,o5,hc,hc',m1,hks,d9 hlk,o5,hzf]
     repeat' (first|((first|refine he.callQ rfl ?_|refine hz.callQ rfl ?_|refine⟨sd,?_⟩)<;>(try simp only[go_sem,seval,n1,w1,n2,d9 hy,hmap,o5,hc,hc',m1,hks,d9 hlk,o5,hzf]))|fail)
     all_goals first | exact absurd (by assumption) hzf | skip
     all_goals simp[hFe,p_,t_]
  ·have hc':(0:Int)<=y.cmp f:=by omega
   refine rS_ Tryz.func82 ?_;simp only[go_sem,seval,n1,w1,n2,d9 hy,hmap,o5,hc,hc']
   repeat' (first|refine he.callQ rfl ?_<;>try simp only[go_sem,seval,n1,w1,n2,d9 hy,hmap,o5,hc,hc']|fail)
   refine hnk (k - 1) _ ⟨by omega,fun i z hi hz=>?_⟩ (by omega) A7;by_cases e:i=k - 1
   ·subst e;rw[hz] at hy;cases hy;exact hc
   ·exact k2 i z (by omega) hz
theorem bl0 (rel:List UInt8) (vs:List V) (hl:vs.length<=100000000):ACalls Tryz.prog 34 [.d (.agg [.str rel,.sl (vs.map V.enc)])] [.hole] (fun c H'=>c=.agg [.d (.str rel),.own 0 1]/\∃e B,H'=[.tree 1 4 e (vs.map V.enc) B none]):=by
 have hct:=ah4 vs hl;unfold cb7 at hct;refine aE_ Tryz.func34 ?_;refine l9 Tryz.func34 mixed 3 _ _ (by kernel_rfl) ?_;simp only[go_sem,seval,run.eq_1];refine AW.drawA mixed #[true,true,true,true,true,true,false] [(1,.box [.d (.str rel),.d (.sl (vs.map V.enc))])] [] [0,1,2,3,4,5] [6] none (by kernel_rfl) trivial (by simp[D8]) ?_;simp only[go_sem,seval]
 repeat' (first|refine ACalls.fresh (ds:=[.sl (vs.map V.enc)]) (m:=1) hct [0] rfl rfl (by simp) (by simp) ?_<;>(rintro c H' ⟨rfl,e1,B1,rfl⟩ _;refine⟨rfl,rfl,?_⟩)<;>try simp only[go_sem,seval]|fail)
 refine rS_ Tryz.func34 ?_;simp only[go_sem,seval]
 repeat' (first|exact⟨_,_,rfl⟩|fail)
theorem aY8 {u:List V} {x:Rl} {i:Int} {c:List Gl} {r:RV}:∀m k,r∈aK6 u x i c k m->∃w,V5 u c (E5 u (x.arity+x.locals).toNat w)=true/\r=aK8 x i c (E5 u (x.arity+x.locals).toNat w)
 | 0,k,h=>by simp[aK6] at h
 | m+1,k,h=>by
  rw[aY7] at h;rcases G_.1 h with h | h
  ·unfold rvK at h
   split at h
   ·rename_i hf
    simp at h;exact⟨k,hf,h⟩
   ·simp at h
  ·exact aY8 m (k+1) h
theorem aZ1 {u:List V} {x:Rl} {n:Nat} {r:RV}:∀(cs:List (List Gl)) (i:Int),r∈ay7 u x n i cs->∃c,c∈cs/\∃j w,V5 u c (E5 u (x.arity+x.locals).toNat w)=true/\r=aK8 x j c (E5 u (x.arity+x.locals).toNat w)
 | [],i,h=>by simp[ay7] at h
 | c :: cs,i,h=>by
  rw[aK7] at h;rcases G_.1 h with h | h
  ·obtain⟨w,h1,h2⟩:=aY8 _ _ h
   exact⟨c,by simp,i,w,h1,h2⟩
  ·obtain⟨c',h1,h2⟩:=aZ1 cs (i+1) h
   exact⟨c',by simp[h1],h2⟩
theorem ag8 {u:List V} {r:RV}:∀rels:List Rl,r∈Pg.gnd u rels->∃x,x∈rels/\∃c,c∈x.body.clsS/\∃j w,V5 u c (E5 u (x.arity+x.locals).toNat w)=true/\r=aK8 x j c (E5 u (x.arity+x.locals).toNat w)
 | [],h=>by simp[Pg.gnd] at h
 | x :: xs,h=>by
  rw[show Pg.gnd u (x :: xs)=ay7 u x (x.ways u) 0 x.body.clsS++Pg.gnd u xs from rfl] at h;rcases G_.1 h with h | h
  ·obtain⟨c,h1,h2⟩:=aZ1 _ _ h
   exact⟨x,by simp,c,h1,h2⟩
  ·obtain⟨y,h1,h2⟩:=ag8 xs h
   exact⟨y,by simp[h1],h2⟩
theorem aw2 {p:Pg} {u:List V} {rs:List RV} (h:p.gr u=some rs):rs=Pg.gnd u p.rels/\rs.length<=2000:=by
 unfold Pg.gr at h;split at h
 ·rename_i h2
  obtain rfl:=Option.some.inj h;exact⟨rfl,h2.2⟩
 ·cases h
theorem bQ4 {p:Pg} {u:List V} {rs:List RV} (hp:M9 p=true) (hu:Uni u) (h:p.gr u=some rs):∀r,r∈rs->(∀v,v∈r.head.2->v∈u)/\r.head.2.length<=12:=fun r hr=>by
 obtain⟨rfl,_⟩:=aw2 h;obtain⟨x,hx,c,_,j,w,_,rfl⟩:=ag8 _ hr;obtain⟨z1,z2,z3,z4⟩:=Pg.dims hp hx;have hvl:=M0 u (x.arity+x.locals).toNat w;refine⟨fun v hv=>L9 hu.pos _ _ v (List.mem_of_mem_take hv),?_⟩;simp only[aK8,List.length_take];omega
theorem bs2 {p:Pg} {u:List V} {rs:List RV} (hp:M9 p=true) (hu:Uni u) (h:p.gr u=some rs) (F G:List FcV):∀f,f∈Z9 rs F G->(∀v,v∈f.2->v∈u)/\f.2.length<=12:=fun f hf=>by
 obtain⟨r,h1,_,rfl⟩:=Y0.1 hf;exact bQ4 hp hu h r h1
def Fc.toV (f:Fc):FcV:=(f.rel,f.args.map Tm.V)
theorem aD6 {l:List (List D)} {x:List D} (h:x∈l):wtL x<=wtR l:=by
 have:=ai1 l x h;omega
theorem bL1 (l:List (List D)):l.length<=wtR l:=by
 have:=af7 l 0;simp[bo6] at this;omega
theorem bN8 {u:List V} (hu:Uni u) {l:List FcV} (h:∀f,f∈l->(∀v,v∈f.2->v∈u)/\f.2.length<=12):∀f,f∈l->wtR (f.2.map V.enc)<=2000000:=fun f hf=>uniwts hu f.2 (h f hf).1 (h f hf).2
theorem ag3 {u:List Tm} (h:wtR (u.map Tm.enc)<=1048576):(∀t,t∈u->wtL t.enc<=1048576)/\u.length<=9000000:=
 ⟨fun t ht=>R_ (aD6 (x_.2 ⟨t,ht,rfl⟩)) h,by have:=bL1 (u.map Tm.enc);simp at this;omega⟩
theorem ba7 {p:Pg}:∀{l:List Rl},p.okL l=true->∀j x,l[j]? = some x->p.relOk (p.rels.length - (l.length - j)) x=true
 | [],_,j,x,h=>by simp at h
 | r :: q,ho,0,x,h=>by
  simp only[Pg.okL,j_] at ho;simp at h;subst h;exact ho.1
 | r :: q,ho,j+1,x,h=>by
  simp only[Pg.okL,j_] at ho;have:=ba7 ho.2 j x (by simpa using h);simpa using this
theorem bw2 {p:Pg} (hp:M9 p=true) {i:Nat} {x:Rl} (h:p.rels[i]? = some x):p.find x.name=(i:Int):=by
 unfold M9 at hp;rw[j_] at hp;have h1:=ba7 hp.2 i x h;have hi:=(c_.1 h).1;rw[show p.rels.length - (p.rels.length - i)=i by omega] at h1;unfold Pg.relOk at h1;simp only[j_,decide_eq_true_eq] at h1;exact h1.1.1.1.1.1.1.1
theorem aX8 {f:Fc} (h:f.args.all M7=true):f.enc=fcE (Fc.toV f):=by
 rw[Fc.enc_eq,o5];unfold Fc.toV;dsimp only;rw[P_,List.map_congr_left (g:=V.enc∘Tm.V) (fun t ht=>Tm.enc_V (r_.1 h t ht))]
theorem aS6 {p:Pg} {u:List V} {rs:List RV} (h:p.all false=true) (hg:p.gr u=some rs):cf5 rs:=fun r hr=>by
 obtain⟨rfl,_⟩:=aw2 hg;obtain⟨x,hx,c,hc,j,w,_,rfl⟩:=ag8 _ hr;unfold Pg.all at h;rw[j_] at h;have ho:=r_.1 h.2 x hx;unfold Gl.only at ho;show z8 _ c=[];unfold z8;have:c.filter (fun g=>decide (g.kind=10))=[]:=List.filter_eq_nil_iff.2 fun g hgc=>by
  have h1:=r_.1 ho g (aH7 hc hgc);unfold Gl.onlyK at h1;simp only[j_,decide_eq_true_eq] at h1;simpa using h1.1
 rw[this];rfl
theorem cb3 {rs:List RV} {f:FcV} {i:Nat} (h1:i<=top rs) (h2:f∈stg rs i) (h3:∀j,j<i->f∉stg rs j):hgt rs f=(i:Int):=by
 unfold hgt;rw[if_pos (bo8 rs h1 f h2)];obtain⟨k1,k2,k3⟩:=ai8 (p:=fun k=>decide (f∈stg rs k)) (n:=top rs+1);generalize aJ9 (fun k=>decide (f∈stg rs k)) (top rs+1)=k at k1 k2 k3;rcases Nat.lt_trichotomy k i with e | e | e
 ·exact absurd (of_decide_eq_true (k3 (by omega))) (h3 k e)
 ·rw[e]
 ·have:=k2 i e;simp[h2] at this
theorem cb2 {rs:List RV} {f:FcV} (h:f∉stg rs (top rs)):hgt rs f=-1:=by unfold hgt;rw[if_neg h]
def Pg.hgtF (p:Pg) (u:List Tm) (f:Fc):Int:=
 if p.all false=true/\U3 u=true/\f.args.all M7=true then (match p.gr (u.map Tm.V) with | some rs=>hgt rs (Fc.toV f) | none=>-1) else -1
def bz7 (p:Pg) (u:List Tm):Option (List RV):=if p.all false=true/\U3 u=true then p.gr (u.map Tm.V) else none
theorem P6 (p:Pg) (u:List Tm) (hw:wtL p.enc<=1048576) (hwu:∀t,t∈u->wtL t.enc<=1048576) (hlu:u.length<=9000000):Gives Tryz.prog 27 [.agg p.enc,.sl (u.map Tm.enc)] (grC (bz7 p u)):=by
 have ha:=ay9 p hw;have hb:=ay8 u hwu hlu;unfold bz7;by_cases h1:p.all false=true
 ·by_cases h2:U3 u=true
  ·rw[h1] at ha
   rw[h2] at hb;rw[if_pos ⟨h1,h2⟩];obtain⟨hu,he⟩:=Uni.of h2;have hp:M9 p=true:=by unfold Pg.all at h1;rw[j_] at h1;exact h1.1
   have hee:u.map Tm.enc=(u.map Tm.V).map V.enc:=by rw[<-D5,<-he]
   have hgr:=az1 p (u.map Tm.V) hp hw hu;rw[hee] at hb |-;generalize p.gr (u.map Tm.V)=O at *;cases O<;>· (
    first | rw[L8] at hgr |- | rw[ak4] at hgr |-
    refine aE_ Tryz.func27 ?_;refine rS_ Tryz.func27 ?_;simp only[go_sem,seval]
    repeat' (first|((first|refine ha.calls rfl ?_|refine hb.calls rfl ?_|refine hgr.calls rfl ?_)<;>(try simp only[go_sem,seval]))|fail)
    skip)
  ·rw[if_neg (fun h=>h2 h.2),L8]
   simp only[z_] at h2;rw[h1] at ha;rw[h2] at hb;refine aE_ Tryz.func27 ?_;refine rS_ Tryz.func27 ?_;simp only[go_sem,seval]
   repeat' (first|((first|refine ha.calls rfl ?_|refine hb.calls rfl ?_)<;>(try simp only[go_sem,seval]))|fail)
 ·rw[if_neg (fun h=>h1 h.1),L8]
  simp only[z_] at h1;rw[h1] at ha;refine aE_ Tryz.func27 ?_;refine rS_ Tryz.func27 ?_;simp only[go_sem,seval]
  repeat' (first|refine ha.calls rfl ?_<;>try simp only[go_sem,seval]|fail)
theorem aa2 (rs:List RV) (f:FcV) (hr:rs.length<=2000000):Gives Tryz.prog 31 [.sl (ay4 rs (top rs+1)),.agg (fcE f)] (.d (.int .i64 (hgt rs f))):=by
 obtain⟨K,hK⟩:∃K,hgt rs f=K:=⟨_,rfl⟩;rw[hK,o5];obtain⟨t1,_,_⟩:=Y7 rs;refine aE_ Tryz.func31 ?_;refine rS_ Tryz.func31 ?_;simp only[go_sem,seval];refine AW.lp [3,7,8] (fun i:Nat=>[(9,.d (.int .i64 (i:Int)))]) (fun H _=>H) (fun i=>i<=top rs+1/\∀j,j<i->f∉stg rs j) (fun i=>top rs+1 - i) 0 ⟨l_ _,fun j hj=>by omega⟩ A7 ?_;intro i hi hni;obtain⟨i1,i2⟩:=hi;by_cases hit:i<top rs+1
 ·have n1:(i:Int)<(top rs:Int)+1:=by omega
  have hat:=as8 rs hit;have hsl:=af8 rs i;have w1:IntKind.i64.wrap ((i:Int)+1)=(i:Int)+1:=l6 (by omega) (by omega);by_cases hf:f∈stg rs i
  ·rw[cb3 (by omega) hf i2] at hK
   subst hK;have he:=Y4 (stg rs i) f (by omega) (Y8 rs i);rw[decide_eq_true hf,o5] at he;refine rS_ Tryz.func31 ?_;simp only[go_sem,seval,n1,d9 hat]
   repeat' (first|refine he.calls rfl ?_<;>try simp only[go_sem,seval,n1,d9 hat]|fail)
  ·have he:=Y4 (stg rs i) f (by omega) (Y8 rs i)
   rw[decide_eq_false hf,o5] at he;refine rS_ Tryz.func31 ?_;simp only[go_sem,seval,n1,d9 hat]
   repeat' (first|refine he.calls rfl ?_<;>try simp only[go_sem,seval,n1,d9 hat,w1]|fail)
   refine hni (i+1) _ ⟨by omega,fun j hj=>?_⟩ (by omega) A7;rcases Nat.lt_or_ge j i with e | e
   ·exact i2 j e
   ·rw[show j=i by omega];exact hf
 ·have n1:¬(i:Int)<(top rs:Int)+1:=by omega
  rw[cb2 (i2 _ (by omega))] at hK;subst hK;refine rS_ Tryz.func31 ?_;simp only[go_sem,seval,n1]
theorem az0 (p:Pg) (u:List Tm) (f:Fc) (hw:wtL p.enc<=1048576) (hwu:wtR (u.map Tm.enc)<=1048576) (hwf:wtL f.enc<=1048576):Gives Tryz.prog 7 [.agg p.enc,.sl (u.map Tm.enc),.agg f.enc] (.d (.int .i64 (Pg.hgtF p u f))):=by
 have hpr:=P6 p u hw (ag3 hwu).1 (ag3 hwu).2;have hfa:wtR (f.args.map Tm.enc)<=1048576:=by rw[Fc.enc_eq] at hwf;simp only[wtL,D.wt] at hwf;omega
 have hto:=R9 f.args (fun t ht=>by have:=aD6 (x_.2 ⟨t,ht,rfl⟩:t.enc∈f.args.map Tm.enc);omega);obtain⟨K,hK⟩:∃K,Pg.hgtF p u f=K:=⟨_,rfl⟩;rw[hK];unfold Pg.hgtF at hK;unfold bz7 at hpr;by_cases h12:p.all false=true/\U3 u=true
 ·rw[if_pos h12] at hpr
  obtain⟨hu,he⟩:=Uni.of h12.2;cases hg:p.gr (u.map Tm.V) with
  | none =>
   rw[hg] at hK;have hK':K=-1:=by rw[<-hK];split<;>rfl
   rw[hg,L8] at hpr;rw[hK',Fc.enc_eq];refine aE_ Tryz.func7 ?_;refine rS_ Tryz.func7 ?_;simp only[go_sem,seval]
   repeat' (first|refine hpr.calls rfl ?_<;>try simp only[go_sem,seval]|fail)
  | some rs =>
   rw[hg,ak4] at hpr;by_cases hq:f.args.all M7=true
   ·rw[if_pos ⟨h12.1,h12.2,hq⟩,hg] at hK
    dsimp only at hK;rw[hq] at hto;obtain⟨_,hrl⟩:=aw2 hg;have hst:=as9 rs (by omega) (aS6 h12.1 hg);have hht:=aa2 rs (Fc.toV f) (by omega);rw[hK,<-aX8 hq] at hht;rw[Fc.enc_eq] at hht |-;generalize ay4 rs (top rs+1)=SD at *;refine aE_ Tryz.func7 ?_;refine rS_ Tryz.func7 ?_;simp only[go_sem,seval]
    repeat' (first|((first|refine hpr.calls rfl ?_|refine hto.calls rfl ?_|refine hst.callQ rfl ?_|refine hht.callQ rfl ?_)<;>(try simp only[go_sem,seval]))|fail)
   ·rw[if_neg (fun h=>hq h.2.2)] at hK
    simp only[z_] at hq;rw[hq] at hto;rw[<-hK,Fc.enc_eq];refine aE_ Tryz.func7 ?_;refine rS_ Tryz.func7 ?_;simp only[go_sem,seval]
    repeat' (first|((first|refine hpr.calls rfl ?_|refine hto.calls rfl ?_)<;>(try simp only[go_sem,seval]))|fail)
 ·rw[if_neg h12,L8] at hpr
  rw[if_neg (fun h=>h12 ⟨h.1,h.2.1⟩)] at hK;rw[<-hK,Fc.enc_eq];refine aE_ Tryz.func7 ?_;refine rS_ Tryz.func7 ?_;simp only[go_sem,seval]
  repeat' (first|refine hpr.calls rfl ?_<;>try simp only[go_sem,seval]|fail)
theorem bK8 {p:Pg} (h:p.all false=true):M9 p=true:=by unfold Pg.all at h;rw[j_] at h;exact h.1
theorem aV8 (l:List FcV) (hl:l.length<=2000000) (hw:∀x,x∈l->x.2.length<=100000000):ACalls Tryz.prog 29 [.d (.sl (l.map fcE))] [.hole] (fun c H'=>c=.own 0 1/\∃e B,H'=[.tree 1 2 e (l.map fcE) B none]):=by
 have hmx:maxLen=9223372036854775807:=rfl;refine aE_ Tryz.func29 ?_;refine l9 Tryz.func29 mixed 5 _ _ (by kernel_rfl) ?_;simp only[go_sem,seval,run.eq_1];refine AW.adoptT 3 2 33 (by decide) rfl ?_;refine rS_ Tryz.func29 ?_;simp only[go_sem,seval];refine AW.rng l [7,8] 9 7 (fun p:List FcV×(Nat->Prop)=>[(3,.own 1 p.1.length)]) (fun _ p=>[.hole,.tree p.1.length 2 33 (p.1.map fcE) p.2 none]) (fun r p=>p.1++r=l) ([],fun _=>False) rfl (by simp) rfl A7 (fun i x r p hxi hdr hlt hm hinv hnext=>?_) (fun p hinv=>?_)
 ·have hpl:p.1.length+(r.length+1)=l.length:=by rw[<-hinv];simp
  have hx:=bl0 x.1 x.2 (hw x (d_ hxi));have hX:=o5 x;refine AW.hole ?_;refine l9 Tryz.func29 mixed 9 _ _ (by kernel_rfl) ?_;simp only[go_sem,seval,run.eq_1,hlt,d9 hxi,o5];refine AW.regT ?_;simp only[go_sem,seval]
  repeat' (first|((first|refine ACalls.fresh (ds:=[.agg [.str x.1,.sl (x.2.map V.enc)]]) (m:=1) hx [2] rfl rfl (by simp) (by simp) ?_<;>(rintro c H' ⟨rfl,e1,B1,rfl⟩ _;refine⟨rfl,rfl,?_⟩)|refine I6 (fun Bz=>?_)|refine⟨sd,?_⟩)<;>(try simp only[go_sem,seval,hlt,d9 hxi]))|fail)
  refine rS_ Tryz.func29 ?_;simp only[go_sem,seval];try simp(disch:=omega) only[l6]
  refine hnext (p.1++[x],Bz) _ (by simp[<-hinv]) (by refine⟨by simp[mkS,hX],by simp[mkS,hX],by simp only[mkS,e_,i_,O.refsLt,C.refsLt,C.refsLt1,l7];first | done | rfl | (simp;done),?_⟩;simp[mkS,Abs.get,C.refsLtT,C.refsLt,C.refsLt1,hX])
 ·simp only[g_] at hinv
  subst hinv;refine l9 Tryz.func29 mixed 7 _ _ (by kernel_rfl) ?_;simp only[go_sem,seval,run.eq_1];refine AW.place 2 1 0 rfl rfl rfl (by decide) ?_;refine rS_ Tryz.func29 ?_;simp only[go_sem,seval];all_goals exact⟨_,_,rfl⟩
theorem aY3 {p:Pg} {u:List V} {rs:List RV} (hp:M9 p=true) (hu:Uni u) (h:p.gr u=some rs) (k:Nat):∀f,f∈stg rs k->(∀v,v∈f.2->v∈u)/\f.2.length<=12:=fun f hf=>by
 cases k with
 | zero=>simp[stg] at hf
 | succ k=>exact bs2 hp hu h _ _ f hf
theorem br8 {p:Pg} {u:List Tm} {rs:List RV} (h:bz7 p u=some rs):rs.length<=2000/\cf5 rs/\∀k f,f∈stg rs k->wtR (f.2.map V.enc)<=2000000/\f.2.length<=12:=by
 unfold bz7 at h;split at h
 ·rename_i h12
  obtain⟨hu,_⟩:=Uni.of h12.2;exact⟨(aw2 h).2,aS6 h12.1 h,fun k f hf=>⟨bN8 hu (aY3 (bK8 h12.1) hu h k) f hf,(aY3 (bK8 h12.1) hu h k f hf).2⟩⟩
 ·cases h
def lmR (o:Option (List RV)) (c:C) (H:List O):Prop:=match o with
 | some rs=>c=.tup [.own 0 1,.d (.int .i64 (top rs:Int)),.d (.bool true)]/\∃e B,H=[.tree 1 2 e ((stg rs (top rs)).map fcE) B none]
 | none=>c=.tup [.d (.sl []),.d (.int .i64 0),.d (.bool false)]/\H=[.hole]
theorem aG9 (p:Pg) (u:List Tm) (hw:wtL p.enc<=1048576) (hwu:wtR (u.map Tm.enc)<=1048576):ACalls Tryz.prog 6 [.d (.agg p.enc),.d (.sl (u.map Tm.enc))] [.hole] (lmR (bz7 p u)):=by
 have hmx:maxLen=9223372036854775807:=rfl;have hpr:=P6 p u hw (ag3 hwu).1 (ag3 hwu).2;cases hg:bz7 p u with
 | none =>
  unfold lmR;dsimp only;rw[hg,L8] at hpr;refine aE_ Tryz.func6 ?_;refine rS_ Tryz.func6 ?_;simp only[go_sem,seval]
  repeat' (first|refine hpr.calls rfl ?_<;>try simp only[go_sem,seval]|fail)
 | some rs =>
  unfold lmR;dsimp only;rw[hg,ak4] at hpr;obtain⟨hrl,hpo,hst⟩:=br8 hg;have hss:=as9 rs (by omega) hpo;have ht:=(Y7 rs).1;have hsl:=af8 rs (top rs);have hcf:=aV8 (stg rs (top rs)) (by omega) (fun x hx=>by have:=(hst _ x hx).2;omega);have hat:=as8 rs (i:=top rs) (m:=top rs+1) (by omega);have w1:IntKind.i64.wrap ((top rs:Int)+1 - 1)=(top rs:Int):=by rw[l6 (by omega) (by omega)];omega
  have n1:(top rs:Int)<(top rs:Int)+1:=by omega
  have hdl:=bB9 rs (top rs+1);generalize stg rs (top rs)=R2 at *;generalize ay4 rs (top rs+1)=SD at *;generalize top rs=j at *;refine aE_ Tryz.func6 ?_;refine rS_ Tryz.func6 ?_;simp only[go_sem,seval]
  repeat' (first|exact⟨_,_,rfl⟩|((first|refine hpr.calls rfl ?_|refine hss.calls rfl ?_|refine ACalls.fresh (ds:=[.sl (R2.map fcE)]) (m:=1) hcf [0] rfl rfl (by simp) (by simp) ?_<;>(rintro c H' ⟨rfl,e1,B1,rfl⟩ _;refine⟨rfl,rfl,?_⟩))<;>(try simp only[go_sem,seval,w1,n1,hdl,d9 hat]))|fail)
set_option maxHeartbeats 4000000
theorem bp6:∀a b:V,Gives Tryz.prog 15 [.agg a.enc,.agg b.enc] (.d (.bool (decide (a=b)))):=by
 intro a;induction a with
 | pair x y ihx ihy =>
  intro b;cases b with
  | pair u v =>
   have hx:=ihx u;have hy:=ihy v;rw[show decide (V.pair x y=V.pair u v)=(decide (x=u) && decide (y=v)) from by simp];generalize decide (x=u)=p at hx |-;generalize decide (y=v)=q at hy |-;cases p<;>cases q
   all_goals
    refine aE_ Tryz.func15 ?_;refine rS_ Tryz.func15 ?_;simp only[go_sem,seval,V.enc_pair]
    repeat' (first|simp(disch:=omega) only[l6]|((first|refine hx.callQ rfl ?_|refine hy.callQ rfl ?_|refine AW.loop ?_<;>(refine rS_ Tryz.func15 ?_)|refine AW.round ?_<;>(refine rS_ Tryz.func15 ?_))<;>(try simp only[go_sem,seval,V.enc_pair]))|fail)
  | _ =>
   rw[show decide _=false from by simp];refine aE_ Tryz.func15 ?_;refine rS_ Tryz.func15 ?_;simp only[go_sem,seval,V.enc_pair,V.enc_nil,V.enc_var,V.enc_sym,V.enc_num]
 | nil =>
  intro b;cases b with
  | nil =>
   rw[show decide _=true from by simp];refine aE_ Tryz.func15 ?_;refine rS_ Tryz.func15 ?_;simp only[go_sem,seval,V.enc_nil]
   repeat' (first|refine AW.loop ?_<;>(refine rS_ Tryz.func15 ?_)<;>try simp only[go_sem,seval,V.enc_nil]|fail)
  | _ =>
   rw[show decide _=false from by simp];refine aE_ Tryz.func15 ?_;refine rS_ Tryz.func15 ?_;simp only[go_sem,seval,V.enc_pair,V.enc_nil,V.enc_var,V.enc_sym,V.enc_num]
 | var n =>
  intro b;cases b with
  | var m =>
   by_cases e:n=m
   ·subst e
    rw[show decide _=true from by simp];refine aE_ Tryz.func15 ?_;refine rS_ Tryz.func15 ?_;simp only[go_sem,seval,V.enc_var]
    repeat' (first|refine AW.loop ?_<;>(refine rS_ Tryz.func15 ?_)<;>try simp only[go_sem,seval,V.enc_var]|fail)
   ·rw[show decide _=false from by simp[e]]
    refine aE_ Tryz.func15 ?_;refine rS_ Tryz.func15 ?_;simp only[go_sem,seval,V.enc_var,e]
    repeat' (first|refine E8 ?_ ?_<;>intro hq<;>try simp only[go_sem,seval,V.enc_var,e,hq]|fail)
    all_goals (exfalso;exact e (by assumption))
  | _ =>
   rw[show decide _=false from by simp];refine aE_ Tryz.func15 ?_;refine rS_ Tryz.func15 ?_;simp only[go_sem,seval,V.enc_pair,V.enc_nil,V.enc_var,V.enc_sym,V.enc_num]
 | num n =>
  intro b;cases b with
  | num m =>
   by_cases e:n=m
   ·subst e
    rw[show decide _=true from by simp];refine aE_ Tryz.func15 ?_;refine rS_ Tryz.func15 ?_;simp only[go_sem,seval,V.enc_num]
    repeat' (first|refine AW.loop ?_<;>(refine rS_ Tryz.func15 ?_)<;>try simp only[go_sem,seval,V.enc_num]|fail)
   ·rw[show decide _=false from by simp[e]]
    refine aE_ Tryz.func15 ?_;refine rS_ Tryz.func15 ?_;simp only[go_sem,seval,V.enc_num,e]
    repeat' (first|refine E8 ?_ ?_<;>intro hq<;>try simp only[go_sem,seval,V.enc_num,e,hq]|fail)
    all_goals (exfalso;exact e (by assumption))
  | _ =>
   rw[show decide _=false from by simp];refine aE_ Tryz.func15 ?_;refine rS_ Tryz.func15 ?_;simp only[go_sem,seval,V.enc_pair,V.enc_nil,V.enc_var,V.enc_sym,V.enc_num]
 | sym n =>
  intro b;cases b with
  | sym m =>
   by_cases e:n=m
   ·subst e
    rw[show decide _=true from by simp];refine aE_ Tryz.func15 ?_;refine rS_ Tryz.func15 ?_;simp only[go_sem,seval,V.enc_sym]
    repeat' (first|refine AW.loop ?_<;>(refine rS_ Tryz.func15 ?_)<;>try simp only[go_sem,seval,V.enc_sym]|fail)
   ·have e2:(n == m)=false:=by simpa using e
    rw[show decide _=false from by simp[e]];refine aE_ Tryz.func15 ?_;refine rS_ Tryz.func15 ?_;simp only[go_sem,seval,V.enc_sym,e2]
  | _ =>
   rw[show decide _=false from by simp];refine aE_ Tryz.func15 ?_;refine rS_ Tryz.func15 ?_;simp only[go_sem,seval,V.enc_pair,V.enc_nil,V.enc_var,V.enc_sym,V.enc_num]
theorem list_fn (a b:List V):Gives Tryz.prog 38 [.sl (a.map V.enc),.sl (b.map V.enc)] (.d (.bool (decide (a=b)))):=by
 have hmap:∀x:List V,(x.map V.enc).length=x.length:=fun x=>h_ _;by_cases hl:a.length=b.length
 ·have n1:(a.length:Int)=(b.length:Int):=by omega
  refine aE_ Tryz.func38 ?_;refine rS_ Tryz.func38 ?_;simp only[go_sem,seval,hmap,n1];refine AW.rng a [1,12,13] 14 12 (fun _:List V=>[]) (fun H _=>H) (fun r s=>b.drop (a.length - r.length)=s/\s.length=r.length/\r.length<=a.length/\decide (a=b)=decide (r=s)) b rfl (by simp) ⟨by simp,hl.symm,b_ _,rfl⟩ I7 (fun i x r s hxi hdr hlt hm hinv hnext=>?_) (fun s hinv=>?_)
  ·obtain⟨i1,i2,i3,i4⟩:=hinv
   obtain⟨y,t,rfl⟩:∃y t,s=y :: t:=by
    cases s with
    | nil=>simp at i2
    | cons y t=>exact⟨y,t,rfl⟩
   simp only[f_] at i1 i2 i3;have hil:i=a.length - (r.length+1):=by
    have:=congrArg List.length hdr;simp only[y_,f_] at this;omega
   have hyi:b[i]? = some y/\b.drop (i+1)=t:=by
    rw[<-hil] at i1;have hib:i<b.length:=by omega
    rw[List.drop_eq_getElem_cons hib] at i1;exact⟨by rw[k_ hib,(List.cons.inj i1).1],(List.cons.inj i1).2⟩
   have hyb:(b.map V.enc)[i]? = some y.enc:=by rw[n_,hyi.1];rfl
   have hlt2:(i:Int)<(b.length:Int):=by omega
   have hs:=bp6 x y;by_cases e:x=y
   ·subst e
    rw[show decide (x=x)=true from by simp] at hs;refine rS_ Tryz.func38 ?_;simp only[go_sem,seval,hmap,hlt,hlt2,d9 hxi,d9 hyi.1]
    repeat' (first|simp(disch:=omega) only[l6]|refine hnext t _ ⟨by rw[show a.length - r.length=i+1 by omega];exact hyi.2,by omega,by omega,by rw[i4];simp⟩ I7|refine hs.callQ rfl ?_<;>try simp only[go_sem,seval,hmap,hlt,hlt2,d9 hxi,d9 hyi.1]|fail)
   ·rw[show decide (x=y)=false from by simp[e]] at hs
    rw[i4,show decide (x :: r=y :: t)=false from by simp[e]];refine rS_ Tryz.func38 ?_;simp only[go_sem,seval,hmap,hlt,hlt2,d9 hxi,d9 hyi.1]
    repeat' (first|refine hs.callQ rfl ?_<;>try simp only[go_sem,seval,hmap,hlt,hlt2,d9 hxi,d9 hyi.1]|fail)
  ·obtain⟨i1,i2,i3,i4⟩:=hinv
   obtain rfl:s=[]:=by cases s with
    | nil=>rfl
    | cons y t=>simp at i2
   rw[i4];refine rS_ Tryz.func38 ?_;simp only[go_sem,seval,hmap,n1]
 ·have n1:¬(a.length:Int)=(b.length:Int):=by omega
  rw[show decide (a=b)=false from by simp;exact fun e=>hl (by rw[e])];refine aE_ Tryz.func38 ?_;refine rS_ Tryz.func38 ?_;simp only[go_sem,seval,hmap,n1]
  repeat' (first|refine E8 ?_ ?_<;>intro hq<;>try simp only[go_sem,seval,hmap,n1,hq]|fail)
  all_goals (exfalso;omega)
set_option maxHeartbeats 8000000
theorem bF7 (a b:FcV):Gives Tryz.prog 11 [.agg (fcE a),.agg (fcE b)] (.d (.bool (decide (a=b)))):=by
 have hl:=list_fn a.2 b.2;rw[o5,o5];by_cases e:a.1=b.1
 ·rw[show decide (a=b)=decide (a.2=b.2) from by rw[w_,decide_eq_true_eq,decide_eq_true_eq];exact⟨fun h=>by rw[h],fun h=>Prod.ext e h⟩]
  refine aE_ Tryz.func11 ?_;refine rS_ Tryz.func11 ?_;simp only[go_sem,seval,e]
  repeat' (first|refine(list_fn _ _).calls rfl ?_<;>try simp only[go_sem,seval,e]|fail)
 ·rw[show decide (a=b)=false from decide_eq_false fun h=>e (by rw[h])]
  have e2:(a.1 == b.1)=false:=by simpa using e
  refine aE_ Tryz.func11 ?_;refine rS_ Tryz.func11 ?_;simp only[go_sem,seval,e,e2]
theorem aP3 (a b:FcV):Gives Tryz.prog 11 [.agg [.str a.1,.sl (a.2.map V.enc)],.agg [.str b.1,.sl (b.2.map V.enc)]] (.d (.bool (decide (a=b)))):=by
 have h:=bF7 a b;rw[o5,o5] at h;exact h
theorem bK2 (l:List FcV) (f:FcV):Gives Tryz.prog 17 [.sl (l.map fcE),.agg (fcE f)] (.d (.bool (decide (f∈l)))):=by
 obtain⟨K,hK⟩:∃K,decide (f∈l)=K:=⟨_,rfl⟩;rw[hK,o5];refine aE_ Tryz.func17 ?_;refine rS_ Tryz.func17 ?_;simp only[go_sem,seval];refine AW.rng l [3,7,8] 9 7 (fun _:Unit=>[]) (fun H _=>H) (fun r _=>decide (f∈r)=K) () rfl (by simp) hK A7 (fun j y q b hyj hdr2 hlt2 hm2 hinv2 hnext2=>?_) (fun b hinv2=>?_)
 ·have he:=aP3 y f
  by_cases hc:y=f
  ·rw[decide_eq_true hc] at he
   subst hc;simp only[L_,true_or,decide_true] at hinv2;rw[<-hinv2];refine rS_ Tryz.func17 ?_;simp only[go_sem,seval,hlt2,d9 hyj,o5]
   repeat' (first|refine he.calls rfl ?_<;>try simp only[go_sem,seval,hlt2,d9 hyj,o5]|fail)
  ·have hyf:¬f=y:=fun e=>hc e.symm
   rw[decide_eq_false hc] at he;simp only[L_,hyf,false_or] at hinv2;refine rS_ Tryz.func17 ?_;simp only[go_sem,seval,hlt2,d9 hyj,o5]
   repeat' (first|simp(disch:=omega) only[l6]|refine hnext2 () _ hinv2 A7|refine he.calls rfl ?_<;>try simp only[go_sem,seval,hlt2,d9 hyj,o5]|fail)
 ·simp only[List.not_mem_nil,decide_false] at hinv2
  rw[<-hinv2];refine rS_ Tryz.func17 ?_;simp only[go_sem,seval]
theorem bi4 (a b:V):Gives Tryz.prog 96 [.agg [.int .i64 a.kind,.int .i64 a.int,.str a.name,.sl (a.kids.map V.enc)],.agg [.int .i64 b.kind,.int .i64 b.int,.str b.name,.sl (b.kids.map V.enc)]] (.d (.int .i64 (a.cmp b))):=by
 have h:=Y1 _ a b (b_ _);rw[V.enc_eq a,V.enc_eq b] at h;exact h
theorem av4 (a b:V):Gives Tryz.prog 97 [.agg [.int .i64 a.kind,.int .i64 a.int,.str a.name,.sl (a.kids.map V.enc)],.agg [.int .i64 b.kind,.int .i64 b.int,.str b.name,.sl (b.kids.map V.enc)]] (.d (.bool (decide (a.cmp b=0)))):=by
 have h:=bi2 a b;rw[V.enc_eq a,V.enc_eq b] at h;exact h
theorem aN1 (l:List V) (f:V) (ha:ai0 V.cmp l) (hl:l.length<=2000000):Gives Tryz.prog 52 [.sl (l.map V.enc),.agg f.enc] (.d (.sl ((ad8 V.cmp l f).map V.enc))):=by
 have hmx:maxLen=9223372036854775807:=rfl;have hmap:∀x:List V,(x.map V.enc).length=x.length:=fun x=>h_ _;obtain⟨RES,hRES⟩:∃RES,ad8 V.cmp l f=RES:=⟨_,rfl⟩;have hFe:=V.enc_eq f;rw[hRES,hFe];refine aE_ Tryz.func52 ?_;refine rS_ Tryz.func52 ?_;simp only[go_sem,seval,hmap];refine AW.lp [0,3] (fun k:Nat=>[(5,.d (.int .i64 (k:Int)))]) (fun H _=>H) (fun k=>k<=l.length/\∀i y,k<=i->l[i]? = some y->¬y.cmp f<0) (fun k=>k) l.length ⟨b_ _,fun i y hi hy=>by have:=(c_.1 hy).1;omega⟩ A7 ?_;intro k hk hnk;obtain⟨k1,k2⟩:=hk;have stop:(∀i y,i<k->l[i]? = some y->y.cmp f<0)->ad8 V.cmp l f=if ae7 V.cmp l k f then l else l.take k++f :: l.drop k:=fun h=>aU4 V.cmp_lin l f k ha k1 h k2
 by_cases hkz:k=0
 ·have n1:¬(0:Int)<(k:Int):=by omega
  have hst:=stop (fun i y hi=>by omega);clear stop hnk;rw[hRES] at hst;have hks:(0:Int)<=(k:Int):=by omega
  cases hlk:l[k]? with
  | none =>
   have hkl:k=l.length:=by have:=o_.1 hlk;omega
   have m1:¬(k:Int)<(l.length:Int):=by omega
   have hq:ae7 V.cmp l k f=false:=by unfold ae7;rw[hlk]
   rw[hq,if_neg (by simp)] at hst;rw[hst];refine rS_ Tryz.func52 ?_;simp only[go_sem,seval,n1,hmap,m1,hks];skip
   repeat' (first|refine⟨sd,?_⟩<;>try simp only[go_sem,seval,n1,hmap,m1,hks]|fail)
   all_goals simp[hFe,p_,t_]
  | some z =>
   have m1:(k:Int)<(l.length:Int):=by have:=(c_.1 hlk).1;omega
   have hz:=av4 z f;by_cases hzf:z.cmp f=0
   ·have hq:ae7 V.cmp l k f=true:=by unfold ae7;rw[hlk];simp[hzf]
    rw[hq,if_pos rfl] at hst;rw[hzf] at hz;rw[hst];refine rS_ Tryz.func52 ?_;simp only[go_sem,seval,n1,hmap,m1,hks,d9 hlk,V.enc_eq];skip
    repeat' (first|refine hz.callQ rfl ?_<;>try simp only[go_sem,seval,n1,hmap,m1,hks,d9 hlk,V.enc_eq]|fail)
   ·have hq:ae7 V.cmp l k f=false:=by unfold ae7;rw[hlk];simp[hzf]
    rw[hq,if_neg (by simp)] at hst;rw[decide_eq_false hzf] at hz;rw[hst];refine rS_ Tryz.func52 ?_;simp only[go_sem,seval,n1,hmap,m1,hks,d9 hlk,V.enc_eq,hzf];skip
    repeat' (first|((first|refine hz.callQ rfl ?_|refine⟨sd,?_⟩)<;>(try simp only[go_sem,seval,n1,hmap,m1,hks,d9 hlk,V.enc_eq,hzf]))|fail)
    all_goals first | exact absurd (by assumption) hzf | skip
    all_goals simp[hFe,p_,t_]
 ·obtain⟨y,hy⟩:∃y,l[k - 1]? = some y:=⟨_,k_ (by omega)⟩
  have n1:(0:Int)<(k:Int):=by omega
  have w1:IntKind.i64.wrap ((k:Int) - 1)=((k - 1:Nat):Int):=by rw[l6 (by omega) (by omega)];omega
  have n2:((k - 1:Nat):Int)<(l.length:Int):=by omega
  have he:=bi4 y f;by_cases hc:y.cmp f<0
  ·have hc':¬(0:Int)<=y.cmp f:=by omega
   have hst:=stop (fun i z hi hz=>by
    by_cases e:i=k - 1
    ·subst e;rw[hz] at hy;cases hy;exact hc
    ·exact V.cmp_lin.tr _ _ _ (aI2 ha (show i<k - 1 by omega) hz hy) hc)
   clear stop hnk;rw[hRES] at hst;have hks:(0:Int)<=(k:Int):=by omega
   cases hlk:l[k]? with
   | none =>
    have hkl:k=l.length:=by have:=o_.1 hlk;omega
    have m1:¬(k:Int)<(l.length:Int):=by omega
    have hq:ae7 V.cmp l k f=false:=by unfold ae7;rw[hlk]
    rw[hq,if_neg (by simp)] at hst;rw[hst];refine rS_ Tryz.func52 ?_;simp only[go_sem,seval,n1,w1,n2,d9 hy,hmap,V.enc_eq,hc,hc',m1,hks]
    repeat' (first|((first|refine he.callQ rfl ?_|refine⟨sd,?_⟩)<;>(try simp only[go_sem,seval,n1,w1,n2,d9 hy,hmap,V.enc_eq,hc,hc',m1,hks]))|fail)
    all_goals simp[hFe,p_,t_]
   | some z =>
    have m1:(k:Int)<(l.length:Int):=by have:=(c_.1 hlk).1;omega
    have hz:=av4 z f;by_cases hzf:z.cmp f=0
    ·have hq:ae7 V.cmp l k f=true:=by unfold ae7;rw[hlk];simp[hzf]
     rw[hq,if_pos rfl] at hst;rw[hzf] at hz;rw[hst];refine rS_ Tryz.func52 ?_;simp only[go_sem,seval,n1,w1,n2,d9 hy,hmap,V.enc_eq,hc,hc',m1,hks,d9 hlk,V.enc_eq]
     repeat' (first|((first|refine he.callQ rfl ?_|refine hz.callQ rfl ?_)<;>(try simp only[go_sem,seval,n1,w1,n2,d9 hy,hmap,V.enc_eq,hc,hc',m1,hks,d9 hlk,V.enc_eq]))|fail)
    ·have hq:ae7 V.cmp l k f=false:=by unfold ae7;rw[hlk];simp[hzf]
     rw[hq,if_neg (by simp)] at hst;rw[decide_eq_false hzf] at hz;rw[hst];refine rS_ Tryz.func52 ?_;simp only[go_sem,seval,n1,w1,n2,d9 hy,hmap,V.enc_eq,hc,hc',m1,hks,d9 hlk,V.enc_eq,hzf]
     repeat' (first|((first|refine he.callQ rfl ?_|refine hz.callQ rfl ?_|refine⟨sd,?_⟩)<;>(try simp only[go_sem,seval,n1,w1,n2,d9 hy,hmap,V.enc_eq,hc,hc',m1,hks,d9 hlk,V.enc_eq,hzf]))|fail)
     all_goals first | exact absurd (by assumption) hzf | skip
     all_goals simp[hFe,p_,t_]
  ·have hc':(0:Int)<=y.cmp f:=by omega
   refine rS_ Tryz.func52 ?_;simp only[go_sem,seval,n1,w1,n2,d9 hy,hmap,V.enc_eq,hc,hc']
   repeat' (first|refine he.callQ rfl ?_<;>try simp only[go_sem,seval,n1,w1,n2,d9 hy,hmap,V.enc_eq,hc,hc']|fail)
   refine hnk (k - 1) _ ⟨by omega,fun i z hi hz=>?_⟩ (by omega) A7;by_cases e:i=k - 1
   ·subst e;rw[hz] at hy;cases hy;exact hc
   ·exact k2 i z (by omega) hz
theorem bL9:∀v:V,v.vbelow 0=true->v.vars=[]:=by
 intro v;induction v with
 | pair a b iha ihb =>
  intro h;simp only[V.vbelow,j_] at h;simp[V.vars,iha h.1,ihb h.2]
 | var n=>intro h;simp[V.vbelow] at h;omega
 | _=>intro _;rfl
theorem bG6 {m:Nat} {v:V} (h:drawn m 0 v):v.vars=[]:=bL9 v h.2.2
theorem bP5 {l:List V} {x:V}:(ad8 V.cmp l x).length<=l.length+1:=by
 induction l with
 | nil=>simp[ad8]
 | cons y q ih =>
  unfold ad8;split
  ·simp only[f_];omega
  ·split<;>simp only[f_]<;>omega
theorem bE6 {l:List V} {x:V}:1<=(ad8 V.cmp l x).length:=List.length_pos_of_mem ((ad7 V.cmp_lin l x x).2 (.inl rfl))
theorem aG3 (B:List UInt8) (hB:B.length<=1048576) (m:Nat) (hm1:1<=m) (hm:m<=8) (i h:Int) (h0:0<=i) (h1:i<=B.length):ACalls Tryz.prog 26 [.ptr 0 0,.d (.int .i64 m)] [cuO B i h] (fun c H'=>∃(u:List V) (i' h':Int),c=.d (.sl (u.map V.enc))/\H'=[cuO B i' h']/\Uni u/\u.length<=m/\(∀v,v∈u->drawn 7 0 v)/\0<=i'/\i'<=B.length):=by
 have hmx:maxLen=9223372036854775807:=rfl;have hb:=y9 B i h hB h0 h1 (m:Int);refine aE_ Tryz.func26 ?_;refine rS_ Tryz.func26 ?_;simp only[go_sem,seval]
 repeat' (first|simp(disch:=omega) only[l6]|refine(ACalls.emb hb [0] rfl rfl rfl (by decide) rfl ?_)<;>(rintro c H' ⟨x,i2,h2,rfl,rfl,⟨b1,b2⟩,b3,b4⟩ _;refine⟨rfl,rfl,?_⟩)<;>try simp only[go_sem,seval]|fail)
 refine AW.nilG 5 rfl ?_;obtain⟨k0,hk0,hk1,hkm⟩:∃k0:Nat,1+x=(k0:Int)/\1<=k0/\k0<=m:=⟨(1+x).toNat,by omega,by omega,by omega⟩;refine AW.lp [0] (fun u:Nat×List V×Int×Int=>[(6,.d (.int .i64 (u.1:Int))),(5,.d (.sl (u.2.1.map V.enc)))]) (fun _ u=>[cuO B u.2.2.1 u.2.2.2]) (fun u=>ai0 V.cmp u.2.1/\(∀v,v∈u.2.1->drawn 7 0 v)/\u.1+u.2.1.length<=m/\(1<=u.1\/1<=u.2.1.length)/\0<=u.2.2.1/\u.2.2.1<=B.length) (fun u=>u.1) (k0,[],i2,h2) ⟨List.Pairwise.nil,(fun v hv=>by cases hv),by simp;omega,.inl hk1,b3,b4⟩ (by refine⟨by simp[mkS,r9,hk0],by simp[mkS,r9,hk0],by simp only[mkS,e_,i_,O.refsLt,C.refsLt,C.refsLt1,l7];first | done | rfl | (simp;done),?_⟩;simp[mkS,Abs.get,C.refsLtT,C.refsLt,C.refsLt1,r9,hk0]) ?_;rintro ⟨k,u,i3,h3⟩ ⟨u1,u2,u3,u4,u5,u6⟩ hnext;dsimp only at u1 u2 u3 u4 u5 u6 hnext |-;by_cases hk:k=0
 ·subst hk
  have hu1:1<=u.length:=by omega
  refine rS_ Tryz.func26 ?_;simp only[go_sem,seval]
  repeat' (first|exact⟨u,_,_,rfl,rfl,⟨hu1,by omega,fun v hv=>bG5 (u2 v hv) (by decide),fun v hv=>bG6 (u2 v hv),u1⟩,by omega,u2,u5,u6⟩|fail)
 ·obtain⟨k,rfl⟩:∃k',k=k'+1:=⟨k - 1,by omega⟩
  have e1:(0:Int)<(k:Int)+1:=by omega
  have wk:IntKind.i64.wrap ((k:Int)+1 - 1)=(k:Int):=by rw[l6 (by omega) (by omega)];omega
  have hb2:=y9 B i3 h3 hB u5 u6 2;refine rS_ Tryz.func26 ?_;simp only[go_sem,seval,e1,wk]
  repeat' (first|simp(disch:=omega) only[l6]|((first|(refine(ACalls.emb hb2 [0] rfl rfl rfl (by decide) rfl ?_)<;>(rintro c H' ⟨y,i4,h4,rfl,rfl,⟨c1,c2⟩,c3,c4⟩ _;rcases(show y=0\/y=1 by omega) with rfl | rfl<;>refine⟨rfl,rfl,?_⟩))|refine(ACalls.emb (ab4 B hB 0 (by decide) 1 i4 h4 (by decide) c3 c4) [0] rfl rfl rfl (by decide) rfl ?_)<;>(rintro c H' ⟨v,i5,h5,rfl,rfl,k1,k2,k3⟩ _;refine⟨rfl,rfl,?_⟩)|refine(ACalls.emb (ab4 B hB 0 (by decide) 3 i4 h4 (by decide) c3 c4) [0] rfl rfl rfl (by decide) rfl ?_)<;>(rintro c H' ⟨v,i5,h5,rfl,rfl,k1,k2,k3⟩ _;refine⟨rfl,rfl,?_⟩)|refine(aN1 u v u1 (by omega)).calls rfl ?_)<;>(try simp only[go_sem,seval,e1,wk]))|fail)
  all_goals refine hnext (k,ad8 V.cmp u v,i5,h5) _ ⟨aq7 V.cmp_lin u v u1,fun z hz=>by
   rcases(ad7 V.cmp_lin u v z).1 hz with rfl | hz
   ·exact ae2 k1 (by decide)
   ·exact u2 z hz,by have:=bP5 (l:=u) (x:=v);dsimp only;omega,.inr bE6,k2,k3⟩ (by dsimp only;omega) (by refine⟨by simp[mkS,r9],by simp[mkS,r9],by simp only[mkS,e_,i_,O.refsLt,C.refsLt,C.refsLt1,l7];first | done | rfl | (simp;done),?_⟩;simp[mkS,Abs.get,C.refsLtT,C.refsLt,C.refsLt1])
theorem az4 (B:List UInt8) (hB:B.length<=1048576) (n m:Nat) (hn:n<=1000) (hm1:1<=m) (hm:m<=8):ACalls Tryz.prog 5 [.d (.sl (bytesD B)),.d (.int .i64 n),.d (.int .i64 m)] [] (fun c H'=>∃u:List V,c=.d (.sl (u.map V.enc))/\H'=[]/\Uni u/\u.length<=m/\∀v,v∈u->drawn 7 0 v):=by
 have hw:=aG2 B hB n (by omega);refine aE_ Tryz.func5 ?_;refine AW.hole ?_;refine l9 Tryz.func5 mixed 4 _ _ (by kernel_rfl) ?_;simp only[go_sem,seval,run.eq_1]
 repeat' (first|refine(ACalls.emb hw [0] rfl rfl rfl (by decide) rfl ?_)<;>(rintro c H' ⟨rfl,i,h,rfl,e1,e2⟩ _;refine⟨rfl,rfl,?_⟩)<;>try simp only[go_sem,seval,run.eq_1]|fail)
 refine ACalls.emb (ACalls.unpb (ds:=[.int .i64 m]) (cs:=cuD B i h) (aG3 B hB m hm1 hm i h e1 e2) (K:=fun c H'=>∃u:List V,c=.d (.sl (u.map V.enc))/\H'=[.dead]/\Uni u/\u.length<=m/\∀v,v∈u->drawn 7 0 v) (fun c H' ⟨u,i',h',c1,c2,c3,c4,c5,_⟩=>⟨_,c1,u,c1,rfl,c3,c4,c5⟩)) [0] rfl rfl rfl (by decide) rfl ?_;rintro c H' ⟨u,rfl,rfl,c3,c4,c5⟩ _;refine⟨rfl,rfl,?_⟩;simp only[go_sem,seval,run.eq_1];refine rS_ Tryz.func5 ?_;simp only[go_sem,seval]
 repeat' (first|((first|refine⟨sd,?_⟩|refine⟨by assumption,?_⟩)<;>(try simp only[go_sem,seval]))|assumption)
theorem bT0 {v:V} (h:v.ok=true):v.tm.V=v:=by
 unfold V.ok at h;rw[j_] at h;simp[Tm.V,V.v?_tm v h.1]
theorem ce9 {u:List V} (h:∀v,v∈u->v.ok=true):(u.map V.tm).map Tm.V=u:=by
 rw[P_];conv=>rhs;rw[<-List.map_id u]
 exact List.map_congr_left fun v hv=>bT0 (h v hv)
theorem aO2 {v:V} (h:v.ok=true) (hg:v.vars=[]):v.tm.ground=true:=by
 unfold Tm.ground;rw[bo0,h,V.vars_tm,hg];rfl
theorem bn4:∀(u:List V) (p:Option V),ai0 V.cmp u->(∀v,v∈u->v.ok=true/\v.vars=[])->(∀q,p=some q->∀v,v∈u->q.cmp v<0)->ap6 p (u.map V.tm)=true
 | [],_,_,_,_=>rfl
 | v :: r,p,ha,ho,hp=>by
  obtain⟨h1,h2⟩:=List.pairwise_cons.1 ha;obtain⟨o1,o2⟩:=ho v (by simp);simp only[A_,ap6,aO2 o1 o2,bT0 o1,M_,j_];refine⟨?_,bn4 r (some v) h2 (fun x hx=>ho x (by simp[hx])) (fun q hq x hx=>by cases hq;exact h1 x hx)⟩;cases p with
  | none=>rfl
  | some q=>exact decide_eq_true (hp q rfl v (by simp))
theorem aX5 {u:List V} (h:Uni u):U3 (u.map V.tm)=true:=by
 unfold U3;rw[bn4 u none h.asc (fun v hv=>⟨h.ok v hv,h.gr v hv⟩) (fun q hq=>by cases hq),h_,decide_eq_true h.pos,decide_eq_true h.le];rfl
structure Made (p:Pg) (u:List V):Prop where
 ok:M9 p=true
 wt:wtL p.enc<=1048576
 gr:p.gr u=some (Pg.gnd u p.rels)
 uni:Uni u
 uw:∀v,v∈u->wtL v.enc<=112
theorem Made.of {p:Pg} {u:List V} {m:Int} (hf:p.fine m) (hg:Pg.gszL p.rels<=2000) (hu:Uni u) (hl:u.length<=2) (hd:∀v,v∈u->drawn 7 0 v):Made p u:=
 ⟨hf.ok,by have:=hf.wt;omega,Pg.gr_small hf.ok (fun r hr=>by have:=hf.cls r hr;omega) hl hg,hu,fun v hv=>(ar0 (hd v hv)).2.1⟩
section
variable {p:Pg} {u:List V}
theorem aD7:∀l:List V,(∀v,v∈l->wtL v.enc<=112)->wtR (l.map V.enc)<=113 * l.length
 | [],_=>by simp[wtR]
 | v :: r,hv=>by
  have h1:=aD7 r (fun x hx=>hv x (by simp[hx]));have h2:=hv v (by simp);simp only[A_,wtR,f_];omega
theorem Made.wu (h:Made p u):wtR ((u.map V.tm).map Tm.enc)<=1048576:=by
 rw[D5];have:=aD7 u h.uw;have:=h.uni.le;omega
theorem Made.mem (h:Made p u):∀t,t∈u.map V.tm->wtL t.enc<=1048576:=(ag3 h.wu).1
theorem Made.wp (h:Made p u):wtL p.enc<=1048576:=h.wt
def bm5 (p:Pg) (u:List V) (f:FcV):Prop:=∃x,x∈p.rels/\f.1=x.name/\(f.2.length:Int)=x.arity/\∀v,v∈f.2->v∈u
theorem Made.fit (h:Made p u) {f:FcV} (hf:bm5 p u f):f.fc.args.all M7=true/\p.factFits f.fc=true/\Fc.toV f.fc=f/\wtL (fcE f)+1<=500:=by
 obtain⟨x,hx,e1,hfl,hm⟩:=hf;obtain⟨z1,z2,z3,z4⟩:=Pg.dims h.ok hx;obtain⟨i,hi⟩:=List.getElem?_of_mem hx;have hfs:=bw2 h.ok hi;have e3:p.find f.1=(i:Int):=by rw[e1];exact hfs
 refine⟨r_.2 fun t ht=>?_,?_,Prod.ext rfl (ce9 fun v hv=>h.uni.ok v (hm v hv)),?_⟩
 ·obtain⟨v,hv,rfl⟩:=x_.1 ht
  rw[bo0];exact h.uni.ok v (hm v hv)
 ·rw[Pg.factFits_at (f:=f.fc) (r:=x) (by show 0<=p.find f.1;rw[e3];omega) (by show p.rels[(p.find f.1).toNat]? = some x;rw[e3];simpa using hi),j_,decide_eq_true_eq,r_]
  refine⟨by show x.arity=((f.2.map V.tm).length:Int);rw[h_];omega,fun t ht=>?_⟩;obtain⟨v,hv,rfl⟩:=x_.1 ht;exact aO2 (h.uni.ok v (hm v hv)) (h.uni.gr v (hm v hv))
 ·have hn:f.1.length<=12:=by
   have h0:=h.ok;unfold M9 at h0;rw[j_] at h0;obtain⟨k,hk⟩:=Z8 h0.2 x hx;unfold Pg.relOk at hk;simp only[j_] at hk;have hr:J6 x.name=true:=by simp only[decide_eq_true_eq] at hk;exact hk.1.1.1.1.1.1.2
   unfold J6 at hr;rw[j_] at hr;rw[e1];exact(H5 hr.2).2
  have h5:=aD7 f.2 fun v hv=>h.uw v (hm v hv);rw[o5];simp only[wtL,D.wt];omega
theorem Made.fitH (h:Made p u) {F G:List FcV} {f:FcV} (hf:f∈Z9 (Pg.gnd u p.rels) F G):bm5 p u f:=by
 obtain⟨r,h1,_,h3⟩:=Y0.1 hf;obtain⟨x,hx,c,_,j,w,_,rfl⟩:=ag8 _ h1;obtain⟨z1,z2,z3,z4⟩:=Pg.dims h.ok hx;have hvl:=M0 u (x.arity+x.locals).toNat w;have hvm:=L9 h.uni.pos (x.arity+x.locals).toNat w;have e1:x.name=f.1:=congrArg Prod.fst h3;have e2:(E5 u (x.arity+x.locals).toNat w).take x.arity.toNat=f.2:=congrArg Prod.snd h3;exact⟨x,hx,e1.symm,by rw[<-e2,List.length_take,hvl];omega,fun v hv=>by rw[<-e2] at hv;exact hvm v (List.mem_of_mem_take hv)⟩
theorem Made.head (h:Made p u) {F G:List FcV} {f:FcV} (hf:f∈Z9 (Pg.gnd u p.rels) F G):f.fc.args.all M7=true/\p.factFits f.fc=true/\Fc.toV f.fc=f/\wtL (fcE f)+1<=500:=h.fit (h.fitH hf)
theorem br9 (h:Made p u) (ha:p.all false=true):bz7 p (u.map V.tm)=some (Pg.gnd u p.rels):=by
 unfold bz7;rw[if_pos ⟨ha,aX5 h.uni⟩,ce9 h.uni.ok,h.gr]
end
theorem bY7 {p:Pg} {u:List V} (h:Made p u) (ha:p.all false=true):Gives Tryz.prog 6 [.agg p.enc,.sl (u.map V.enc)] (.tup [.d (.sl ((stg (Pg.gnd u p.rels) (top (Pg.gnd u p.rels))).map fcE)),.d (.int .i64 (top (Pg.gnd u p.rels):Nat)),.d (.bool true)]):=by
 have h1:=aG9 p (u.map V.tm) h.wp h.wu;rw[br9 h ha,D5] at h1;refine ACalls.frozen (ds:=[.agg p.enc,.sl (u.map V.enc)]) (m:=1) h1 (fun c H' hh _=>?_);obtain⟨h1,e,B,h2⟩:=hh;subst h1 h2;rfl
theorem cb5 {p:Pg} {u:List V} (h:Made p u) (ha:p.all false=true) {k:Nat} {f:FcV} (hf:f∈stg (Pg.gnd u p.rels) k):Gives Tryz.prog 7 [.agg p.enc,.sl (u.map V.enc),.agg (fcE f)] (.d (.int .i64 (hgt (Pg.gnd u p.rels) f))):=by
 obtain⟨k,rfl⟩:∃k',k=k'+1:=by
  cases k with
  | zero=>simp[stg] at hf
  | succ k=>exact⟨k,rfl⟩
 obtain⟨h1,h2,h3,h4⟩:=h.head hf;have hc:=az0 p (u.map V.tm) f.fc h.wp h.wu (by have:wtL f.fc.enc=wtL (fcE f):=rfl;omega);have hh:Pg.hgtF p (u.map V.tm) f.fc=hgt (Pg.gnd u p.rels) f:=by
  unfold Pg.hgtF;rw[if_pos ⟨ha,aX5 h.uni,h1⟩,ce9 h.uni.ok,h.gr,h3]
 rw[hh,D5] at hc;exact hc
theorem bP4 {l:List FcV} {x:FcV}:(ad8 FcV.cmp l x).length<=l.length+1:=by
 induction l with
 | nil=>simp[ad8]
 | cons y q ih =>
  unfold ad8;split
  ·simp only[f_];omega
  ·split<;>simp only[f_]<;>omega
theorem cz6 {n:Nat} (h:n<=4):List.take n [[D.int .i64 0],[D.int .i64 1],[D.int .i64 2],[D.int .i64 3]]=A9 ((List.range n).map fun i:Nat=>(i:Int)):=by
 rcases(show n=0\/n=1\/n=2\/n=3\/n=4 by omega) with rfl | rfl | rfl | rfl | rfl<;>rfl
theorem aY1 {b L:Nat}:∀n k,I8 b L n k<=max k (L * b)
 | 0,k=>by simp only[I8];omega
 | n+1,k=>by
  simp only[I8];split
  ·have h1:=aY1 (b:=b) (L:=L) n (k * b)
   have h2:k * b<=L * b:=Nat.mul_le_mul_right _ (by assumption);omega
  ·omega
theorem bm4 {p:Pg} {u:List V} (h:Made p u):ACalls Tryz.prog 42 [.d (.agg p.enc),.d (.sl (u.map V.enc))] [] (fun c H'=>∃(F:List FcV) (b:Bool),c=.tup [.d (.sl (F.map fcE)),.d (.bool b)]/\H'=[]/\F.length<=2000/\∀f,f∈F->bm5 p u f):=by
 have hmx:maxLen=9223372036854775807:=rfl;have hok:=Q3 p (by have:=h.wp;omega);have hun:=ay5 (u.map V.tm) h.mem (by rw[h_];have:=h.uni.le;omega);rw[h.ok] at hok;rw[aX5 h.uni,D5] at hun;have hul:=h.uni.le;have hup:=h.uni.pos;have hmu:(u.map V.enc).length=u.length:=h_ _;have hmf:∀l:List FcV,(l.map fcE).length=l.length:=fun l=>h_ _;refine aE_ Tryz.func42 ?_;refine rS_ Tryz.func42 ?_;simp only[go_sem,seval]
 repeat' (first|((first|refine hok.calls rfl ?_|refine hun.calls rfl ?_)<;>(try simp only[go_sem,seval]))|fail)
 refine AW.nilG 6 rfl ?_;refine rS_ Tryz.func42 ?_;simp only[go_sem,seval];refine AW.rng p.rels [1,24,25] 26 24 (fun F:List FcV=>[(6,.d (.sl (F.map fcE)))]) (fun _ _=>[.box [.d (.sl (p.rels.map Rl.enc))]]) (fun _ F=>ai0 FcV.cmp F/\F.length<=2001/\∀f,f∈F->bm5 p u f) [] rfl (by simp) ⟨List.Pairwise.nil,by simp,fun f hf=>by cases hf⟩ (by refine⟨by simp[mkS,Pg.enc_eq],by simp[mkS,Pg.enc_eq],by simp only[mkS,e_,i_,O.refsLt,C.refsLt,C.refsLt1,l7];first | done | rfl | (simp;done),?_⟩;simp[mkS,Abs.get,C.refsLtT,C.refsLt,C.refsLt1]) (fun ii x r F hxi hdr hlt hm hinv hnext=>?_) (fun F hinv=>?_)
 ·obtain⟨i1,i2,i3⟩:=hinv
  have hxm:=d_ hxi;obtain⟨z1,z2,z3,z4⟩:=Pg.dims h.ok hxm;obtain⟨a,ha,ha4⟩:∃a:Nat,x.arity=(a:Int)/\a<=4:=⟨x.arity.toNat,by omega,by omega⟩;have hRe:=Rl.enc_eq x;rw[ha] at hRe;have hwy:=bh9 u.length a 2000 hul (by omega) (by omega);have hsw:=aY1 (b:=u.length) (L:=2000) a 1;have hsw2:I8 u.length 2000 a 1<=16000:=by
   have:2000 * u.length<=2000 * 8:=Nat.mul_le_mul_left _ hul;omega
  clear hsw;generalize I8 u.length 2000 a 1=W at *;have wi:IntKind.i64.wrap ((ii:Int)+1)=(ii:Int)+1:=by rw[l6 (by omega) (by omega)]
  refine rS_ Tryz.func42 ?_;simp only[go_sem,seval,hlt,d9 hxi,hRe,ha,hmu]
  repeat' (first|refine hwy.calls rfl ?_<;>try simp only[go_sem,seval,hlt,d9 hxi,hRe,ha,hmu]|fail)
  refine AW.lp [1,8,9,24,25,26] (fun y:Nat×List FcV=>[(10,.d (.int .i64 (y.1:Int))),(6,.d (.sl (y.2.map fcE)))]) (fun _ _=>[.box [.d (.sl (p.rels.map Rl.enc))],.box (x.enc.map .d)]) (fun y=>y.1<=W/\ai0 FcV.cmp y.2/\y.2.length<=2001/\∀f,f∈y.2->bm5 p u f) (fun y=>W - y.1) (0,F) ⟨l_ _,i1,i2,i3⟩ (by refine⟨by simp[mkS,hRe],by simp[mkS,hRe],by simp only[mkS,e_,i_,O.refsLt,C.refsLt,C.refsLt1,l7];first | done | rfl | (simp;done),?_⟩;simp[mkS,Abs.get,C.refsLtT,C.refsLt,C.refsLt1]) ?_;rintro ⟨k,F⟩ ⟨j0,j1,j2,j3⟩ hnx;dsimp only at j0 j1 j2 j3 hnx |-;clear i1 i2 i3;by_cases hc:k<W/\F.length<=2000
  ·have n1:(k:Int)<(W:Int):=by omega
   have n2:(F.length:Int)<=2000:=by omega
   have wk:IntKind.i64.wrap ((k:Int)+1)=(k:Int)+1:=by rw[l6 (by omega) (by omega)]
   have hvs:=aN0 u a k hup (by omega) (by omega) (by omega);have hGl:=M0 u a k;have hGm:=L9 hup a k;generalize E5 u a k=G at *;have hr4:=cz6 ha4;have hbl:(bdD G).length=G.length:=by unfold bdD;rw[h_,aH9]
   refine l9 Tryz.func42 mixed 10 _ _ (by kernel_rfl) ?_;simp only[go_sem,seval,run.eq_1,n1,n2,hRe,ha];refine AW.adoptGB 2 1 4 47 (by decide) rfl rfl ?_;refine rS_ Tryz.func42 ?_;simp only[go_sem,seval,hRe,ha,hr4]
   repeat' (first|((first|refine hvs.calls rfl ?_|refine⟨sd,?_⟩)<;>(try simp only[go_sem,seval,hRe,ha,hr4,hbl]))|fail)
   refine AW.rng G [1,6,8,9,10,11,24,25,26,54,55] 56 54 (fun vs:List V=>[]) (fun _ vs=>[.box [.d (.sl (p.rels.map Rl.enc))],.box (x.enc.map .d),.box [.d (.str x.name),.own 3 vs.length],.grow vs.length 4 47 (vs.map V.enc)]) (fun r vs=>vs++r=G) [] rfl (by simp[hbl]) rfl (by refine⟨by simp[mkS,hRe],by simp[mkS,hRe],by simp only[mkS,e_,i_,O.refsLt,C.refsLt,C.refsLt1,l7];first | done | rfl | (simp;done),?_⟩;simp[mkS,Abs.get,C.refsLtT,C.refsLt,C.refsLt1]) (fun jj v s vs hvi hds hjt hm2 hinv2 hn2=>?_) (fun vs hinv2=>?_)
   ·have hbe:(bdD G)[jj]? = some (.int .i64 (jj:Int) :: v.enc):=by
     unfold bdD;rw[n_,by6 G 0 jj v hvi];simp[Bd.enc,V.enc]
    have hVe:=V.enc_eq v;have hvl:vs.length<=4:=by have:=congrArg List.length hinv2;simp at this;omega
    have wj:IntKind.i64.wrap ((jj:Int)+1)=(jj:Int)+1:=by rw[l6 (by omega) (by omega)]
    refine rS_ Tryz.func42 ?_;simp only[go_sem,seval,hjt,d9 hbe,hbl,hVe,wj]
    repeat' (first|refine⟨sd,?_⟩<;>try simp only[go_sem,seval,hjt,d9 hbe,hbl,hVe,wj]|fail)
    refine hn2 (vs++[v]) _ (by rw[<-hinv2];simp) (by refine⟨by simp[mkS,hRe,hVe],by simp[mkS,hRe,hVe],by simp only[mkS,e_,i_,O.refsLt,C.refsLt,C.refsLt1,l7];first | done | rfl | (simp;done),?_⟩;simp[mkS,Abs.get,C.refsLtT,C.refsLt,C.refsLt1])
   ·rw[g_] at hinv2
    subst hinv2;have hins:=aM6 F (x.name,vs) j1 (by omega);rw[o5] at hins;refine rS_ Tryz.func42 ?_;simp only[go_sem,seval,hbl,wk]
    repeat' (first|refine hins.calls rfl ?_<;>try simp only[go_sem,seval,hbl,wk]|fail)
    refine hnx (k+1,ad8 FcV.cmp F (x.name,vs)) _ ⟨by dsimp only;omega,aq7 FcV.cmp_lin F _ j1,by have:=bP4 (l:=F) (x:=(x.name,vs));dsimp only;omega,fun f hf=>?_⟩ (by dsimp only;omega) (by refine⟨by simp[mkS,hRe],by simp[mkS,hRe],by simp only[mkS,e_,i_,O.refsLt,C.refsLt,C.refsLt1,l7];first | done | rfl | (simp;done),?_⟩;simp[mkS,Abs.get,C.refsLtT,C.refsLt,C.refsLt1]);rcases(ad7 FcV.cmp_lin F _ f).1 hf with rfl | hf
    ·exact⟨x,hxm,rfl,by rw[ha];dsimp only;omega,hGm⟩
    ·exact j3 f hf
  ·by_cases hkW:k<W
   ·have n1:(k:Int)<(W:Int):=by omega
    have n2:¬(F.length:Int)<=2000:=by omega
    refine rS_ Tryz.func42 ?_;simp only[go_sem,seval,n1,n2,hmf,wi];all_goals refine hnext F _ ⟨j1,j2,j3⟩ (by refine⟨by simp[mkS,Pg.enc_eq],by simp[mkS,Pg.enc_eq],by simp only[mkS,e_,i_,O.refsLt,C.refsLt,C.refsLt1,l7];first | done | rfl | (simp;done),?_⟩;simp[mkS,Abs.get,C.refsLtT,C.refsLt,C.refsLt1])
   ·have n1:¬(k:Int)<(W:Int):=by omega
    refine rS_ Tryz.func42 ?_;simp only[go_sem,seval,n1,hmf,wi];all_goals refine hnext F _ ⟨j1,j2,j3⟩ (by refine⟨by simp[mkS,Pg.enc_eq],by simp[mkS,Pg.enc_eq],by simp only[mkS,e_,i_,O.refsLt,C.refsLt,C.refsLt1,l7];first | done | rfl | (simp;done),?_⟩;simp[mkS,Abs.get,C.refsLtT,C.refsLt,C.refsLt1])
 ·obtain⟨i1,i2,i3⟩:=hinv
  by_cases h2:F.length<=2000
  ·have n2:¬(2000:Int)<(F.length:Int):=by omega
   have hcp:=bt7 F (by omega) (fun f hf=>by
    obtain⟨x,hx,f1,f2,f3⟩:=i3 f hf;obtain⟨z1,z2,z3,z4⟩:=Pg.dims h.ok hx;have:=aD7 f.2 (fun v hv=>h.uw v (f3 v hv));omega)
   refine rS_ Tryz.func42 ?_;simp only[go_sem,seval,hmf,n2]
   repeat' (first|exact⟨F,true,rfl,h2,i3⟩|refine hcp.calls rfl ?_<;>try simp only[go_sem,seval,hmf,n2]|fail)
  ·have n2:(2000:Int)<(F.length:Int):=by omega
   refine rS_ Tryz.func42 ?_;simp only[go_sem,seval,hmf,n2]
   repeat' (first|(exact⟨[],false,rfl,by simp,fun f hf=>by cases hf⟩)|fail)
end Go.Proofs.YtehgpkadkdekmaaGreatDoor
