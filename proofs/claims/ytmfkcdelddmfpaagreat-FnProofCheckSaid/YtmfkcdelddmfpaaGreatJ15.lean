import Derived.Test.YtmfkcdelddmfpaaGreatJ14
open List renaming append_assoc->a_,mem_of_getElem?->c_,append_nil->d_,all_cons->e_,length_cons->f_,all_nil->g_,getElem?_eq_some_iff->h_,length_map->i_,length_append->j_,getElem?_eq_getElem->m_,map_nil->o_,length_drop->r_,nil_append->s_,length_nil->t_,getElem?_map->v_,map_cons->w_,all_append->x_,mem_map->B_,map_map->D_,map_append->H_,getD_eq_getElem?_getD->J_,drop_eq_getElem_cons->K_,mem_cons->L_
open Nat renaming le_refl->b_,zero_le->q_,mul_le_mul->F_,sub_self->G_,min_eq_left->I_,lt_irrefl->M_
open Bool renaming true_and->k_,false_and->l_,eq_iff_iff->u_,not_eq_true->y_,and_eq_true->z_,and_false->E_
open Option renaming isSome_some->n_,getD_some->p_,isSome_none->A_,getD_none->C_
namespace Go.Proofs.YtmfkcdelddmfpaaGreat
open Go.Abs
set_option maxRecDepth 100000
set_option maxHeartbeats 4000000
set_option linter.unusedSimpArgs false
set_option linter.unusedVariables false
theorem wrapN {x:Int} (n:Nat) (e:x=n) (h:n<=9223372036854775807):IntKind.i64.wrap x=(n:Int):=by
 rw [e];exact l6 (by omega) (by omega)
section
variable {α:Type} {g sf:FuncId} {cs ds:List C} {n m:Nat} {Hs:(Nat->α)->List O} {lt:α->α->Bool}
theorem ae7 (h:Srtr Tryz.prog g cs sf ds n m Hs lt) (hn:n<4611686018427387904) (a b k:Nat) (f:Nat->α) (h1:a+k<=b) (h2:b+k<=n) :
  l8 Tryz.prog 204 [.agg [.fn g cs,.xfn sf ds],.d (.int .i64 a),.d (.int .i64 b),.d (.int .i64 k)] (Hs f) (fun c H'=>c=.tup []/\H'=Hs (srx a b k f)):=by
 refine aE_ Tryz.func204 ?_;refine rS_ Tryz.func204 ?_;simp only [go_sem,seval,h.len,h.gog,h.at0,h.atj,h.set0,h.setj,h.tk,h.tk0,h.tkj,h.refs,h.refsj,h.hcaps,h.capsj,h.hcaps2,h.capsj2,a_];refine AW.lp [1,2,3,4] (fun i:Nat=>[(8,.d (.int .i64 (i:Int)))]) (fun _ i=>Hs (srx a b i f)++[.box [.fn g cs,.xfn sf ds]]) (fun i=>i<=k) (fun i=>k - i) 0 (q_ _) (by rw [bS1];exact by refine ⟨by simp [mkS,h.len],by simp only [mkS,j_,f_,t_,h.len,h.tkj,h.tk0,h.tk];first | done | rfl | (simp;done),by simp [mkS,O.refsLt,C.refsLt,C.refsLt1,h.len,h.refs,h.refsj,h.hcaps,h.capsj,h.hcaps2,h.capsj2,o5,O4,-List.all_eq_true],?_⟩;simp [mkS,Abs.get,C.refsLtT,C.refsLt,C.refsLt1,h.len,h.hcaps,h.capsj,h.hcaps2,h.capsj2,-List.all_eq_true]) ?_;intro i hi hnext;by_cases hc:i<k
 ·have n1:(i:Int)<(k:Int):=by omega
  have w1:IntKind.i64.wrap ((a:Int)+(i:Int))=((a+i:Nat):Int):=wrapN _ (by omega) (by omega);have w2:IntKind.i64.wrap ((b:Int)+(i:Int))=((b+i:Nat):Int):=wrapN _ (by omega) (by omega);have w3:IntKind.i64.wrap ((i:Int)+1)=((i+1:Nat):Int):=wrapN _ (by omega) (by omega);have hs:=h.swap (srx a b i f) [.box [.fn g cs,.xfn sf ds]] (a+i) (b+i) (by omega) (by omega);rw [bS0 a b i f (by omega)] at hs;refine rS_ Tryz.func204 ?_;simp only [go_sem,seval,n1,w1,w2,w3,h.len,h.gog,h.at0,h.atj,h.set0,h.setj,h.tk,h.tk0,h.tkj,h.refs,h.refsj,h.hcaps,h.capsj,h.hcaps2,h.capsj2,a_]
  repeat' (first
   | ((refine hs.mono ?_<;>(rintro c H' ⟨rfl,rfl⟩))<;>(try simp only [go_sem,seval,n1,w1,w2,w3,h.len,h.gog,h.at0,h.atj,h.set0,h.setj,h.tk,h.tk0,h.tkj,h.refs,h.refsj,h.hcaps,h.capsj,h.hcaps2,h.capsj2,a_]))
   | fail)
  all_goals refine hnext (i+1) _ (by omega) (by omega) ag8
 ·have n1:¬(i:Int)<(k:Int):=by omega
  obtain rfl:i=k:=by omega
  refine rS_ Tryz.func204 ?_;simp only [go_sem,seval,n1,h.len,h.gog,h.at0,h.atj,h.set0,h.setj,h.tk,h.tk0,h.tkj,h.refs,h.refsj,h.hcaps,h.capsj,h.hcaps2,h.capsj2,a_]
theorem ab0 (h:Srtr Tryz.prog g cs sf ds n m Hs lt) (hw:Wk lt) (hn:n<4611686018427387904) (a b:Nat) (f:Nat->α) (hab:a<=b) (hb:b<=n) :
  l8 Tryz.prog 188 [.agg [.fn g cs,.xfn sf ds],.d (.int .i64 a),.d (.int .i64 b)] (Hs f) (fun c H'=>c=.tup []/\∃f',Mv n a b f f'/\srt lt f' a b/\H'=Hs f'):=by
 have w0:IntKind.i64.wrap ((a:Int)+1)=((a+1:Nat):Int):=wrapN _ (by omega) (by omega);refine aE_ Tryz.func188 ?_;refine rS_ Tryz.func188 ?_;simp only [go_sem,seval,h.len,h.gog,h.at0,h.atj,h.set0,h.setj,h.tk,h.tk0,h.tkj,h.refs,h.refsj,h.hcaps,h.capsj,h.hcaps2,h.capsj2,a_,w0];refine AW.lp [1,2,3] (fun u:Nat×(Nat->α)=>[(6,.d (.int .i64 (u.1:Int)))]) (fun _ u=>Hs u.2++[.box [.fn g cs,.xfn sf ds]]) (fun u=>a<u.1/\(u.1<=b\/u.1=a+1)/\Mv n a b f u.2/\srt lt u.2 a u.1) (fun u=>b - u.1) (a+1,f) ⟨by dsimp only;omega,.inr rfl,Mv.refl _ _ _ _,aS0 _ _ _ (b_ _)⟩ ag8 ?_;rintro ⟨i,f1⟩ ⟨h1,h2,h3,h4⟩ hnext;dsimp only at h1 h2 h3 h4 hnext |-;have hnx:=fun i' f' s'=>hnext (i',f') s';clear hnext;by_cases hc:i<b
 ·have n1:(i:Int)<(b:Int):=by omega
  have w3:IntKind.i64.wrap ((i:Int)+1)=((i+1:Nat):Int):=wrapN _ (by omega) (by omega);refine rS_ Tryz.func188 ?_;simp only [go_sem,seval,n1,h.len,h.gog,h.at0,h.atj,h.set0,h.setj,h.tk,h.tk0,h.tkj,h.refs,h.refsj,h.hcaps,h.capsj,h.hcaps2,h.capsj2,a_];refine AW.lp [1,2,3,6] (fun u:Nat×(Nat->α)=>[(7,.d (.int .i64 (u.1:Int)))]) (fun _ u=>Hs u.2++[.box [.fn g cs,.xfn sf ds]]) (fun u=>a<=u.1/\u.1<=i/\Mv n a b f u.2/\bV7 lt u.2 a u.1 i) (fun u=>u.1) (i,f1) ⟨by dsimp only;omega,b_ _,h3,bV6 h4⟩ ag8 ?_;rintro ⟨j,f2⟩ ⟨j1,j2,j3,j4⟩ hnext;dsimp only at j1 j2 j3 j4 hnext |-;have hny:=fun i' f' s'=>hnext (i',f') s';clear hnext;by_cases hj:a<j
  ·have n2:(a:Int)<(j:Int):=by omega
   have w1:IntKind.i64.wrap ((j:Int) - 1)=((j - 1:Nat):Int):=wrapN _ (by omega) (by omega);have hl:=h.less f2 [.box [.fn g cs,.xfn sf ds]] j (j - 1) (by omega) (by omega);have hs:=h.swap f2 [.box [.fn g cs,.xfn sf ds]] j (j - 1) (by omega) (by omega);cases hlt:lt (f2 j) (f2 (j - 1)) with
   | true =>
    rw [hlt] at hl;refine rS_ Tryz.func188 ?_;simp only [go_sem,seval,n2,w1,h.len,h.gog,h.at0,h.atj,h.set0,h.setj,h.tk,h.tk0,h.tkj,h.refs,h.refsj,h.hcaps,h.capsj,h.hcaps2,h.capsj2,a_]
    repeat' (first
     | ((first
      | (refine hl.mono ?_<;>(rintro c H' ⟨rfl,rfl⟩))
      | (refine hs.mono ?_<;>(rintro c H' ⟨rfl,rfl⟩)))<;>(try simp only [go_sem,seval,n2,w1,h.len,h.gog,h.at0,h.atj,h.set0,h.setj,h.tk,h.tk0,h.tkj,h.refs,h.refsj,h.hcaps,h.capsj,h.hcaps2,h.capsj2,a_]))
     | fail)
    all_goals refine hny (j - 1) _ _ ⟨by omega,by omega,j3.trans (.swp _ hb (by omega) (by omega) (by omega) (by omega)),bV5 hw j4 hj j2 hlt⟩ (by omega) ag8
   | false =>
    rw [hlt] at hl;have he:=ba3 hw j4 j1 j2 (.inr hlt);refine rS_ Tryz.func188 ?_;simp only [go_sem,seval,n2,w1,h.len,h.gog,h.at0,h.atj,h.set0,h.setj,h.tk,h.tk0,h.tkj,h.refs,h.refsj,h.hcaps,h.capsj,h.hcaps2,h.capsj2,a_]
    repeat' (first
     | ((refine hl.mono ?_<;>(rintro c H' ⟨rfl,rfl⟩))<;>(try simp only [go_sem,seval,n2,w1,w3,h.len,h.gog,h.at0,h.atj,h.set0,h.setj,h.tk,h.tk0,h.tkj,h.refs,h.refsj,h.hcaps,h.capsj,h.hcaps2,h.capsj2,a_]))
     | fail)
    all_goals refine hnx (i+1) f2 _ ⟨by omega,.inl (by omega),j3,he⟩ (by omega) ag8
  ·have n2:¬(a:Int)<(j:Int):=by omega
   have he:=ba3 hw j4 j1 j2 (.inl (by omega));refine rS_ Tryz.func188 ?_;simp only [go_sem,seval,n2,h.len,h.gog,h.at0,h.atj,h.set0,h.setj,h.tk,h.tk0,h.tkj,h.refs,h.refsj,h.hcaps,h.capsj,h.hcaps2,h.capsj2,a_]
   repeat' (first
    | (simp (disch:=omega) only [l6])
    | fail)
   all_goals refine hnx (i+1) f2 _ ⟨by omega,.inl (by omega),j3,he⟩ (by omega) ag8
 ·have n1:¬(i:Int)<(b:Int):=by omega
  refine rS_ Tryz.func188 ?_;simp only [go_sem,seval,n1,h.len,h.gog,h.at0,h.atj,h.set0,h.setj,h.tk,h.tk0,h.tkj,h.refs,h.refsj,h.hcaps,h.capsj,h.hcaps2,h.capsj2,a_]
  repeat' (first
   | ((first
    | (refine ⟨sd,?_⟩)
    | (refine ⟨by assumption,?_⟩))<;>(try simp only [go_sem,seval,n1,h.len,h.gog,h.at0,h.atj,h.set0,h.setj,h.tk,h.tk0,h.tkj,h.refs,h.refsj,h.hcaps,h.capsj,h.hcaps2,h.capsj2,a_]))
   | fail)
  all_goals exact p9 h4 (b_ _) (by omega)
theorem aZ3 (h:Srtr Tryz.prog g cs sf ds n m Hs lt) (hn:n<4611686018427387904) (a c b:Nat) (f:Nat->α) (h1:a<c) (h2:c<b) (hb:b<=n) :
  l8 Tryz.prog 192 [.agg [.fn g cs,.xfn sf ds],.d (.int .i64 a),.d (.int .i64 c),.d (.int .i64 b)] (Hs f) (fun r H'=>r=.tup []/\Mv n a b f (rot a c b f)/\H'=Hs (rot a c b f)):=by
 have hX:=h.ext [.box [.fn g cs,.xfn sf ds]] (by simp [O.refsLt,C.refsLt,h.capsj,h.capsj2,-List.all_eq_true]);have w1:IntKind.i64.wrap ((c:Int) - (a:Int))=((c - a:Nat):Int):=wrapN _ (by omega) (by omega);have w2:IntKind.i64.wrap ((b:Int) - (c:Int))=((b - c:Nat):Int):=wrapN _ (by omega) (by omega);refine aE_ Tryz.func192 ?_;refine rS_ Tryz.func192 ?_;simp only [go_sem,seval,h.len,h.gog,h.at0,h.atj,h.set0,h.setj,h.tk,h.tk0,h.tkj,h.refs,h.refsj,h.hcaps,h.capsj,h.hcaps2,h.capsj2,a_,w1,w2];refine AW.lp [2,4] (fun u:Nat×Nat×(Nat->α)=>[(8,.d (.int .i64 (u.1:Int))),(9,.d (.int .i64 (u.2.1:Int)))]) (fun _ u=>Hs u.2.2++[.box [.fn g cs,.xfn sf ds]]) (fun u=>0<u.1/\0<u.2.1/\u.1<=c - a/\u.2.1<=b - c/\Mv n a b f u.2.2/\rot (c - u.1) c (c+u.2.1) u.2.2=rot a c b f) (fun u=>u.1+u.2.1) (c - a,b - c,f) ⟨by dsimp only;omega,by dsimp only;omega,b_ _,b_ _,Mv.refl _ _ _ _,by dsimp only;rw [show c - (c - a)=a by omega,show c+(b - c)=b by omega]⟩ ag8 ?_;rintro ⟨i,j,f1⟩ ⟨i1,i2,i3,i4,i5,i6⟩ hnext;dsimp only at i1 i2 i3 i4 i5 i6 hnext |-;have hnx:=fun i' j' f' s'=>hnext (i',j',f') s';clear hnext;have v1:IntKind.i64.wrap ((c:Int) - (i:Int))=((c - i:Nat):Int):=wrapN _ (by omega) (by omega);have v2:IntKind.i64.wrap ((c:Int)+(j:Int))=((c+j:Nat):Int):=wrapN _ (by omega) (by omega);rcases Nat.lt_trichotomy i j with hij | hij | hij
 ·have n1:¬(i:Int)=(j:Int):=by omega
  have n2:¬(j:Int)<(i:Int):=by omega
  have v3:IntKind.i64.wrap ((c:Int)+(j:Int) - (i:Int))=((c+j - i:Nat):Int):=wrapN _ (by omega) (by omega);have v4:IntKind.i64.wrap ((j:Int) - (i:Int))=((j - i:Nat):Int):=wrapN _ (by omega) (by omega);have hs:=ae7 hX hn (c - i) (c+j - i) i f1 (by omega) (by omega);have hm:=aY4 n (c - i) (c+j - i) f1 i (by omega) (by omega);have nb:((i:Int) != (j:Int))=true:=by simp;omega
  refine rS_ Tryz.func192 ?_;simp only [go_sem,seval,nb,n2,v1,v2,v3,v4,h.len,h.gog,h.at0,h.atj,h.set0,h.setj,h.tk,h.tk0,h.tkj,h.refs,h.refsj,h.hcaps,h.capsj,h.hcaps2,h.capsj2,a_]
  repeat' (first
   | ((refine hs.mono ?_<;>(rintro c H' ⟨rfl,rfl⟩))<;>(try simp only [go_sem,seval,nb,n2,v1,v2,v3,v4,h.len,h.gog,h.at0,h.atj,h.set0,h.setj,h.tk,h.tk0,h.tkj,h.refs,h.refsj,h.hcaps,h.capsj,h.hcaps2,h.capsj2,a_]))
   | fail)
  all_goals refine hnx i (j - i) (srx (c - i) (c+j - i) i f1) _ ⟨i1,by dsimp only;omega,i3,by dsimp only;omega,i5.trans (hm.mono (by omega) (by omega)),?_⟩ (by dsimp only;omega) ag8
  all_goals (rw [bS3 c i j f1 hij (by omega) i1];exact i6)
 ·subst hij
  have hs:=ae7 hX hn (c - i) c i f1 (by omega) (by omega);have hm:=aY4 n (c - i) c f1 i (by omega) (by omega);rw [bS5 c i f1 (by omega),i6] at hs hm;refine rS_ Tryz.func192 ?_;simp only [go_sem,seval,v1,h.len,h.gog,h.at0,h.atj,h.set0,h.setj,h.tk,h.tk0,h.tkj,h.refs,h.refsj,h.hcaps,h.capsj,h.hcaps2,h.capsj2,a_]
  repeat' (first
   | ((refine hs.mono ?_<;>(rintro c H' ⟨rfl,rfl⟩))<;>(try simp only [go_sem,seval,v1,h.len,h.gog,h.at0,h.atj,h.set0,h.setj,h.tk,h.tk0,h.tkj,h.refs,h.refsj,h.hcaps,h.capsj,h.hcaps2,h.capsj2,a_]))
   | fail)
  all_goals exact i5.trans (hm.mono (by omega) (by omega))
 ·have n1:¬(i:Int)=(j:Int):=by omega
  have n2:(j:Int)<(i:Int):=by omega
  have v4:IntKind.i64.wrap ((i:Int) - (j:Int))=((i - j:Nat):Int):=wrapN _ (by omega) (by omega);have hs:=ae7 hX hn (c - i) c j f1 (by omega) (by omega);have hm:=aY4 n (c - i) c f1 j (by omega) (by omega);have nb:((i:Int) != (j:Int))=true:=by simp;omega
  refine rS_ Tryz.func192 ?_;simp only [go_sem,seval,nb,n2,v1,v4,h.len,h.gog,h.at0,h.atj,h.set0,h.setj,h.tk,h.tk0,h.tkj,h.refs,h.refsj,h.hcaps,h.capsj,h.hcaps2,h.capsj2,a_]
  repeat' (first
   | ((refine hs.mono ?_<;>(rintro c H' ⟨rfl,rfl⟩))<;>(try simp only [go_sem,seval,nb,n2,v1,v4,h.len,h.gog,h.at0,h.atj,h.set0,h.setj,h.tk,h.tk0,h.tkj,h.refs,h.refsj,h.hcaps,h.capsj,h.hcaps2,h.capsj2,a_]))
   | fail)
  all_goals refine hnx (i - j) j (srx (c - i) c j f1) _ ⟨by dsimp only;omega,i2,by dsimp only;omega,i4,i5.trans (hm.mono (by omega) (by omega)),?_⟩ (by dsimp only;omega) ag8
  all_goals (rw [bS4 c i j f1 hij (by omega) i2];exact i6)
end
set_option maxHeartbeats 8000000
theorem bi3 (x y:Nat) (h:x+y<9223372036854775808):IntKind.i64.wrap (bP8 .u64 (IntKind.u64.wrap ((x:Int)+(y:Int))) 1)=(((x+y) / 2:Nat):Int):=by
 have h1:IntKind.u64.wrap ((x:Int)+(y:Int))=(x:Int)+(y:Int):=by
  unfold IntKind.wrap;simp [IntKind.bits,IntKind.signed];omega
 rw [h1];unfold bP8;have h2:((x:Int)+(y:Int)).fdiv (2 ^ (min (1:Int).toNat IntKind.u64.bits))=(((x+y) / 2:Nat):Int):=by
  show ((x:Int)+(y:Int)).fdiv 2=_;rw [Int.fdiv_eq_ediv_of_nonneg _ (by omega)];omega
 rw [h2];exact wrapN _ rfl (by omega)
section
variable {α:Type} {g sf:FuncId} {cs ds:List C} {n:Nat} {lt:α->α->Bool}
theorem az9 (hw:Wk lt) (hn:n<4611686018427387904):∀(k m:Nat) (Hs:(Nat->α)->List O) (h:Srtr Tryz.prog g cs sf ds n m Hs lt) (a c b:Nat) (f:Nat->α),b - a<=k->a<c->c<b->b<=n->srt lt f a c->srt lt f c b ->
  l8 Tryz.prog 189 [.agg [.fn g cs,.xfn sf ds],.d (.int .i64 a),.d (.int .i64 c),.d (.int .i64 b)] (Hs f) (fun r H'=>r=.tup []/\∃f',Mv n a b f f'/\srt lt f' a b/\H'=Hs f'):=by
 intro k;induction k with
 | zero=>intro m Hs h a c b f hk h1 h2;omega
 | succ k ih =>
 intro m Hs h a c b f hk h1 h2 hb hs1 hs2;have hX:=h.ext [.box [.fn g cs,.xfn sf ds]] (by simp [O.refsLt,C.refsLt,h.capsj,h.capsj2,-List.all_eq_true]);by_cases c1:c=a+1
 ·
  have w1:IntKind.i64.wrap ((c:Int) - (a:Int))=1:=by rw [show (c:Int) - a=1 by omega];decide
  refine aE_ Tryz.func189 ?_;refine rS_ Tryz.func189 ?_;simp only [go_sem,seval,h.len,h.gog,h.at0,h.atj,h.set0,h.setj,h.tk,h.tk0,h.tkj,h.refs,h.refsj,h.hcaps,h.capsj,h.hcaps2,h.capsj2,a_,w1];refine AW.lp [1,4] (fun u:Nat×Nat=>[(8,.d (.int .i64 (u.1:Int))),(9,.d (.int .i64 (u.2:Int)))]) (fun H _=>H) (fun u=>c<=u.1/\u.1<=u.2/\u.2<=b/\(∀x,c<=x->x<u.1->lt (f x) (f a)=true)/\(∀x,u.2<=x->x<b->lt (f x) (f a)=false)) (fun u=>u.2 - u.1) (c,b) ⟨b_ _,by dsimp only;omega,b_ _,fun x hx hx'=>by dsimp only at hx';omega,fun x hx hx'=>by dsimp only at hx;omega⟩ ag8 ?_;rintro ⟨i,j⟩ ⟨i1,i2,i3,i4,i5⟩ hnext;dsimp only at i1 i2 i3 i4 i5 hnext |-;have hnx:=fun i' j' s'=>hnext (i',j') s';clear hnext;by_cases hij:i<j
  ·have n1:(i:Int)<(j:Int):=by omega
   have hh:=bi3 i j (by omega);have w2:IntKind.i64.wrap ((i:Int)+(j:Int))=(i:Int)+(j:Int):=l6 (by omega) (by omega);have hl:=h.less f [.box [.fn g cs,.xfn sf ds]] ((i+j) / 2) a (by omega) (by omega);have w3:IntKind.i64.wrap ((((i+j) / 2:Nat):Int)+1)=(((i+j) / 2+1:Nat):Int):=wrapN _ (by omega) (by omega);cases hlt:lt (f ((i+j) / 2)) (f a) with
   | true =>
    rw [hlt] at hl;refine rS_ Tryz.func189 ?_;simp only [go_sem,seval,n1,w2,hh,h.len,h.gog,h.at0,h.atj,h.set0,h.setj,h.tk,h.tk0,h.tkj,h.refs,h.refsj,h.hcaps,h.capsj,h.hcaps2,h.capsj2,a_]
    repeat' (first
     | ((refine hl.mono ?_<;>(rintro c H' ⟨rfl,rfl⟩))<;>(try simp only [go_sem,seval,n1,w2,hh,w3,h.len,h.gog,h.at0,h.atj,h.set0,h.setj,h.tk,h.tk0,h.tkj,h.refs,h.refsj,h.hcaps,h.capsj,h.hcaps2,h.capsj2,a_]))
     | fail)
    refine hnx ((i+j) / 2+1) j _ ⟨by dsimp only;omega,by dsimp only;omega,i3,fun x hx hx'=>?_,i5⟩ (by dsimp only;omega) ag8;exact bG5 hw (an6 hw hs2 hx (by dsimp only at hx';omega) (by omega)) hlt
   | false =>
    rw [hlt] at hl;refine rS_ Tryz.func189 ?_;simp only [go_sem,seval,n1,w2,hh,h.len,h.gog,h.at0,h.atj,h.set0,h.setj,h.tk,h.tk0,h.tkj,h.refs,h.refsj,h.hcaps,h.capsj,h.hcaps2,h.capsj2,a_]
    repeat' (first
     | ((refine hl.mono ?_<;>(rintro c H' ⟨rfl,rfl⟩))<;>(try simp only [go_sem,seval,n1,w2,hh,w3,h.len,h.gog,h.at0,h.atj,h.set0,h.setj,h.tk,h.tk0,h.tkj,h.refs,h.refsj,h.hcaps,h.capsj,h.hcaps2,h.capsj2,a_]))
     | fail)
    refine hnx i ((i+j) / 2) _ ⟨i1,by dsimp only;omega,by dsimp only;omega,i4,fun x hx hx'=>?_⟩ (by dsimp only;omega) ag8;exact hw.tr _ _ _ hlt (an6 hw hs2 (by omega) hx hx')
  ·have n1:¬(i:Int)<(j:Int):=by omega
   obtain rfl:i=j:=by omega
   have w2:IntKind.i64.wrap ((i:Int) - 1)=((i - 1:Nat):Int):=wrapN _ (by omega) (by omega);refine l7 Tryz.func189 mixed 16 _ _ (by kernel_rfl) ?_;simp only [go_sem,seval,run.eq_1,n1,h.len,h.gog,h.at0,h.atj,h.set0,h.setj,h.tk,h.tk0,h.tkj,h.refs,h.refsj,h.hcaps,h.capsj,h.hcaps2,h.capsj2,a_];refine AW.lp [4,8] (fun k:Nat=>[(11,.d (.int .i64 (k:Int)))]) (fun _ k=>Hs (mvU a k f)++[.box [.fn g cs,.xfn sf ds]]) (fun k=>a<=k/\k<=i - 1) (fun k=>i - 1 - k) a ⟨b_ _,by omega⟩ (by rw [bL0];exact by refine ⟨by simp [mkS,h.len],by simp only [mkS,j_,f_,t_,h.len,h.tkj,h.tk0,h.tk];first | done | rfl | (simp;done),by simp [mkS,O.refsLt,C.refsLt,C.refsLt1,h.len,h.refs,h.refsj,h.hcaps,h.capsj,h.hcaps2,h.capsj2,o5,O4,-List.all_eq_true],?_⟩;simp [mkS,Abs.get,C.refsLtT,C.refsLt,C.refsLt1,h.len,h.hcaps,h.capsj,h.hcaps2,h.capsj2,-List.all_eq_true]) ?_;intro k' hk' hny;by_cases hc:k'<i - 1
   ·have n2:(k':Int)<((i - 1:Nat):Int):=by omega
    have w4:IntKind.i64.wrap ((k':Int)+1)=((k'+1:Nat):Int):=wrapN _ (by omega) (by omega);have hs:=h.swap (mvU a k' f) [.box [.fn g cs,.xfn sf ds]] k' (k'+1) (by omega) (by omega);rw [bT4 a k' f hk'.1] at hs;refine rS_ Tryz.func189 ?_;simp only [go_sem,seval,n2,w2,w4,h.len,h.gog,h.at0,h.atj,h.set0,h.setj,h.tk,h.tk0,h.tkj,h.refs,h.refsj,h.hcaps,h.capsj,h.hcaps2,h.capsj2,a_]
    repeat' (first
     | ((refine hs.mono ?_<;>(rintro c H' ⟨rfl,rfl⟩))<;>(try simp only [go_sem,seval,n2,w2,w4,h.len,h.gog,h.at0,h.atj,h.set0,h.setj,h.tk,h.tk0,h.tkj,h.refs,h.refsj,h.hcaps,h.capsj,h.hcaps2,h.capsj2,a_]))
     | fail)
    all_goals refine hny (k'+1) _ ⟨by omega,by omega⟩ (by omega) ag8
   ·have n2:¬(k':Int)<((i - 1:Nat):Int):=by omega
    obtain rfl:k'=i - 1:=by omega
    have hM:=bT5 n a b f (i - 1) hk'.1 (by omega) hb;have hS:=bK9 hw (by rw [<-c1];exact hs2) (show a<i by omega) i3 (fun x hx hx'=>i4 x (by omega) hx') i5;refine rS_ Tryz.func189 ?_;simp only [go_sem,seval,n2,w2,h.len,h.gog,h.at0,h.atj,h.set0,h.setj,h.tk,h.tk0,h.tkj,h.refs,h.refsj,h.hcaps,h.capsj,h.hcaps2,h.capsj2,a_]
    repeat' (first
     | (exact ⟨_,hM,hS,rfl⟩)
     | fail)
 ·by_cases c2:b=c+1
  ·
   have w1:IntKind.i64.wrap ((c:Int) - (a:Int))=((c - a:Nat):Int):=wrapN _ (by omega) (by omega);have n0:¬((c - a:Nat):Int)=1:=by omega
   have w5:IntKind.i64.wrap ((b:Int) - (c:Int))=1:=by rw [show (b:Int) - c=1 by omega];decide
   refine aE_ Tryz.func189 ?_;refine rS_ Tryz.func189 ?_;simp only [go_sem,seval,h.len,h.gog,h.at0,h.atj,h.set0,h.setj,h.tk,h.tk0,h.tkj,h.refs,h.refsj,h.hcaps,h.capsj,h.hcaps2,h.capsj2,a_,w1,w5,n0];refine AW.lp [2,4] (fun u:Nat×Nat=>[(12,.d (.int .i64 (u.1:Int))),(13,.d (.int .i64 (u.2:Int)))]) (fun H _=>H) (fun u=>a<=u.1/\u.1<=u.2/\u.2<=c/\(∀x,a<=x->x<u.1->lt (f c) (f x)=false)/\(∀x,u.2<=x->x<c->lt (f c) (f x)=true)) (fun u=>u.2 - u.1) (a,c) ⟨b_ _,by dsimp only;omega,b_ _,fun x hx hx'=>by dsimp only at hx';omega,fun x hx hx'=>by dsimp only at hx;omega⟩ ag8 ?_;rintro ⟨i,j⟩ ⟨i1,i2,i3,i4,i5⟩ hnext;dsimp only at i1 i2 i3 i4 i5 hnext |-;have hnx:=fun i' j' s'=>hnext (i',j') s';clear hnext;by_cases hij:i<j
   ·have n1:(i:Int)<(j:Int):=by omega
    have hh:=bi3 i j (by omega);have w2:IntKind.i64.wrap ((i:Int)+(j:Int))=(i:Int)+(j:Int):=l6 (by omega) (by omega);have hl:=h.less f [.box [.fn g cs,.xfn sf ds]] c ((i+j) / 2) (by omega) (by omega);have w3:IntKind.i64.wrap ((((i+j) / 2:Nat):Int)+1)=(((i+j) / 2+1:Nat):Int):=wrapN _ (by omega) (by omega);cases hlt:lt (f c) (f ((i+j) / 2)) with
    | false =>
     rw [hlt] at hl;refine rS_ Tryz.func189 ?_;simp only [go_sem,seval,n1,w2,hh,h.len,h.gog,h.at0,h.atj,h.set0,h.setj,h.tk,h.tk0,h.tkj,h.refs,h.refsj,h.hcaps,h.capsj,h.hcaps2,h.capsj2,a_]
     repeat' (first
      | ((refine hl.mono ?_<;>(rintro c H' ⟨rfl,rfl⟩))<;>(try simp only [go_sem,seval,n1,w2,hh,w3,h.len,h.gog,h.at0,h.atj,h.set0,h.setj,h.tk,h.tk0,h.tkj,h.refs,h.refsj,h.hcaps,h.capsj,h.hcaps2,h.capsj2,a_]))
      | fail)
     refine hnx ((i+j) / 2+1) j _ ⟨by dsimp only;omega,by dsimp only;omega,i3,fun x hx hx'=>?_,i5⟩ (by dsimp only;omega) ag8;exact hw.tr _ _ _ (an6 hw hs1 hx (by dsimp only at hx';omega) (by omega)) hlt
    | true =>
     rw [hlt] at hl;refine rS_ Tryz.func189 ?_;simp only [go_sem,seval,n1,w2,hh,h.len,h.gog,h.at0,h.atj,h.set0,h.setj,h.tk,h.tk0,h.tkj,h.refs,h.refsj,h.hcaps,h.capsj,h.hcaps2,h.capsj2,a_]
     repeat' (first
      | ((refine hl.mono ?_<;>(rintro c H' ⟨rfl,rfl⟩))<;>(try simp only [go_sem,seval,n1,w2,hh,w3,h.len,h.gog,h.at0,h.atj,h.set0,h.setj,h.tk,h.tk0,h.tkj,h.refs,h.refsj,h.hcaps,h.capsj,h.hcaps2,h.capsj2,a_]))
      | fail)
     refine hnx i ((i+j) / 2) _ ⟨i1,by dsimp only;omega,by dsimp only;omega,i4,fun x hx hx'=>?_⟩ (by dsimp only;omega) ag8;exact bG4 hw hlt (an6 hw hs1 (by omega) hx hx')
   ·have n1:¬(i:Int)<(j:Int):=by omega
    obtain rfl:i=j:=by omega
    refine l7 Tryz.func189 mixed 16 _ _ (by kernel_rfl) ?_;simp only [go_sem,seval,run.eq_1,n1,h.len,h.gog,h.at0,h.atj,h.set0,h.setj,h.tk,h.tk0,h.tkj,h.refs,h.refsj,h.hcaps,h.capsj,h.hcaps2,h.capsj2,a_];refine AW.lp [4,12] (fun d:Nat=>[(15,.d (.int .i64 ((c - d:Nat):Int)))]) (fun _ d=>Hs (mvD c (c - d) f)++[.box [.fn g cs,.xfn sf ds]]) (fun d=>d<=c - i) (fun d=>c - i - d) 0 (q_ _) (by rw [Nat.sub_zero,bT7];exact by refine ⟨by simp [mkS,h.len],by simp only [mkS,j_,f_,t_,h.len,h.tkj,h.tk0,h.tk];first | done | rfl | (simp;done),by simp [mkS,O.refsLt,C.refsLt,C.refsLt1,h.len,h.refs,h.refsj,h.hcaps,h.capsj,h.hcaps2,h.capsj2,o5,O4,-List.all_eq_true],?_⟩;simp [mkS,Abs.get,C.refsLtT,C.refsLt,C.refsLt1,h.len,h.hcaps,h.capsj,h.hcaps2,h.capsj2,-List.all_eq_true]) ?_;intro d hd hny;by_cases hc:d<c - i
    ·have n2:(i:Int)<((c - d:Nat):Int):=by omega
     have w4:IntKind.i64.wrap (((c - d:Nat):Int) - 1)=((c - (d+1):Nat):Int):=wrapN _ (by omega) (by omega);have hs:=h.swap (mvD c (c - d) f) [.box [.fn g cs,.xfn sf ds]] (c - d) (c - d - 1) (by omega) (by omega);rw [bT6 c (c - d) f (by omega) (by omega),show c - d - 1=c - (d+1) by omega] at hs;refine rS_ Tryz.func189 ?_;simp only [go_sem,seval,n2,w4,h.len,h.gog,h.at0,h.atj,h.set0,h.setj,h.tk,h.tk0,h.tkj,h.refs,h.refsj,h.hcaps,h.capsj,h.hcaps2,h.capsj2,a_]
     repeat' (first
      | ((refine hs.mono ?_<;>(rintro c H' ⟨rfl,rfl⟩))<;>(try simp only [go_sem,seval,n2,w4,h.len,h.gog,h.at0,h.atj,h.set0,h.setj,h.tk,h.tk0,h.tkj,h.refs,h.refsj,h.hcaps,h.capsj,h.hcaps2,h.capsj2,a_]))
      | fail)
     all_goals refine hny (d+1) _ (by omega) (by omega) ag8
    ·have n2:¬(i:Int)<((c - d:Nat):Int):=by omega
     obtain rfl:d=c - i:=by omega
     have hM:=bG2 n a c f (by omega) (c - i) (by omega) (by omega);rw [<-c2,show c - (c - i)=i by omega] at hM;have hS:=bL1 hw hs1 i3 i1 i4 i5;rw [<-c2] at hS;rw [show c - (c - i)=i by omega] at n2 |-;refine rS_ Tryz.func189 ?_;simp only [go_sem,seval,n2,h.len,h.gog,h.at0,h.atj,h.set0,h.setj,h.tk,h.tk0,h.tkj,h.refs,h.refsj,h.hcaps,h.capsj,h.hcaps2,h.capsj2,a_]
     repeat' (first
      | (exact ⟨_,hM,hS,rfl⟩)
      | fail)
  ·
   have w1:IntKind.i64.wrap ((c:Int) - (a:Int))=((c - a:Nat):Int):=wrapN _ (by omega) (by omega);have n0:¬((c - a:Nat):Int)=1:=by omega
   have w5:IntKind.i64.wrap ((b:Int) - (c:Int))=((b - c:Nat):Int):=wrapN _ (by omega) (by omega);have n5:¬((b - c:Nat):Int)=1:=by omega
   have hh:=bi3 a b (by omega);have w6:IntKind.i64.wrap ((a:Int)+(b:Int))=(a:Int)+(b:Int):=l6 (by omega) (by omega);obtain ⟨mid,hmid⟩:∃mid,(a+b) / 2=mid:=⟨_,rfl⟩;rw [hmid] at hh;have w7:IntKind.i64.wrap ((mid:Int)+(c:Int))=(mid:Int)+(c:Int):=l6 (by omega) (by omega);have w8:IntKind.i64.wrap ((mid:Int)+(c:Int) - 1)=((mid+c - 1:Nat):Int):=wrapN _ (by omega) (by omega);by_cases hc:mid<c
   ·obtain ⟨s0,hs0⟩:∃s0,mid+c - b=s0:=⟨_,rfl⟩
    have n6:(mid:Int)<(c:Int):=by omega
    have w9:IntKind.i64.wrap ((mid:Int)+(c:Int) - (b:Int))=(s0:Int):=wrapN _ (by omega) (by omega);have hrng:∀x,s0<=x->x<mid->a<=x/\x<c/\c<=mid+c - 1 - x/\mid+c - 1 - x<b:=fun x h1 h2=>by omega
    have hA0:s0=a\/mid+c - s0=b:=.inr (by omega);have hB0:mid=c\/mid=mid:=.inr rfl;refine aE_ Tryz.func189 ?_;refine rS_ Tryz.func189 ?_;simp only [go_sem,seval,h.len,h.gog,h.at0,h.atj,h.set0,h.setj,h.tk,h.tk0,h.tkj,h.refs,h.refsj,h.hcaps,h.capsj,h.hcaps2,h.capsj2,a_,w1,w5,n0,n5,w6,hh,w7,w8,w9,n6];refine AW.lp [1,2,3,4,16,17,20] (fun u:Nat×Nat=>[(18,.d (.int .i64 (u.1:Int))),(19,.d (.int .i64 (u.2:Int)))]) (fun H _=>H) (fun u=>Cut lt f (mid+c - 1) s0 mid u.1 u.2) (fun u=>u.2 - u.1) (s0,mid) ⟨b_ _,by dsimp only;omega,b_ _,fun x h1 h2=>absurd h2 (by dsimp only;omega),fun x h1 h2=>absurd h2 (by dsimp only at h1;omega)⟩ ag8 ?_;rintro ⟨s,r⟩ hcut hnext;dsimp only at hcut hnext |-;have hnx:=fun i' j' s'=>hnext (i',j') s';clear hnext;have q1:=hcut.lo;have q2:=hcut.le;have q3:=hcut.hi;by_cases hsr:s<r
    ·have n1:(s:Int)<(r:Int):=by omega
     have hh2:=bi3 s r (by omega);have w10:IntKind.i64.wrap ((s:Int)+(r:Int))=(s:Int)+(r:Int):=l6 (by omega) (by omega);obtain ⟨y,hy⟩:∃y,(s+r) / 2=y:=⟨_,rfl⟩;rw [hy] at hh2;have w11:IntKind.i64.wrap (((mid+c - 1:Nat):Int) - (y:Int))=((mid+c - 1 - y:Nat):Int):=wrapN _ (by omega) (by omega);have w12:IntKind.i64.wrap ((y:Int)+1)=((y+1:Nat):Int):=wrapN _ (by omega) (by omega);have hl:=h.less f [.box [.fn g cs,.xfn sf ds]] (mid+c - 1 - y) y (by omega) (by omega);cases hlt:lt (f (mid+c - 1 - y)) (f y) with
     | false =>
      rw [hlt] at hl;refine rS_ Tryz.func189 ?_;simp only [go_sem,seval,n1,w10,hh2,w11,h.len,h.gog,h.at0,h.atj,h.set0,h.setj,h.tk,h.tk0,h.tkj,h.refs,h.refsj,h.hcaps,h.capsj,h.hcaps2,h.capsj2,a_]
      repeat' (first
       | ((refine hl.mono ?_<;>(rintro c H' ⟨rfl,rfl⟩))<;>(try simp only [go_sem,seval,n1,w10,hh2,w11,w12,h.len,h.gog,h.at0,h.atj,h.set0,h.setj,h.tk,h.tk0,h.tkj,h.refs,h.refsj,h.hcaps,h.capsj,h.hcaps2,h.capsj2,a_]))
       | fail)
      refine hnx (y+1) r _ (hcut.up hw hs1 hs2 hrng (by omega) (by omega) hlt) (by dsimp only;omega) ag8
     | true =>
      rw [hlt] at hl;refine rS_ Tryz.func189 ?_;simp only [go_sem,seval,n1,w10,hh2,w11,h.len,h.gog,h.at0,h.atj,h.set0,h.setj,h.tk,h.tk0,h.tkj,h.refs,h.refsj,h.hcaps,h.capsj,h.hcaps2,h.capsj2,a_]
      repeat' (first
       | ((refine hl.mono ?_<;>(rintro c H' ⟨rfl,rfl⟩))<;>(try simp only [go_sem,seval,n1,w10,hh2,w11,w12,h.len,h.gog,h.at0,h.atj,h.set0,h.setj,h.tk,h.tk0,h.tkj,h.refs,h.refsj,h.hcaps,h.capsj,h.hcaps2,h.capsj2,a_]))
       | fail)
      refine hnx s y _ (hcut.dn hw hs1 hs2 hrng (by omega) (by omega) hlt) (by dsimp only;omega) ag8
    ·have n1:¬(s:Int)<(r:Int):=by omega
     obtain rfl:s=r:=by omega
     obtain ⟨e,he⟩:∃e,mid+c - s=e:=⟨_,rfl⟩;have w13:IntKind.i64.wrap ((mid:Int)+(c:Int) - (s:Int))=(e:Int):=wrapN _ (by omega) (by omega);have hA:s=a\/e=b\/leq lt (f (s - 1)) (f e):=by
      by_cases e0:s=s0
      ·rcases hA0 with h0 | h0
       ·exact .inl (by omega)
       ·exact .inr (.inl (by omega))
      ·have:=hcut.bel (s - 1) (by omega) (by omega)
       rw [show mid+c - 1 - (s - 1)=e by omega] at this;exact .inr (.inr this)
     have hB:s=c\/e=c\/lt (f (e - 1)) (f s)=true:=by
      by_cases e0:s=mid
      ·rcases hB0 with h0 | h0
       ·exact .inl (by omega)
       ·exact .inr (.inl (by omega))
      ·have:=hcut.abv s (b_ _) (by omega)
       rw [show mid+c - 1 - s=e - 1 by omega] at this;exact .inr (.inr this)
     have hx:=aK3 hw hs1 hs2 (s:=s) (e:=e) (mid:=mid) (by omega) (by omega) (by omega) (by omega) (by omega) hA hB;obtain ⟨l1,l2,l3,l4⟩:=bF6 hs1 hs2 (s:=s) (e:=e) (mid:=mid) (by omega) (by omega) (by omega) (by omega) (by omega);have hnxt:=hnx;clear hnx hcut hA hB;rcases (show (s=c/\s<mid)\/(s=c/\s=mid)\/(s<c/\s=mid)\/(s<c/\s<mid) by omega) with ⟨p1,p2⟩ | ⟨p1,p2⟩ | ⟨p1,p2⟩ | ⟨p1,p2⟩
     ·have g1:¬(s:Int)<(c:Int):=by omega
      have g2:(a:Int)<(s:Int):=by omega
      have g3:(s:Int)<(mid:Int):=by omega
      have g4:¬(mid:Int)<(e:Int):=by omega
      rw [p1,aF3] at hx l1 l2 l3 l4;rw [<-p1] at l1 l2;have hl:=ih _ _ hX a s mid f (by omega) (by omega) (by omega) (by omega) l1 l2;refine rS_ Tryz.func189 ?_;simp only [go_sem,seval,n1,w13,g1,g2,g3,g4,h.len,h.gog,h.at0,h.atj,h.set0,h.setj,h.tk,h.tk0,h.tkj,h.refs,h.refsj,h.hcaps,h.capsj,h.hcaps2,h.capsj2,a_]
      repeat' (first
       | ((first
        | (refine hl.mono ?_<;>(rintro c H' ⟨rfl,f2,m2,s2,rfl⟩))
        | (refine ⟨sd,?_⟩)
        | (refine ⟨by assumption,?_⟩))<;>(try simp only [go_sem,seval,n1,w13,g1,g2,g3,g4,h.len,h.gog,h.at0,h.atj,h.set0,h.setj,h.tk,h.tk0,h.tkj,h.refs,h.refsj,h.hcaps,h.capsj,h.hcaps2,h.capsj2,a_]))
       | fail)
      have s4:=m2.srt_out l4 (.inr (by omega));first | exact o9 hx m2 s2 (.refl n mid b f2) (p9 s4 (by omega) (b_ _)) | exact ⟨(m2.mono (b_ _) (by omega)),o9 hx m2 s2 (.refl n mid b f2) (p9 s4 (by omega) (b_ _))⟩ | exact ⟨_,(m2.mono (b_ _) (by omega)),o9 hx m2 s2 (.refl n mid b f2) (p9 s4 (by omega) (b_ _)),rfl⟩
     ·have g1:¬(s:Int)<(c:Int):=by omega
      have g2:(a:Int)<(s:Int):=by omega
      have g3:¬(s:Int)<(mid:Int):=by omega
      have g4:¬(mid:Int)<(e:Int):=by omega
      rw [p1,aF3] at hx l1 l2 l3 l4;refine rS_ Tryz.func189 ?_;simp only [go_sem,seval,n1,w13,g1,g2,g3,g4,h.len,h.gog,h.at0,h.atj,h.set0,h.setj,h.tk,h.tk0,h.tkj,h.refs,h.refsj,h.hcaps,h.capsj,h.hcaps2,h.capsj2,a_]
      repeat' (first
       | ((first
        | (refine ⟨sd,?_⟩)
        | (refine ⟨by assumption,?_⟩))<;>(try simp only [go_sem,seval,n1,w13,g1,g2,g3,g4,h.len,h.gog,h.at0,h.atj,h.set0,h.setj,h.tk,h.tk0,h.tkj,h.refs,h.refsj,h.hcaps,h.capsj,h.hcaps2,h.capsj2,a_]))
       | fail)
      all_goals first | exact o9 hx (.refl n a mid f) (p9 l1 (b_ _) (by omega)) (.refl n mid b f) (p9 l4 (by omega) (b_ _)) | exact ⟨(.refl _ _ _ _),o9 hx (.refl n a mid f) (p9 l1 (b_ _) (by omega)) (.refl n mid b f) (p9 l4 (by omega) (b_ _))⟩ | exact ⟨_,(.refl _ _ _ _),o9 hx (.refl n a mid f) (p9 l1 (b_ _) (by omega)) (.refl n mid b f) (p9 l4 (by omega) (b_ _)),rfl⟩
     ·have g1:(s:Int)<(c:Int):=by omega
      have g2:¬(c:Int)<(e:Int):=by omega
      have g3:(a:Int)<(s:Int):=by omega
      have g4:¬(s:Int)<(mid:Int):=by omega
      have g5:(mid:Int)<(e:Int):=by omega
      have g6:(e:Int)<(b:Int):=by omega
      rw [show e=c by omega,bo1] at hx l1 l2 l3 l4;rw [show c=e by omega] at l3 l4;have hr2:=fun (f2:Nat->α) (m:Mv n a mid f f2)=>ih _ _ hX mid e b f2 (by omega) (by omega) (by omega) hb (m.srt_out l3 (.inr (b_ _))) (m.srt_out l4 (.inr (by omega)));refine rS_ Tryz.func189 ?_;simp only [go_sem,seval,n1,w13,g1,g2,g3,g4,g5,g6,h.len,h.gog,h.at0,h.atj,h.set0,h.setj,h.tk,h.tk0,h.tkj,h.refs,h.refsj,h.hcaps,h.capsj,h.hcaps2,h.capsj2,a_]
      repeat' (first
       | ((first
        | (refine (hr2 _ (Mv.refl n a mid f)).mono ?_<;>(rintro c H' ⟨rfl,f3,m3,s3,rfl⟩))
        | (refine ⟨by assumption,?_⟩))<;>(try simp only [go_sem,seval,n1,w13,g1,g2,g3,g4,g5,g6,h.len,h.gog,h.at0,h.atj,h.set0,h.setj,h.tk,h.tk0,h.tkj,h.refs,h.refsj,h.hcaps,h.capsj,h.hcaps2,h.capsj2,a_]))
       | fail)
      first | exact o9 hx (.refl n a mid f) (p9 l1 (b_ _) (by omega)) m3 s3 | exact ⟨(m3.mono (by omega) (b_ _)),o9 hx (.refl n a mid f) (p9 l1 (b_ _) (by omega)) m3 s3⟩ | exact ⟨_,(m3.mono (by omega) (b_ _)),o9 hx (.refl n a mid f) (p9 l1 (b_ _) (by omega)) m3 s3,rfl⟩
     ·have g1:(s:Int)<(c:Int):=by omega
      have g2:(c:Int)<(e:Int):=by omega
      have g4:(s:Int)<(mid:Int):=by omega
      have g5:(mid:Int)<(e:Int):=by omega
      have hrt:=aZ3 hX hn s c e f p1 (by omega) (by omega);generalize hF:rot s c e f=F at hx l1 l2 l3 l4 hrt;have hr2:=fun (f2:Nat->α) (m:Mv n a mid F f2) (hh:e<b)=>ih _ _ hX mid e b f2 (by omega) (by omega) (by omega) hb (m.srt_out l3 (.inr (b_ _))) (m.srt_out l4 (.inr (by omega)));by_cases d1:a<s
      ·have g3:(a:Int)<(s:Int):=by omega
       have hl:=ih _ _ hX a s mid F (by omega) d1 (by omega) (by omega) l1 l2;by_cases d2:e<b
       ·have g6:(e:Int)<(b:Int):=by omega
        refine rS_ Tryz.func189 ?_;simp only [go_sem,seval,n1,w13,g1,g2,g3,g4,g5,g6,h.len,h.gog,h.at0,h.atj,h.set0,h.setj,h.tk,h.tk0,h.tkj,h.refs,h.refsj,h.hcaps,h.capsj,h.hcaps2,h.capsj2,a_]
        repeat' (first
         | ((first
          | (refine hrt.mono ?_<;>(rintro c H' ⟨rfl,hm1,rfl⟩))
          | (refine hl.mono ?_<;>(rintro c H' ⟨rfl,f2,m2,s2,rfl⟩))
          | (refine (hr2 _ m2 d2).mono ?_<;>(rintro c H' ⟨rfl,f3,m3,s3,rfl⟩))
          | (refine ⟨by assumption,?_⟩))<;>(try simp only [go_sem,seval,n1,w13,g1,g2,g3,g4,g5,g6,h.len,h.gog,h.at0,h.atj,h.set0,h.setj,h.tk,h.tk0,h.tkj,h.refs,h.refsj,h.hcaps,h.capsj,h.hcaps2,h.capsj2,a_]))
         | fail)
        first | exact o9 hx m2 s2 m3 s3 | exact ⟨(((hm1.mono (by omega) (by omega)).trans (m2.mono (b_ _) (by omega))).trans (m3.mono (by omega) (b_ _))),o9 hx m2 s2 m3 s3⟩ | exact ⟨_,(((hm1.mono (by omega) (by omega)).trans (m2.mono (b_ _) (by omega))).trans (m3.mono (by omega) (b_ _))),o9 hx m2 s2 m3 s3,rfl⟩
       ·have g6:¬(e:Int)<(b:Int):=by omega
        refine rS_ Tryz.func189 ?_;simp only [go_sem,seval,n1,w13,g1,g2,g3,g4,g5,g6,h.len,h.gog,h.at0,h.atj,h.set0,h.setj,h.tk,h.tk0,h.tkj,h.refs,h.refsj,h.hcaps,h.capsj,h.hcaps2,h.capsj2,a_]
        repeat' (first
         | ((first
          | (refine hrt.mono ?_<;>(rintro c H' ⟨rfl,hm1,rfl⟩))
          | (refine hl.mono ?_<;>(rintro c H' ⟨rfl,f2,m2,s2,rfl⟩))
          | (refine ⟨by assumption,?_⟩))<;>(try simp only [go_sem,seval,n1,w13,g1,g2,g3,g4,g5,g6,h.len,h.gog,h.at0,h.atj,h.set0,h.setj,h.tk,h.tk0,h.tkj,h.refs,h.refsj,h.hcaps,h.capsj,h.hcaps2,h.capsj2,a_]))
         | fail)
        first | exact o9 hx m2 s2 (.refl n mid b f2) (p9 (m2.srt_out l3 (.inr (b_ _))) (b_ _) (by omega)) | exact ⟨((hm1.mono (by omega) (by omega)).trans (m2.mono (b_ _) (by omega))),o9 hx m2 s2 (.refl n mid b f2) (p9 (m2.srt_out l3 (.inr (b_ _))) (b_ _) (by omega))⟩ | exact ⟨_,((hm1.mono (by omega) (by omega)).trans (m2.mono (b_ _) (by omega))),o9 hx m2 s2 (.refl n mid b f2) (p9 (m2.srt_out l3 (.inr (b_ _))) (b_ _) (by omega)),rfl⟩
      ·have g3:¬(a:Int)<(s:Int):=by omega
       have l2':srt lt F a mid:=p9 l2 (by omega) (b_ _);by_cases d2:e<b
       ·have g6:(e:Int)<(b:Int):=by omega
        refine rS_ Tryz.func189 ?_;simp only [go_sem,seval,n1,w13,g1,g2,g3,g4,g5,g6,h.len,h.gog,h.at0,h.atj,h.set0,h.setj,h.tk,h.tk0,h.tkj,h.refs,h.refsj,h.hcaps,h.capsj,h.hcaps2,h.capsj2,a_]
        repeat' (first
         | ((first
          | (refine hrt.mono ?_<;>(rintro c H' ⟨rfl,hm1,rfl⟩))
          | (refine (hr2 _ (Mv.refl n a mid F) d2).mono ?_<;>(rintro c H' ⟨rfl,f3,m3,s3,rfl⟩))
          | (refine ⟨sd,?_⟩)
          | (refine ⟨by assumption,?_⟩))<;>(try simp only [go_sem,seval,n1,w13,g1,g2,g3,g4,g5,g6,h.len,h.gog,h.at0,h.atj,h.set0,h.setj,h.tk,h.tk0,h.tkj,h.refs,h.refsj,h.hcaps,h.capsj,h.hcaps2,h.capsj2,a_]))
         | fail)
        first | exact o9 hx (.refl n a mid F) l2' m3 s3 | exact ⟨((hm1.mono (by omega) (by omega)).trans (m3.mono (by omega) (b_ _))),o9 hx (.refl n a mid F) l2' m3 s3⟩ | exact ⟨_,((hm1.mono (by omega) (by omega)).trans (m3.mono (by omega) (b_ _))),o9 hx (.refl n a mid F) l2' m3 s3,rfl⟩
       ·have g6:¬(e:Int)<(b:Int):=by omega
        refine rS_ Tryz.func189 ?_;simp only [go_sem,seval,n1,w13,g1,g2,g3,g4,g5,g6,h.len,h.gog,h.at0,h.atj,h.set0,h.setj,h.tk,h.tk0,h.tkj,h.refs,h.refsj,h.hcaps,h.capsj,h.hcaps2,h.capsj2,a_]
        repeat' (first
         | ((first
          | (refine hrt.mono ?_<;>(rintro c H' ⟨rfl,hm1,rfl⟩))
          | (refine ⟨by assumption,?_⟩))<;>(try simp only [go_sem,seval,n1,w13,g1,g2,g3,g4,g5,g6,h.len,h.gog,h.at0,h.atj,h.set0,h.setj,h.tk,h.tk0,h.tkj,h.refs,h.refsj,h.hcaps,h.capsj,h.hcaps2,h.capsj2,a_]))
         | fail)
        first | exact o9 hx (.refl n a mid F) l2' (.refl n mid b F) (p9 l3 (b_ _) (by omega)) | exact ⟨(hm1.mono (by omega) (by omega)),o9 hx (.refl n a mid F) l2' (.refl n mid b F) (p9 l3 (b_ _) (by omega))⟩ | exact ⟨_,(hm1.mono (by omega) (by omega)),o9 hx (.refl n a mid F) l2' (.refl n mid b F) (p9 l3 (b_ _) (by omega)),rfl⟩
   ·have n6:¬(mid:Int)<(c:Int):=by omega
    have hrng:∀x,a<=x->x<c->a<=x/\x<c/\c<=mid+c - 1 - x/\mid+c - 1 - x<b:=fun x h1 h2=>by omega
    have hA0:a=a\/mid+c - a=b:=.inl rfl;have hB0:c=c\/c=mid:=.inl rfl;refine aE_ Tryz.func189 ?_;refine rS_ Tryz.func189 ?_;simp only [go_sem,seval,h.len,h.gog,h.at0,h.atj,h.set0,h.setj,h.tk,h.tk0,h.tkj,h.refs,h.refsj,h.hcaps,h.capsj,h.hcaps2,h.capsj2,a_,w1,w5,n0,n5,w6,hh,w7,w8,n6];refine AW.lp [1,2,3,4,16,17,20] (fun u:Nat×Nat=>[(18,.d (.int .i64 (u.1:Int))),(19,.d (.int .i64 (u.2:Int)))]) (fun H _=>H) (fun u=>Cut lt f (mid+c - 1) a c u.1 u.2) (fun u=>u.2 - u.1) (a,c) ⟨b_ _,by dsimp only;omega,b_ _,fun x h1 h2=>absurd h2 (by dsimp only;omega),fun x h1 h2=>absurd h2 (by dsimp only at h1;omega)⟩ ag8 ?_;rintro ⟨s,r⟩ hcut hnext;dsimp only at hcut hnext |-;have hnx:=fun i' j' s'=>hnext (i',j') s';clear hnext;have q1:=hcut.lo;have q2:=hcut.le;have q3:=hcut.hi;by_cases hsr:s<r
    ·have n1:(s:Int)<(r:Int):=by omega
     have hh2:=bi3 s r (by omega);have w10:IntKind.i64.wrap ((s:Int)+(r:Int))=(s:Int)+(r:Int):=l6 (by omega) (by omega);obtain ⟨y,hy⟩:∃y,(s+r) / 2=y:=⟨_,rfl⟩;rw [hy] at hh2;have w11:IntKind.i64.wrap (((mid+c - 1:Nat):Int) - (y:Int))=((mid+c - 1 - y:Nat):Int):=wrapN _ (by omega) (by omega);have w12:IntKind.i64.wrap ((y:Int)+1)=((y+1:Nat):Int):=wrapN _ (by omega) (by omega);have hl:=h.less f [.box [.fn g cs,.xfn sf ds]] (mid+c - 1 - y) y (by omega) (by omega);cases hlt:lt (f (mid+c - 1 - y)) (f y) with
     | false =>
      rw [hlt] at hl;refine rS_ Tryz.func189 ?_;simp only [go_sem,seval,n1,w10,hh2,w11,h.len,h.gog,h.at0,h.atj,h.set0,h.setj,h.tk,h.tk0,h.tkj,h.refs,h.refsj,h.hcaps,h.capsj,h.hcaps2,h.capsj2,a_]
      repeat' (first
       | ((refine hl.mono ?_<;>(rintro c H' ⟨rfl,rfl⟩))<;>(try simp only [go_sem,seval,n1,w10,hh2,w11,w12,h.len,h.gog,h.at0,h.atj,h.set0,h.setj,h.tk,h.tk0,h.tkj,h.refs,h.refsj,h.hcaps,h.capsj,h.hcaps2,h.capsj2,a_]))
       | fail)
      refine hnx (y+1) r _ (hcut.up hw hs1 hs2 hrng (by omega) (by omega) hlt) (by dsimp only;omega) ag8
     | true =>
      rw [hlt] at hl;refine rS_ Tryz.func189 ?_;simp only [go_sem,seval,n1,w10,hh2,w11,h.len,h.gog,h.at0,h.atj,h.set0,h.setj,h.tk,h.tk0,h.tkj,h.refs,h.refsj,h.hcaps,h.capsj,h.hcaps2,h.capsj2,a_]
      repeat' (first
       | ((refine hl.mono ?_<;>(rintro c H' ⟨rfl,rfl⟩))<;>(try simp only [go_sem,seval,n1,w10,hh2,w11,w12,h.len,h.gog,h.at0,h.atj,h.set0,h.setj,h.tk,h.tk0,h.tkj,h.refs,h.refsj,h.hcaps,h.capsj,h.hcaps2,h.capsj2,a_]))
       | fail)
      refine hnx s y _ (hcut.dn hw hs1 hs2 hrng (by omega) (by omega) hlt) (by dsimp only;omega) ag8
    ·have n1:¬(s:Int)<(r:Int):=by omega
     obtain rfl:s=r:=by omega
     obtain ⟨e,he⟩:∃e,mid+c - s=e:=⟨_,rfl⟩;have w13:IntKind.i64.wrap ((mid:Int)+(c:Int) - (s:Int))=(e:Int):=wrapN _ (by omega) (by omega);have hA:s=a\/e=b\/leq lt (f (s - 1)) (f e):=by
      by_cases e0:s=a
      ·rcases hA0 with h0 | h0
       ·exact .inl (by omega)
       ·exact .inr (.inl (by omega))
      ·have:=hcut.bel (s - 1) (by omega) (by omega)
       rw [show mid+c - 1 - (s - 1)=e by omega] at this;exact .inr (.inr this)
     have hB:s=c\/e=c\/lt (f (e - 1)) (f s)=true:=by
      by_cases e0:s=c
      ·rcases hB0 with h0 | h0
       ·exact .inl (by omega)
       ·exact .inr (.inl (by omega))
      ·have:=hcut.abv s (b_ _) (by omega)
       rw [show mid+c - 1 - s=e - 1 by omega] at this;exact .inr (.inr this)
     have hx:=aK3 hw hs1 hs2 (s:=s) (e:=e) (mid:=mid) (by omega) (by omega) (by omega) (by omega) (by omega) hA hB;obtain ⟨l1,l2,l3,l4⟩:=bF6 hs1 hs2 (s:=s) (e:=e) (mid:=mid) (by omega) (by omega) (by omega) (by omega) (by omega);have hnxt:=hnx;clear hnx hcut hA hB;rcases (show (s=c/\s<mid)\/(s=c/\s=mid)\/(s<c/\s=mid)\/(s<c/\s<mid) by omega) with ⟨p1,p2⟩ | ⟨p1,p2⟩ | ⟨p1,p2⟩ | ⟨p1,p2⟩
     ·have g1:¬(s:Int)<(c:Int):=by omega
      have g2:(a:Int)<(s:Int):=by omega
      have g3:(s:Int)<(mid:Int):=by omega
      have g4:¬(mid:Int)<(e:Int):=by omega
      rw [p1,aF3] at hx l1 l2 l3 l4;rw [<-p1] at l1 l2;have hl:=ih _ _ hX a s mid f (by omega) (by omega) (by omega) (by omega) l1 l2;refine rS_ Tryz.func189 ?_;simp only [go_sem,seval,n1,w13,g1,g2,g3,g4,h.len,h.gog,h.at0,h.atj,h.set0,h.setj,h.tk,h.tk0,h.tkj,h.refs,h.refsj,h.hcaps,h.capsj,h.hcaps2,h.capsj2,a_]
      repeat' (first
       | ((first
        | (refine hl.mono ?_<;>(rintro c H' ⟨rfl,f2,m2,s2,rfl⟩))
        | (refine ⟨by assumption,?_⟩))<;>(try simp only [go_sem,seval,n1,w13,g1,g2,g3,g4,h.len,h.gog,h.at0,h.atj,h.set0,h.setj,h.tk,h.tk0,h.tkj,h.refs,h.refsj,h.hcaps,h.capsj,h.hcaps2,h.capsj2,a_]))
       | fail)
      have s4:=m2.srt_out l4 (.inr (by omega));first | exact o9 hx m2 s2 (.refl n mid b f2) (p9 s4 (by omega) (b_ _)) | exact ⟨(m2.mono (b_ _) (by omega)),o9 hx m2 s2 (.refl n mid b f2) (p9 s4 (by omega) (b_ _))⟩ | exact ⟨_,(m2.mono (b_ _) (by omega)),o9 hx m2 s2 (.refl n mid b f2) (p9 s4 (by omega) (b_ _)),rfl⟩
     ·have g1:¬(s:Int)<(c:Int):=by omega
      have g2:(a:Int)<(s:Int):=by omega
      have g3:¬(s:Int)<(mid:Int):=by omega
      have g4:¬(mid:Int)<(e:Int):=by omega
      rw [p1,aF3] at hx l1 l2 l3 l4;refine rS_ Tryz.func189 ?_;simp only [go_sem,seval,n1,w13,g1,g2,g3,g4,h.len,h.gog,h.at0,h.atj,h.set0,h.setj,h.tk,h.tk0,h.tkj,h.refs,h.refsj,h.hcaps,h.capsj,h.hcaps2,h.capsj2,a_]
      repeat' (first
       | ((refine ⟨by assumption,?_⟩)<;>(try simp only [go_sem,seval,n1,w13,g1,g2,g3,g4,h.len,h.gog,h.at0,h.atj,h.set0,h.setj,h.tk,h.tk0,h.tkj,h.refs,h.refsj,h.hcaps,h.capsj,h.hcaps2,h.capsj2,a_]))
       | fail)
      all_goals first | exact o9 hx (.refl n a mid f) (p9 l1 (b_ _) (by omega)) (.refl n mid b f) (p9 l4 (by omega) (b_ _)) | exact ⟨(.refl _ _ _ _),o9 hx (.refl n a mid f) (p9 l1 (b_ _) (by omega)) (.refl n mid b f) (p9 l4 (by omega) (b_ _))⟩ | exact ⟨_,(.refl _ _ _ _),o9 hx (.refl n a mid f) (p9 l1 (b_ _) (by omega)) (.refl n mid b f) (p9 l4 (by omega) (b_ _)),rfl⟩
     ·have g1:(s:Int)<(c:Int):=by omega
      have g2:¬(c:Int)<(e:Int):=by omega
      have g3:(a:Int)<(s:Int):=by omega
      have g4:¬(s:Int)<(mid:Int):=by omega
      have g5:(mid:Int)<(e:Int):=by omega
      have g6:(e:Int)<(b:Int):=by omega
      rw [show e=c by omega,bo1] at hx l1 l2 l3 l4;rw [show c=e by omega] at l3 l4;have hr2:=fun (f2:Nat->α) (m:Mv n a mid f f2)=>ih _ _ hX mid e b f2 (by omega) (by omega) (by omega) hb (m.srt_out l3 (.inr (b_ _))) (m.srt_out l4 (.inr (by omega)));refine rS_ Tryz.func189 ?_;simp only [go_sem,seval,n1,w13,g1,g2,g3,g4,g5,g6,h.len,h.gog,h.at0,h.atj,h.set0,h.setj,h.tk,h.tk0,h.tkj,h.refs,h.refsj,h.hcaps,h.capsj,h.hcaps2,h.capsj2,a_]
      repeat' (first
       | ((first
        | (refine (hr2 _ (Mv.refl n a mid f)).mono ?_<;>(rintro c H' ⟨rfl,f3,m3,s3,rfl⟩))
        | (refine ⟨sd,?_⟩)
        | (refine ⟨by assumption,?_⟩))<;>(try simp only [go_sem,seval,n1,w13,g1,g2,g3,g4,g5,g6,h.len,h.gog,h.at0,h.atj,h.set0,h.setj,h.tk,h.tk0,h.tkj,h.refs,h.refsj,h.hcaps,h.capsj,h.hcaps2,h.capsj2,a_]))
       | fail)
      first | exact o9 hx (.refl n a mid f) (p9 l1 (b_ _) (by omega)) m3 s3 | exact ⟨(m3.mono (by omega) (b_ _)),o9 hx (.refl n a mid f) (p9 l1 (b_ _) (by omega)) m3 s3⟩ | exact ⟨_,(m3.mono (by omega) (b_ _)),o9 hx (.refl n a mid f) (p9 l1 (b_ _) (by omega)) m3 s3,rfl⟩
     ·have g1:(s:Int)<(c:Int):=by omega
      have g2:(c:Int)<(e:Int):=by omega
      have g4:(s:Int)<(mid:Int):=by omega
      have g5:(mid:Int)<(e:Int):=by omega
      have hrt:=aZ3 hX hn s c e f p1 (by omega) (by omega);generalize hF:rot s c e f=F at hx l1 l2 l3 l4 hrt;have hr2:=fun (f2:Nat->α) (m:Mv n a mid F f2) (hh:e<b)=>ih _ _ hX mid e b f2 (by omega) (by omega) (by omega) hb (m.srt_out l3 (.inr (b_ _))) (m.srt_out l4 (.inr (by omega)));by_cases d1:a<s
      ·have g3:(a:Int)<(s:Int):=by omega
       have hl:=ih _ _ hX a s mid F (by omega) d1 (by omega) (by omega) l1 l2;by_cases d2:e<b
       ·have g6:(e:Int)<(b:Int):=by omega
        refine rS_ Tryz.func189 ?_;simp only [go_sem,seval,n1,w13,g1,g2,g3,g4,g5,g6,h.len,h.gog,h.at0,h.atj,h.set0,h.setj,h.tk,h.tk0,h.tkj,h.refs,h.refsj,h.hcaps,h.capsj,h.hcaps2,h.capsj2,a_]
        repeat' (first
         | ((first
          | (refine hrt.mono ?_<;>(rintro c H' ⟨rfl,hm1,rfl⟩))
          | (refine hl.mono ?_<;>(rintro c H' ⟨rfl,f2,m2,s2,rfl⟩))
          | (refine (hr2 _ m2 d2).mono ?_<;>(rintro c H' ⟨rfl,f3,m3,s3,rfl⟩))
          | (refine ⟨by assumption,?_⟩))<;>(try simp only [go_sem,seval,n1,w13,g1,g2,g3,g4,g5,g6,h.len,h.gog,h.at0,h.atj,h.set0,h.setj,h.tk,h.tk0,h.tkj,h.refs,h.refsj,h.hcaps,h.capsj,h.hcaps2,h.capsj2,a_]))
         | fail)
        first | exact o9 hx m2 s2 m3 s3 | exact ⟨(((hm1.mono (by omega) (by omega)).trans (m2.mono (b_ _) (by omega))).trans (m3.mono (by omega) (b_ _))),o9 hx m2 s2 m3 s3⟩ | exact ⟨_,(((hm1.mono (by omega) (by omega)).trans (m2.mono (b_ _) (by omega))).trans (m3.mono (by omega) (b_ _))),o9 hx m2 s2 m3 s3,rfl⟩
       ·have g6:¬(e:Int)<(b:Int):=by omega
        refine rS_ Tryz.func189 ?_;simp only [go_sem,seval,n1,w13,g1,g2,g3,g4,g5,g6,h.len,h.gog,h.at0,h.atj,h.set0,h.setj,h.tk,h.tk0,h.tkj,h.refs,h.refsj,h.hcaps,h.capsj,h.hcaps2,h.capsj2,a_]
        repeat' (first
         | ((first
          | (refine hrt.mono ?_<;>(rintro c H' ⟨rfl,hm1,rfl⟩))
          | (refine hl.mono ?_<;>(rintro c H' ⟨rfl,f2,m2,s2,rfl⟩))
          | (refine ⟨sd,?_⟩)
          | (refine ⟨by assumption,?_⟩))<;>(try simp only [go_sem,seval,n1,w13,g1,g2,g3,g4,g5,g6,h.len,h.gog,h.at0,h.atj,h.set0,h.setj,h.tk,h.tk0,h.tkj,h.refs,h.refsj,h.hcaps,h.capsj,h.hcaps2,h.capsj2,a_]))
         | fail)
        first | exact o9 hx m2 s2 (.refl n mid b f2) (p9 (m2.srt_out l3 (.inr (b_ _))) (b_ _) (by omega)) | exact ⟨((hm1.mono (by omega) (by omega)).trans (m2.mono (b_ _) (by omega))),o9 hx m2 s2 (.refl n mid b f2) (p9 (m2.srt_out l3 (.inr (b_ _))) (b_ _) (by omega))⟩ | exact ⟨_,((hm1.mono (by omega) (by omega)).trans (m2.mono (b_ _) (by omega))),o9 hx m2 s2 (.refl n mid b f2) (p9 (m2.srt_out l3 (.inr (b_ _))) (b_ _) (by omega)),rfl⟩
      ·have g3:¬(a:Int)<(s:Int):=by omega
       have l2':srt lt F a mid:=p9 l2 (by omega) (b_ _);by_cases d2:e<b
       ·have g6:(e:Int)<(b:Int):=by omega
        refine rS_ Tryz.func189 ?_;simp only [go_sem,seval,n1,w13,g1,g2,g3,g4,g5,g6,h.len,h.gog,h.at0,h.atj,h.set0,h.setj,h.tk,h.tk0,h.tkj,h.refs,h.refsj,h.hcaps,h.capsj,h.hcaps2,h.capsj2,a_]
        repeat' (first
         | ((first
          | (refine hrt.mono ?_<;>(rintro c H' ⟨rfl,hm1,rfl⟩))
          | (refine (hr2 _ (Mv.refl n a mid F) d2).mono ?_<;>(rintro c H' ⟨rfl,f3,m3,s3,rfl⟩))
          | (refine ⟨by assumption,?_⟩))<;>(try simp only [go_sem,seval,n1,w13,g1,g2,g3,g4,g5,g6,h.len,h.gog,h.at0,h.atj,h.set0,h.setj,h.tk,h.tk0,h.tkj,h.refs,h.refsj,h.hcaps,h.capsj,h.hcaps2,h.capsj2,a_]))
         | fail)
        first | exact o9 hx (.refl n a mid F) l2' m3 s3 | exact ⟨((hm1.mono (by omega) (by omega)).trans (m3.mono (by omega) (b_ _))),o9 hx (.refl n a mid F) l2' m3 s3⟩ | exact ⟨_,((hm1.mono (by omega) (by omega)).trans (m3.mono (by omega) (b_ _))),o9 hx (.refl n a mid F) l2' m3 s3,rfl⟩
       ·have g6:¬(e:Int)<(b:Int):=by omega
        refine rS_ Tryz.func189 ?_;simp only [go_sem,seval,n1,w13,g1,g2,g3,g4,g5,g6,h.len,h.gog,h.at0,h.atj,h.set0,h.setj,h.tk,h.tk0,h.tkj,h.refs,h.refsj,h.hcaps,h.capsj,h.hcaps2,h.capsj2,a_]
        repeat' (first
         | ((first
          | (refine hrt.mono ?_<;>(rintro c H' ⟨rfl,hm1,rfl⟩))
          | (refine ⟨by assumption,?_⟩))<;>(try simp only [go_sem,seval,n1,w13,g1,g2,g3,g4,g5,g6,h.len,h.gog,h.at0,h.atj,h.set0,h.setj,h.tk,h.tk0,h.tkj,h.refs,h.refsj,h.hcaps,h.capsj,h.hcaps2,h.capsj2,a_]))
         | fail)
        first | exact o9 hx (.refl n a mid F) l2' (.refl n mid b F) (p9 l3 (b_ _) (by omega)) | exact ⟨(hm1.mono (by omega) (by omega)),o9 hx (.refl n a mid F) l2' (.refl n mid b F) (p9 l3 (b_ _) (by omega))⟩ | exact ⟨_,(hm1.mono (by omega) (by omega)),o9 hx (.refl n a mid F) l2' (.refl n mid b F) (p9 l3 (b_ _) (by omega)),rfl⟩
end
section
variable {α:Type} {g sf:FuncId} {cs ds:List C} {n m:Nat} {Hs:(Nat->α)->List O} {lt:α->α->Bool}
theorem by3 (hw:Wk lt) (hn:n<=1000000000000) (h:Srtr Tryz.prog g cs sf ds n m Hs lt) (f:Nat->α) :
  l8 Tryz.prog 173 [.agg [.fn g cs,.xfn sf ds],.d (.int .i64 n)] (Hs f) (fun c H'=>c=.tup []/\∃f1,((List.range n).map f1).Perm ((List.range n).map f)/\srt lt f1 0 n/\H'=Hs f1):=by
 have hX:=h.ext [.box [.fn g cs,.xfn sf ds]] (by simp [O.refsLt,C.refsLt,h.capsj,h.capsj2,-List.all_eq_true]);refine aE_ Tryz.func173 ?_;refine rS_ Tryz.func173 ?_;simp only [go_sem,seval,h.len,h.gog,h.at0,h.atj,h.set0,h.setj,h.tk,h.tk0,h.tkj,h.refs,h.refsj,h.hcaps,h.capsj,h.hcaps2,h.capsj2,a_];refine AW.lp [1,2,4] (fun u:Nat×Nat×(Nat->α)=>[(5,.d (.int .i64 (u.1:Int))),(6,.d (.int .i64 ((u.1:Int)+20)))]) (fun _ u=>Hs u.2.2++[.box [.fn g cs,.xfn sf ds]]) (fun u=>u.1=u.2.1 * 20/\u.1<=n/\Mv n 0 n f u.2.2/\bu8 lt u.2.2 20 n (u.2.1 * 20)) (fun u=>n - u.1) (0,0,f) ⟨by simp,q_ _,.refl _ _ _ _,by simp [bG8]⟩ ag8 ?_;rintro ⟨a,t,f1⟩ ⟨h1,h2,h3,h4⟩ hnext;dsimp only at h1 h2 h3 h4 hnext |-;have hnx:=fun a' t' f' s'=>hnext (a',t',f') s';clear hnext;by_cases hc:a+20<=n
 ·have n1:(a:Int)+20<=(n:Int):=by omega
  have w1:IntKind.i64.wrap ((a:Int)+20+20)=(a:Int)+20+20:=l6 (by omega) (by omega);have hi:=ab0 hX hw (by omega) a (a+20) f1 (by omega) hc;rw [Int.natCast_add] at hi;refine rS_ Tryz.func173 ?_;simp only [go_sem,seval,n1,h.len,h.gog,h.at0,h.atj,h.set0,h.setj,h.tk,h.tk0,h.tkj,h.refs,h.refsj,h.hcaps,h.capsj,h.hcaps2,h.capsj2,a_]
  repeat' (first
   | ((refine hi.mono ?_<;>(rintro c H' ⟨rfl,f2,m2,s2,rfl⟩))<;>(try simp only [go_sem,seval,n1,w1,h.len,h.gog,h.at0,h.atj,h.set0,h.setj,h.tk,h.tk0,h.tkj,h.refs,h.refsj,h.hcaps,h.capsj,h.hcaps2,h.capsj2,a_]))
   | fail)
  refine hnx (a+20) (t+1) f2 _ ⟨by dsimp only;omega,hc,h3.trans (m2.mono (q_ _) hc),?_⟩ (by dsimp only;omega) ag8;rw [h1] at m2 s2;exact bG7 (by omega) h4 m2 (by rw [I_ (by omega)];exact s2)
 ·have n1:¬(a:Int)+20<=(n:Int):=by omega
  have hi:=ab0 hX hw (by omega) a n f1 h2 (b_ _);clear hnx;refine l7 Tryz.func173 mixed 12 _ _ (by kernel_rfl) ?_;simp only [go_sem,seval,run.eq_1,n1,h.len,h.gog,h.at0,h.atj,h.set0,h.setj,h.tk,h.tk0,h.tkj,h.refs,h.refsj,h.hcaps,h.capsj,h.hcaps2,h.capsj2,a_]
  repeat' (first
   | ((refine hi.mono ?_<;>(rintro c H' ⟨rfl,f2,m2,s2,rfl⟩))<;>(try simp only [go_sem,seval,n1,run.eq_1,h.len,h.gog,h.at0,h.atj,h.set0,h.setj,h.tk,h.tk0,h.tkj,h.refs,h.refsj,h.hcaps,h.capsj,h.hcaps2,h.capsj2,a_]))
   | fail)
  have hb2:bu8 lt f2 20 n n:=by
   rw [h1] at m2 s2;exact aI4 (by omega) h4 m2 s2 (by omega)
  have hM2:=h3.trans (m2.mono (q_ _) (b_ _));clear m2 s2 h1 h2 h3 h4 hc n1 hi;refine AW.lp [1,2] (fun u:Nat×(Nat->α)=>[(4,.d (.int .i64 (u.1:Int)))]) (fun _ u=>Hs u.2++[.box [.fn g cs,.xfn sf ds]]) (fun u=>20<=u.1/\Mv n 0 n f u.2/\bu8 lt u.2 u.1 n n) (fun u=>n - u.1) (20,f2) ⟨b_ _,hM2,hb2⟩ ag8 ?_;rintro ⟨bs,f3⟩ ⟨b1,b2,b3⟩ hnext;dsimp only at b1 b2 b3 hnext |-;have hny:=fun b' f' s'=>hnext (b',f') s';clear hnext;by_cases hc:bs<n
  ·have n1:(bs:Int)<(n:Int):=by omega
   have w1:IntKind.i64.wrap (2 * (bs:Int))=2 * (bs:Int):=l6 (by omega) (by omega);have w2:IntKind.i64.wrap ((bs:Int) * 2)=((bs * 2:Nat):Int):=wrapN _ (by omega) (by omega);refine rS_ Tryz.func173 ?_;simp only [go_sem,seval,n1,w1,h.len,h.gog,h.at0,h.atj,h.set0,h.setj,h.tk,h.tk0,h.tkj,h.refs,h.refsj,h.hcaps,h.capsj,h.hcaps2,h.capsj2,a_];refine AW.lp [1,2,4] (fun u:Nat×Nat×(Nat->α)=>[(5,.d (.int .i64 (u.1:Int))),(6,.d (.int .i64 ((u.1:Int)+2 * (bs:Int))))]) (fun _ u=>Hs u.2.2++[.box [.fn g cs,.xfn sf ds]]) (fun u=>u.1=u.2.1 * (2 * bs)/\u.1<=n/\Mv n 0 n f u.2.2/\bu8 lt u.2.2 (2 * bs) n (u.2.1 * (2 * bs))/\rest lt u.2.2 bs n (2 * u.2.1)) (fun u=>n - u.1) (0,0,f3) ⟨by simp,q_ _,b2,by simp [bG8],rest_of b3⟩ ag8 ?_;rintro ⟨a,t,f4⟩ ⟨h5,h6,h7,h8,h9⟩ hnext;dsimp only at h5 h6 h7 h8 h9 hnext |-;have hnz:=fun a' t' f' s'=>hnext (a',t',f') s';clear hnext;have w3:IntKind.i64.wrap ((a:Int)+(bs:Int))=((a+bs:Nat):Int):=wrapN _ (by omega) (by omega);by_cases hd:a+2 * bs<=n
   ·have n2:(a:Int)+2 * (bs:Int)<=(n:Int):=by omega
    have w4:IntKind.i64.wrap ((a:Int)+2 * (bs:Int)+2 * (bs:Int))=(a:Int)+2 * (bs:Int)+2 * (bs:Int):=l6 (by omega) (by omega);obtain ⟨r1,r2⟩:=aZ6 h9 (by rw [<-h5];omega);rw [<-h5] at r1 r2;rw [I_ hd] at r2;have hs:=az9 hw (by omega) (a+2 * bs - a) _ _ hX a (a+bs) (a+2 * bs) f4 (b_ _) (by omega) (by omega) hd r1 r2;have hcast:((a+2 * bs:Nat):Int)=(a:Int)+2 * (bs:Int):=by omega
    rw [hcast] at hs;refine rS_ Tryz.func173 ?_;simp only [go_sem,seval,n2,w1,w3,h.len,h.gog,h.at0,h.atj,h.set0,h.setj,h.tk,h.tk0,h.tkj,h.refs,h.refsj,h.hcaps,h.capsj,h.hcaps2,h.capsj2,a_]
    repeat' (first
     | ((refine hs.mono ?_<;>(rintro c H' ⟨rfl,f5,m5,s5,rfl⟩))<;>(try simp only [go_sem,seval,n2,w1,w3,w4,h.len,h.gog,h.at0,h.atj,h.set0,h.setj,h.tk,h.tk0,h.tkj,h.refs,h.refsj,h.hcaps,h.capsj,h.hcaps2,h.capsj2,a_]))
     | fail)
    refine hnz (a+2 * bs) (t+1) f5 _ ⟨by dsimp only;rw [Nat.add_mul t 1 (2 * bs),Nat.one_mul,<-h5],hd,h7.trans (m5.mono (q_ _) hd),?_,?_⟩ (by dsimp only;omega) (by dsimp only;rw [hcast];exact by refine ⟨by simp [mkS,h.len],by simp only [mkS,j_,f_,t_,h.len,h.tkj,h.tk0,h.tk];first | done | rfl | (simp;done),by simp [mkS,O.refsLt,C.refsLt,C.refsLt1,h.len,h.refs,h.refsj,h.hcaps,h.capsj,h.hcaps2,h.capsj2,o5,O4,-List.all_eq_true],?_⟩;simp [mkS,Abs.get,C.refsLtT,C.refsLt,C.refsLt1,h.len,h.hcaps,h.capsj,h.hcaps2,h.capsj2,-List.all_eq_true])
    ·rw [h5] at m5 s5
     exact bG7 (by omega) h8 m5 (by rw [I_ (by rw [<-h5];omega)];exact s5)
    ·exact bS7 h9 (t':=2 * (t+1)) (by omega) m5 (by rw [show 2 * (t+1)=2 * t+2 by omega,aK2,<-h5];exact b_ _)
   ·have n2:¬(a:Int)+2 * (bs:Int)<=(n:Int):=by omega
    clear hnz;by_cases he:a+bs<n
    ·have n3:((a+bs:Nat):Int)<(n:Int):=by omega
     have n3':(a:Int)+(bs:Int)<(n:Int):=by omega
     obtain ⟨r1,r2⟩:=aZ6 h9 (by rw [<-h5];omega);rw [<-h5] at r1 r2;rw [Nat.min_eq_right (by omega)] at r2;have hs:=az9 hw (by omega) (n - a) _ _ hX a (a+bs) n f4 (b_ _) (by omega) he (b_ _) r1 r2;refine rS_ Tryz.func173 ?_;simp only [go_sem,seval,n2,w3,n3,n3',h.len,h.gog,h.at0,h.atj,h.set0,h.setj,h.tk,h.tk0,h.tkj,h.refs,h.refsj,h.hcaps,h.capsj,h.hcaps2,h.capsj2,a_]
     repeat' (first
      | ((refine hs.mono ?_<;>(rintro c H' ⟨rfl,f5,m5,s5,rfl⟩))<;>(try simp only [go_sem,seval,n2,w2,w3,n3,n3',h.len,h.gog,h.at0,h.atj,h.set0,h.setj,h.tk,h.tk0,h.tkj,h.refs,h.refsj,h.hcaps,h.capsj,h.hcaps2,h.capsj2,a_]))
      | fail)
     have hM5:=h7.trans (m5.mono (q_ _) (b_ _));rw [h5] at m5 s5;have hbl:=aI4 (k:=2 * bs) (by omega) h8 m5 s5 (by rw [<-h5];omega);all_goals refine hny (bs * 2) f5 _ ⟨by omega,hM5,by dsimp only;rw [Nat.mul_comm bs 2];exact hbl⟩ (by dsimp only;omega) ag8
    ·have n3:¬((a+bs:Nat):Int)<(n:Int):=by omega
     have n3':¬(a:Int)+(bs:Int)<(n:Int):=by omega
     have hl:=bo4 h9 (by rw [<-h5];omega);refine rS_ Tryz.func173 ?_;simp only [go_sem,seval,n2,w3,n3,n3',h.len,h.gog,h.at0,h.atj,h.set0,h.setj,h.tk,h.tk0,h.tkj,h.refs,h.refsj,h.hcaps,h.capsj,h.hcaps2,h.capsj2,a_]
     repeat' (first
      | (simp (disch:=omega) only [l6])
      | fail)
     have hbl:=aI4 (k:=2 * bs) (by omega) h8 (.refl _ _ _ _) hl (by rw [<-h5];omega);all_goals refine hny (bs * 2) f4 _ ⟨by omega,h7,by dsimp only;rw [Nat.mul_comm bs 2];exact hbl⟩ (by dsimp only;omega) ag8
  ·have n1:¬(bs:Int)<(n:Int):=by omega
   have hP:=b2.perm;have hS:=bu7 b3 (by omega);refine rS_ Tryz.func173 ?_;simp only [go_sem,seval,n1,h.len,h.gog,h.at0,h.atj,h.set0,h.setj,h.tk,h.tk0,h.tkj,h.refs,h.refsj,h.hcaps,h.capsj,h.hcaps2,h.capsj2,a_]
   repeat' (first
    | ((first
     | (refine ⟨sd,?_⟩)
     | (refine ⟨by assumption,?_⟩))<;>(try simp only [go_sem,seval,n1,h.len,h.gog,h.at0,h.atj,h.set0,h.setj,h.tk,h.tk0,h.tkj,h.refs,h.refsj,h.hcaps,h.capsj,h.hcaps2,h.capsj2,a_]))
    | assumption)
   all_goals first | exact hS | exact ⟨hP,hS⟩ | exact ⟨_,hP,hS,rfl⟩
end
set_option maxHeartbeats 4000000
def fcE (f:FcV):List D:=f.fc.enc
@[go_sem] theorem bN1 (f:FcV):(fcE f).length=2:=Fc.enc_len _
theorem o8 (f:FcV):fcE f=[.str f.1,.sl (f.2.map V.enc)]:=by unfold fcE;rw [Fc.enc_eq];simp only [FcV.fc,D6]
theorem aa2 (a b:FcV):Gives Tryz.prog 63 [.agg (fcE a),.agg (fcE b)] (.d (.int .i64 (a.cmp b))):=ai5 a.1 b.1 a.2 b.2
noncomputable def bV9:TypeInfo:=(Tryz.prog.info? 34).get (by kernel_rfl)
noncomputable def ch7:TypeInfo:=(Tryz.prog.info? 39).get (by kernel_rfl)
theorem bV8 (n:Nat) (h2:2<=n):Lib.swapperK n bV9 25=9:=by
 have a:bV9.hasPointers=true:=by kernel_rfl
 have b:bV9.bytes=40:=by kernel_rfl
 have c:(n == 0)=false:=by simp;omega
 have d:(n == 1)=false:=by simp;omega
 simp [Lib.swapperK,a,b,c,d]
theorem aE6 (xs:List (List D)) (a b:FcV) (i j:Nat) (hi:xs[i]? = some (fcE a)) (hj:xs[j]? = some (fcE b)):l8 Tryz.prog 155 [.d (.int .i64 i),.d (.int .i64 j),.cptr [.sl xs]] [] (fun c _=>c=.d (.bool (decide (a.cmp b<0)))):=by
 have h1:=(h_.1 hi).1;have h2:=(h_.1 hj).1;have n1:(i:Int)<(xs.length:Int):=by omega
 have n2:(j:Int)<(xs.length:Int):=by omega
 have ho:=aa2 a b;refine aE_ Tryz.func155 ?_;refine rS_ Tryz.func155 ?_;simp only [go_sem,seval,n1,n2,d9 hi,d9 hj]
 repeat' (first
  | ((refine ho.callQ rfl ?_)<;>(try simp only [go_sem,seval,n1,n2,d9 hi,d9 hj]))
  | fail)
theorem aK6 {H:List O} {rb r q e:Nat} {xs:List FcV} (hb:H[rb]? = some (.box [.own r q])) (hr:H[r]? = some (.buf q 2 e (xs.map fcE))) (hne:rb≠r) (hrefs:H.all (O.refsLt H.length)=true) (hn:xs.length<=1000000000000) :
  l8 Tryz.prog 154 [.ifc 39 (.own r q),.fn 155 [.ptr rb 0]] H (fun c H'=>c=.tup []/\∃ys:List FcV,ys.Perm xs/\ys.Pairwise (fun a b=>decide (b.cmp a<0)=false)/\H'=H.set r (.buf q 2 e (ys.map fcE))):=by
 have hz:bV9.size=2:=by kernel_rfl
 have hw:Wk (fun a b:FcV=>decide (a.cmp b<0)):=FcV.cmp_lin.wk;have hbl:=(h_.1 hb).1;have hrl:=(h_.1 hr).1
 have h:=al3 Tryz.laysGt8 39 34 ch7 bV9 (by kernel_rfl) (by kernel_rfl) (by kernel_rfl) (by kernel_rfl) 25 (fun _=>by kernel_rfl) (fun _=>by kernel_rfl) 179 180 187
  (by kernel_rfl) (by kernel_rfl) (fun n h2=>by rw [bV8 n h2];kernel_rfl) false (fun args W=>run_callFunc_extern Tryz.func187 (by kernel_rfl) (by kernel_rfl) (by kernel_rfl) (e:=Extern.ReflectliteSwapper.swap false) (by kernel_rfl) args W)
  fcE (fun x=>(bN1 x).trans hz.symm) (fun a b=>decide (a.cmp b<0)) (g:=155) (caps:=[.ptr rb 0]) (H:=H) (r:=r) (q:=q) (e:=e) (xs:=xs) (by kernel_rfl) (by simp [C.refsLt1,hbl]) hrefs (by rw [hz];exact hr) hn
  (fun caps2 n m Hs h1 S f0=>by3 hw h1 S f0)
  (fun f X i j hi hj=>ch5 hb hne hrl X (aE6 _ (f i) (f j) i j (M8 fcE f hi) (M8 fcE f hj)))
 rw [hz] at h;exact h
theorem bJ5:∀a b:V,Gives Tryz.prog 117 [.agg a.enc,.agg b.enc] (.d (.bool (decide (a=b)))):=by
 intro a;induction a with
 | pair x y ihx ihy =>
  intro b;cases b with
  | pair u v =>
   have hx:=ihx u;have hy:=ihy v;rw [show decide (V.pair x y=V.pair u v)=(decide (x=u) && decide (y=v)) from by simp];generalize decide (x=u)=p at hx |-;generalize decide (y=v)=q at hy |-;cases p<;>cases q
   all_goals
    refine aE_ Tryz.func117 ?_;refine rS_ Tryz.func117 ?_;simp only [go_sem,seval,V.enc_pair]
    repeat' (first
     | (simp (disch:=omega) only [l6])
     | ((first
      | (refine hx.callQ rfl ?_)
      | (refine hy.callQ rfl ?_)
      | (refine AW.loop ?_<;>(refine rS_ Tryz.func117 ?_))
      | (refine AW.round ?_<;>(refine rS_ Tryz.func117 ?_)))<;>(try simp only [go_sem,seval,V.enc_pair]))
     | fail)
  | _ =>
   rw [show decide _=false from by simp];refine aE_ Tryz.func117 ?_;refine rS_ Tryz.func117 ?_;simp only [go_sem,seval,V.enc_pair,V.enc_nil,V.enc_var,V.enc_sym,V.enc_num]
 | nil =>
  intro b;cases b with
  | nil =>
   rw [show decide _=true from by simp];refine aE_ Tryz.func117 ?_;refine rS_ Tryz.func117 ?_;simp only [go_sem,seval,V.enc_nil]
   repeat' (first
    | ((refine AW.loop ?_<;>(refine rS_ Tryz.func117 ?_))<;>(try simp only [go_sem,seval,V.enc_nil]))
    | fail)
  | _ =>
   rw [show decide _=false from by simp];refine aE_ Tryz.func117 ?_;refine rS_ Tryz.func117 ?_;simp only [go_sem,seval,V.enc_pair,V.enc_nil,V.enc_var,V.enc_sym,V.enc_num]
 | var n =>
  intro b;cases b with
  | var m =>
   by_cases e:n=m
   ·subst e
    rw [show decide _=true from by simp];refine aE_ Tryz.func117 ?_;refine rS_ Tryz.func117 ?_;simp only [go_sem,seval,V.enc_var]
    repeat' (first
     | ((refine AW.loop ?_<;>(refine rS_ Tryz.func117 ?_))<;>(try simp only [go_sem,seval,V.enc_var]))
     | fail)
   ·rw [show decide _=false from by simp [e]]
    refine aE_ Tryz.func117 ?_;refine rS_ Tryz.func117 ?_;simp only [go_sem,seval,V.enc_var,e]
    repeat' (first
     | ((refine C9 (fun hq=>?_) (fun hq=>?_))<;>(try simp only [go_sem,seval,V.enc_var,e,hq]))
     | fail)
    all_goals (exfalso;exact e (by assumption))
  | _ =>
   rw [show decide _=false from by simp];refine aE_ Tryz.func117 ?_;refine rS_ Tryz.func117 ?_;simp only [go_sem,seval,V.enc_pair,V.enc_nil,V.enc_var,V.enc_sym,V.enc_num]
 | num n =>
  intro b;cases b with
  | num m =>
   by_cases e:n=m
   ·subst e
    rw [show decide _=true from by simp];refine aE_ Tryz.func117 ?_;refine rS_ Tryz.func117 ?_;simp only [go_sem,seval,V.enc_num]
    repeat' (first
     | ((refine AW.loop ?_<;>(refine rS_ Tryz.func117 ?_))<;>(try simp only [go_sem,seval,V.enc_num]))
     | fail)
   ·rw [show decide _=false from by simp [e]]
    refine aE_ Tryz.func117 ?_;refine rS_ Tryz.func117 ?_;simp only [go_sem,seval,V.enc_num,e]
    repeat' (first
     | ((refine C9 (fun hq=>?_) (fun hq=>?_))<;>(try simp only [go_sem,seval,V.enc_num,e,hq]))
     | fail)
    all_goals (exfalso;exact e (by assumption))
  | _ =>
   rw [show decide _=false from by simp];refine aE_ Tryz.func117 ?_;refine rS_ Tryz.func117 ?_;simp only [go_sem,seval,V.enc_pair,V.enc_nil,V.enc_var,V.enc_sym,V.enc_num]
 | sym n =>
  intro b;cases b with
  | sym m =>
   by_cases e:n=m
   ·subst e
    rw [show decide _=true from by simp];refine aE_ Tryz.func117 ?_;refine rS_ Tryz.func117 ?_;simp only [go_sem,seval,V.enc_sym]
    repeat' (first
     | ((refine AW.loop ?_<;>(refine rS_ Tryz.func117 ?_))<;>(try simp only [go_sem,seval,V.enc_sym]))
     | fail)
   ·have e2:(n == m)=false:=by simpa using e
    rw [show decide _=false from by simp [e]];refine aE_ Tryz.func117 ?_;refine rS_ Tryz.func117 ?_;simp only [go_sem,seval,V.enc_sym,e2]
  | _ =>
   rw [show decide _=false from by simp];refine aE_ Tryz.func117 ?_;refine rS_ Tryz.func117 ?_;simp only [go_sem,seval,V.enc_pair,V.enc_nil,V.enc_var,V.enc_sym,V.enc_num]
theorem list_fn (a b:List V):Gives Tryz.prog 71 [.sl (a.map V.enc),.sl (b.map V.enc)] (.d (.bool (decide (a=b)))):=by
 have hmap:∀x:List V,(x.map V.enc).length=x.length:=fun x=>i_ _;by_cases hl:a.length=b.length
 ·have n1:(a.length:Int)=(b.length:Int):=by omega
  refine aE_ Tryz.func71 ?_;refine rS_ Tryz.func71 ?_;simp only [go_sem,seval,hmap,n1];refine AW.rng a [1,12,13] 14 12 (fun _:List V=>[]) (fun H _=>H) (fun r s=>b.drop (a.length - r.length)=s/\s.length=r.length/\r.length<=a.length/\decide (a=b)=decide (r=s)) b rfl (by simp) ⟨by simp,hl.symm,b_ _,rfl⟩ H6 (fun i x r s hxi hdr hlt hm hinv hnext=>?_) (fun s hinv=>?_)
  ·obtain ⟨i1,i2,i3,i4⟩:=hinv
   obtain ⟨y,t,rfl⟩:∃y t,s=y :: t:=by
    cases s with
    | nil=>simp at i2
    | cons y t=>exact ⟨y,t,rfl⟩
   simp only [f_] at i1 i2 i3;have hil:i=a.length - (r.length+1):=by
    have:=congrArg List.length hdr;simp only [r_,f_] at this;omega
   have hyi:b[i]? = some y/\b.drop (i+1)=t:=by
    rw [<-hil] at i1;have hib:i<b.length:=by omega
    rw [K_ hib] at i1;exact ⟨by rw [m_ hib,(List.cons.inj i1).1],(List.cons.inj i1).2⟩
   have hyb:(b.map V.enc)[i]? = some y.enc:=by rw [v_,hyi.1];rfl
   have hlt2:(i:Int)<(b.length:Int):=by omega
   have hs:=bJ5 x y;by_cases e:x=y
   ·subst e
    rw [show decide (x=x)=true from by simp] at hs;refine rS_ Tryz.func71 ?_;simp only [go_sem,seval,hmap,hlt,hlt2,d9 hxi,d9 hyi.1]
    repeat' (first
     | (simp (disch:=omega) only [l6])
     | (refine hnext t _ ⟨by rw [show a.length - r.length=i+1 by omega];exact hyi.2,by omega,by omega,by rw [i4];simp⟩ H6)
     | ((refine hs.callQ rfl ?_)<;>(try simp only [go_sem,seval,hmap,hlt,hlt2,d9 hxi,d9 hyi.1]))
     | fail)
   ·rw [show decide (x=y)=false from by simp [e]] at hs
    rw [i4,show decide (x :: r=y :: t)=false from by simp [e]];refine rS_ Tryz.func71 ?_;simp only [go_sem,seval,hmap,hlt,hlt2,d9 hxi,d9 hyi.1]
    repeat' (first
     | ((refine hs.callQ rfl ?_)<;>(try simp only [go_sem,seval,hmap,hlt,hlt2,d9 hxi,d9 hyi.1]))
     | fail)
  ·obtain ⟨i1,i2,i3,i4⟩:=hinv
   obtain rfl:s=[]:=by cases s with
    | nil=>rfl
    | cons y t=>simp at i2
   rw [i4];refine rS_ Tryz.func71 ?_;simp only [go_sem,seval,hmap,n1]
 ·have n1:¬(a.length:Int)=(b.length:Int):=by omega
  rw [show decide (a=b)=false from by simp;exact fun e=>hl (by rw [e])];refine aE_ Tryz.func71 ?_;refine rS_ Tryz.func71 ?_;simp only [go_sem,seval,hmap,n1]
  repeat' (first
   | ((refine C9 (fun hq=>?_) (fun hq=>?_))<;>(try simp only [go_sem,seval,hmap,n1,hq]))
   | fail)
  all_goals (exfalso;omega)
set_option maxHeartbeats 8000000
theorem bC3 (a b:FcV):Gives Tryz.prog 37 [.agg (fcE a),.agg (fcE b)] (.d (.bool (decide (a=b)))):=by
 have hl:=list_fn a.2 b.2;rw [o8,o8];by_cases e:a.1=b.1
 ·rw [show decide (a=b)=decide (a.2=b.2) from by rw [u_,decide_eq_true_eq,decide_eq_true_eq];exact ⟨fun h=>by rw [h],fun h=>Prod.ext e h⟩]
  refine aE_ Tryz.func37 ?_;refine rS_ Tryz.func37 ?_;simp only [go_sem,seval,e]
  repeat' (first
   | ((refine (list_fn _ _).calls rfl ?_)<;>(try simp only [go_sem,seval,e]))
   | fail)
 ·rw [show decide (a=b)=false from decide_eq_false fun h=>e (by rw [h])]
  have e2:(a.1 == b.1)=false:=by simpa using e
  refine aE_ Tryz.func37 ?_;refine rS_ Tryz.func37 ?_;simp only [go_sem,seval,e,e2]
theorem bt2 (a b:FcV):Gives Tryz.prog 37 [.agg [.str a.1,.sl (a.2.map V.enc)],.agg [.str b.1,.sl (b.2.map V.enc)]] (.d (.bool (decide (a=b)))):=by
 have h:=bC3 a b;rw [o8,o8] at h;exact h
theorem bW0 (l:List FcV) (f:FcV):Gives Tryz.prog 12 [.sl (l.map fcE),.agg (fcE f)] (.d (.bool (decide (f∈l)))):=by
 obtain ⟨K,hK⟩:∃K,decide (f∈l)=K:=⟨_,rfl⟩;rw [hK,o8];refine aE_ Tryz.func12 ?_;refine rS_ Tryz.func12 ?_;simp only [go_sem,seval];refine AW.rng l [3,7,8] 9 7 (fun _:Unit=>[]) (fun H _=>H) (fun r _=>decide (f∈r)=K) () rfl (by simp) hK A8 (fun j y q b hyj hdr2 hlt2 hm2 hinv2 hnext2=>?_) (fun b hinv2=>?_)
 ·have he:=bt2 y f
  by_cases hc:y=f
  ·rw [decide_eq_true hc] at he
   subst hc;simp only [L_,true_or,decide_true] at hinv2;rw [<-hinv2];refine rS_ Tryz.func12 ?_;simp only [go_sem,seval,hlt2,d9 hyj,o8]
   repeat' (first
    | ((refine he.calls rfl ?_)<;>(try simp only [go_sem,seval,hlt2,d9 hyj,o8]))
    | fail)
  ·have hyf:¬f=y:=fun e=>hc e.symm
   rw [decide_eq_false hc] at he;simp only [L_,hyf,false_or] at hinv2;refine rS_ Tryz.func12 ?_;simp only [go_sem,seval,hlt2,d9 hyj,o8]
   repeat' (first
    | (simp (disch:=omega) only [l6])
    | (refine hnext2 () _ hinv2 A8)
    | ((refine he.calls rfl ?_)<;>(try simp only [go_sem,seval,hlt2,d9 hyj,o8]))
    | fail)
 ·simp only [List.not_mem_nil,decide_false] at hinv2
  rw [<-hinv2];refine rS_ Tryz.func12 ?_;simp only [go_sem,seval]
set_option maxHeartbeats 4000000
theorem aK5 (l:List FcV) (hl:l.length<=2000000):Gives Tryz.prog 116 [.sl (l.map fcE)] (.d (.sl ((al2 FcV.cmp l).map fcE))):=by
 have hmx:maxLen=9223372036854775807:=rfl;have hmap:∀x:List FcV,(x.map fcE).length=x.length:=fun x=>i_ _;refine aE_ Tryz.func116 ?_;refine l7 Tryz.func116 mixed 3 _ _ (by kernel_rfl) ?_;simp only [go_sem,seval,run.eq_1];refine AW.regS ?_;simp only [go_sem,seval,hmap];refine ⟨by omega,by omega,?_⟩;have hst:l8 Tryz.prog 154 [.ifc 39 (.own 0 1),.fn 155 [.ptr 1 0]] [.buf 1 2 34 (l.map fcE),.box [.own 0 1]] _:=aK6 rfl rfl (by decide) rfl (by omega);refine l7 Tryz.func116 mixed 2 _ _ (by kernel_rfl) ?_;simp only [go_sem,seval,run.eq_1];refine hst.mono ?_;rintro c H' ⟨rfl,ys,hp,hs,rfl⟩;simp only [go_sem,seval,run.eq_1];refine AW.frzBox 1 0 0 rfl rfl rfl (by decide) ?_;refine l7 Tryz.func116 mixed 2 _ _ (by kernel_rfl) ?_;simp only [go_sem,seval,run.eq_1];refine AW.adopt 4 2 34 (by decide) rfl ?_;have hyl:ys.length=l.length:=hp.length_eq;have hR:ddC FcV.cmp none ys=al2 FcV.cmp l:=bD4 FcV.cmp_lin (fun z=>hp.mem_iff) (hs.imp (fun h=>by simpa using h));rw [<-hR];refine rS_ Tryz.func116 ?_;simp only [go_sem,seval,hmap]
 refine AW.rng ys [3,15,16] 17 15 (fun p:List FcV=>[(4,.own 2 (ddC FcV.cmp none p).length)]) (fun _ p=>[.dead,.box [.d (.sl (ys.map fcE))],.grow (ddC FcV.cmp none p).length 2 34 ((ddC FcV.cmp none p).map fcE)]) (fun r p=>ys=p++r) [] rfl (by simp) rfl (by refine ⟨by simp [mkS,ddC],by simp [mkS,ddC],by simp only [mkS,e_,g_,O.refsLt,C.refsLt,C.refsLt1,o5];first | done | rfl | (simp;done),?_⟩;simp [mkS,Abs.get,C.refsLtT,C.refsLt,C.refsLt1,ddC]) (fun i x r p hxi hdr hlt hm hinv hnext=>?_) (fun p hinv=>?_)
 ·have hdl:=congrArg List.length hdr
  have hil:=congrArg List.length hinv;simp only [r_,f_,j_] at hdl hil;have hip:i=p.length:=by omega
  have hnx:=fun s'=>hnext (p++[x]) s' (by rw [hinv];simp);clear hnext;have hdd:=bD5 (c:=FcV.cmp) p none x;have hddl:(ddC FcV.cmp none p).length<=p.length:=by
   have key:∀(q:List FcV) (o:Option FcV),(ddC FcV.cmp o q).length<=q.length:=fun q=>by
    induction q with
    | nil=>intro o;simp [ddC]
    | cons z q ih =>
     intro o;cases o with
     | none=>simp only [ddC,f_];have:=ih (some z);omega
     | some w=>simp only [ddC];split<;>simp only [f_]<;>have:=ih (some z)<;>omega
   exact key p none
  rcases List.eq_nil_or_concat p with rfl | ⟨p',y,rfl⟩
  ·obtain rfl:i=0:=by simpa using hip
   have hd1:ddC FcV.cmp none ([]++[x])=[x]:=rfl;have hd0:ddC FcV.cmp none ([]:List FcV)=[]:=rfl;rw [hd1] at hnx;rw [hd0];have z0:((0:Nat):Int)=0:=rfl;have hlt0:(0:Int)<(ys.length:Int):=by omega
   rw [z0] at hnx;refine rS_ Tryz.func116 ?_;simp only [go_sem,seval,hlt0,d9 hxi,z0]
   repeat' (first
    | (simp (disch:=omega) only [l6])
    | ((refine ⟨sd,?_⟩)<;>(try simp only [go_sem,seval,hlt0,d9 hxi,z0]))
    | fail)
   refine hnx _ A8
  ·rw [List.concat_eq_append] at *
   have hi0:¬(i:Int)=0:=by rw [hip];simp;omega
   have hw1:IntKind.i64.wrap ((i:Int) - 1)=((i - 1:Nat):Int):=by rw [l6 (by omega) (by omega)];omega
   have n2:((i - 1:Nat):Int)<(ys.length:Int):=by omega
   have hyi:ys[i - 1]? = some y:=by
    rw [hinv,hip];simp
   have ho:=aa2 y x;have hlast:(((none:Option FcV).toList++(p'++[y])).getLast?)=some y:=by simp
   rw [hlast] at hdd;dsimp only at hdd;by_cases e:y.cmp x=0
   ·rw [if_pos e,d_] at hdd
    rw [e] at ho;rw [hdd] at hnx;refine rS_ Tryz.func116 ?_;simp only [go_sem,seval,hlt,d9 hxi,hi0,hw1,n2,d9 hyi,hmap]
    repeat' (first
     | (simp (disch:=omega) only [l6])
     | ((refine ho.callQ rfl ?_)<;>(try simp only [go_sem,seval,hlt,d9 hxi,hi0,hw1,n2,d9 hyi,hmap]))
     | fail)
    all_goals refine hnx _ A8
   ·rw [if_neg e] at hdd
    rw [hdd] at hnx;refine rS_ Tryz.func116 ?_;simp only [go_sem,seval,hlt,d9 hxi,hi0,hw1,n2,d9 hyi,hmap]
    repeat' (first
     | ((refine C9 (fun hq=>?_) (fun hq=>?_))<;>(try simp only [go_sem,seval,hlt,d9 hxi,hi0,hw1,n2,d9 hyi,hmap,e,hq]))
     | (simp (disch:=omega) only [l6])
     | ((first
      | (refine ho.callQ rfl ?_)
      | (refine ⟨sd,?_⟩))<;>(try simp only [go_sem,seval,hlt,d9 hxi,hi0,hw1,n2,d9 hyi,hmap,e]))
     | fail)
    all_goals first | (exfalso;exact e (by assumption)) | skip
    all_goals refine hnx _ A8
 ·rw [d_] at hinv
  rw [hinv];refine rS_ Tryz.func116 ?_;simp only [go_sem,seval]
theorem bW3 (x y:Nat) (h:x+y<=1000000000):IntKind.i64.wrap (bP8 .u64 (IntKind.u64.wrap ((x:Int)+(y:Int))) 1)=(((x+y) / 2:Nat):Int):=bi3 x y (by omega)
theorem bn6 {g:FuncId} {caps:List C} {m:Nat} {H:List O} {p:Nat->Bool} (n:Nat) (hn:n<=100000000) (h:CloR Tryz.prog g caps m (fun i:Nat=>D.int .i64 (i:Int)) H (fun i=>i<n) (fun i=>.d (.bool (p i)))) (hm:∀i j,i<=j->j<n->p i=true->p j=true) :
  l8 Tryz.prog 152 [.d (.int .i64 n),.fn g caps] H (fun c H'=>c=.d (.int .i64 (aK4 p n:Int))/\H'=H):=by
 obtain ⟨K,hK⟩:∃K,aK4 p n=K:=⟨_,rfl⟩;rw [hK];refine aE_ Tryz.func152 ?_;refine rS_ Tryz.func152 ?_;simp only [go_sem,seval,h.len,h.go,h.at0,h.atj,h.set0,h.setj,h.tk,h.tk0,h.tkj,h.refs,h.refsj,h.hcaps,h.capsj,a_];refine AW.lp [1] (fun u:Nat×Nat=>[(5,.d (.int .i64 (u.1:Int))),(6,.d (.int .i64 (u.2:Int)))]) (fun H _=>H) (fun u=>u.1<=u.2/\u.2<=n/\(∀i,i<u.1->p i=false)/\(∀i,u.2<=i->i<n->p i=true)) (fun u=>u.2 - u.1) (0,n) ⟨q_ _,b_ _,fun i hi=>absurd hi (Nat.not_lt_zero _),fun i a b=>by omega⟩ bQ6 ?_;rintro ⟨i,j⟩ ⟨h1,h2,h3,h4⟩ hnext;dsimp only at h1 h2 h3 h4 hnext |-;by_cases hij:i<j
 ·have n1:(i:Int)<(j:Int):=by omega
  have hh:=bW3 i j (by omega);have w0:IntKind.i64.wrap ((i:Int)+(j:Int))=(i:Int)+(j:Int):=l6 (by omega) (by omega);have hnx:=fun i' j' s'=>hnext (i',j') s';clear hnext;have hq:(i+j) / 2<n:=by omega
  have hc:=h.call ((i+j) / 2) hq;cases hp:p ((i+j) / 2) with
  | false =>
   rw [hp] at hc;refine rS_ Tryz.func152 ?_;simp only [go_sem,seval,n1,w0,hh,h.len,h.go,h.at0,h.atj,h.set0,h.setj,h.tk,h.tk0,h.tkj,h.refs,h.refsj,h.hcaps,h.capsj,a_]
   repeat' (first
    | (simp (disch:=omega) only [l6])
    | ((refine hc.mono ?_<;>(rintro c H' ⟨rfl,rfl⟩))<;>(try simp only [go_sem,seval,n1,w0,hh,h.len,h.go,h.at0,h.atj,h.set0,h.setj,h.tk,h.tk0,h.tkj,h.refs,h.refsj,h.hcaps,h.capsj,a_]))
    | fail)
   refine hnx ((i+j) / 2+1) j _ ⟨by omega,h2,fun x hx=>?_,h4⟩ (by dsimp only;omega) bQ6;cases hpx:p x with
   | false=>rfl
   | true=>rw [<-hp];exact (hm x _ (by omega) hq hpx).symm
  | true =>
   rw [hp] at hc;refine rS_ Tryz.func152 ?_;simp only [go_sem,seval,n1,w0,hh,h.len,h.go,h.at0,h.atj,h.set0,h.setj,h.tk,h.tk0,h.tkj,h.refs,h.refsj,h.hcaps,h.capsj,a_]
   repeat' (first
    | ((refine hc.mono ?_<;>(rintro c H' ⟨rfl,rfl⟩))<;>(try simp only [go_sem,seval,n1,w0,hh,h.len,h.go,h.at0,h.atj,h.set0,h.setj,h.tk,h.tk0,h.tkj,h.refs,h.refsj,h.hcaps,h.capsj,a_]))
    | fail)
   refine hnx i ((i+j) / 2) _ ⟨by omega,by omega,h3,fun x hx hxn=>hm _ x hx hxn hp⟩ (by dsimp only;omega) bQ6
 ·have n1:¬(i:Int)<(j:Int):=by omega
  obtain rfl:i=j:=by omega
  have hki:K=i:=by rw [<-hK];exact bJ3 h2 h3 (fun hlt=>h4 i (b_ _) hlt)
  rw [hki];refine rS_ Tryz.func152 ?_;simp only [go_sem,seval,n1,h.len,h.go,h.at0,h.atj,h.set0,h.setj,h.tk,h.tk0,h.tkj,h.refs,h.refsj,h.hcaps,h.capsj,a_]
theorem aO4 (l:List FcV) (f:FcV):CloR Tryz.prog 153 [.ptr 0 0,.ptr 1 0] 2 (fun i:Nat=>D.int .i64 (i:Int)) [.box [.d (.sl (l.map fcE))],.box ((fcE f).map .d)] (fun i=>i<l.length) (fun i=>.d (.bool (geC FcV.cmp l f i))):=by
 have hmap:∀x:List FcV,(x.map fcE).length=x.length:=fun x=>i_ _;refine ⟨by kernel_rfl,rfl,rfl,by simp only [e_,g_,O.refsLt,o5,C.refsLt,C.refsLt1];rfl,fun i hi=>?_⟩;have hb:l[i]? = some l[i]:=m_ hi;have hg:geC FcV.cmp l f i=decide (0<=l[i].cmp f):=by unfold geC;rw [hb]
 rw [hg];generalize l[i]=b at hb;have n1:(i:Int)<(l.length:Int):=by omega
 have ho:=aa2 b f;refine aE_ Tryz.func153 ?_;refine rS_ Tryz.func153 ?_;simp only [go_sem,seval,hmap,n1,d9 hb]
 repeat' (first
  | ((refine ho.callQ rfl ?_)<;>(try simp only [go_sem,seval,hmap,n1,d9 hb]))
  | fail)
 all_goals simp only [o5]
theorem bi2 (l:List FcV) (f:FcV) (hl:l.length<=9000000) (ha:ak1 FcV.cmp l):Gives Tryz.prog 115 [.sl (l.map fcE),.agg (fcE f)] (.d (.bool (decide (f∈l)))):=by
 have hmap:∀x:List FcV,(x.map fcE).length=x.length:=fun x=>i_ _;have hs:=bn6 l.length (by omega) (aO4 l f) (bC0 FcV.cmp_lin ha f);have hh:=by4 FcV.cmp_lin ha f;generalize aK4 (geC FcV.cmp l f) l.length=k at hs hh;cases hb:l[k]? with
 | none =>
  have hk:=List.getElem?_eq_none_iff.1 hb;have n1:¬(k:Int)<(l.length:Int):=by omega
  rw [hb] at hh;rw [decide_eq_false (fun h=>hh.2 h)];refine aE_ Tryz.func115 ?_;refine rS_ Tryz.func115 ?_;simp only [go_sem,seval,hmap,n1]
  repeat' (first
   | ((refine hs.mono ?_<;>(rintro c H' ⟨rfl,rfl⟩))<;>(try simp only [go_sem,seval,hmap,n1]))
   | fail)
 | some b =>
  have hk:=(h_.1 hb).1;have n1:(k:Int)<(l.length:Int):=by omega
  rw [hb] at hh;dsimp only at hh;have ho:=aa2 b f;rw [show decide (f∈l)=decide (b.cmp f=0) from by rw [u_,decide_eq_true_eq,decide_eq_true_eq];exact hh.symm];refine aE_ Tryz.func115 ?_;refine rS_ Tryz.func115 ?_;simp only [go_sem,seval,hmap,n1,d9 hb]
  repeat' (first
   | ((first
    | (refine hs.mono ?_<;>(rintro c H' ⟨rfl,rfl⟩))
    | (refine ho.callQ rfl ?_))<;>(try simp only [go_sem,seval,hmap,n1,d9 hb]))
   | fail)
def aC4 (c:List Gl):List D:=[.sl (c.map Gl.enc)]
theorem U5 (c:List Gl):(aC4 c).length=1:=rfl
theorem z8 (c:List Gl):aC4 c=[.sl (c.map Gl.enc)]:=rfl
def ay8 (o:Option (List (List Gl))):C:=.tup [.d (.sl ((o.getD []).map aC4)),.d (.bool o.isSome)]
theorem aQ3 {x:Gl} {l:List (List Gl)} (h:x.clsI=some l):l.length<=64/\∀c,c∈l->c.length<=x.cnt:=by
 rw [Gl.cls_same] at h;split at h
 ·simp only [Option.some.injEq] at h
  subst h;exact ⟨by assumption,fun c hc=>(Gl.clsS_row x c hc).1⟩
 ·cases h
theorem ao6:∀t:Gl,wtL t.enc<=1048576->Gives Tryz.prog 62 [.agg t.enc] (ay8 t.clsI):=by
 intro t;induction t using Gl.ind' with
 | h t ih =>
  intro hw;have hmx:maxLen=9223372036854775807:=rfl;have hcn:=Gl.cnt_eq t;have hcw:=Gl.cnt_le_wt t;rw [Gl.clsI_eq];by_cases h0:t.kind=0
  ·rw [if_pos h0]
   refine aE_ Tryz.func62 ?_;refine rS_ Tryz.func62 ?_;simp only [go_sem,seval,h0];all_goals rfl
  ·rw [if_neg h0]
   by_cases h1:t.kind=1
   ·rw [if_pos h1]
    refine aE_ Tryz.func62 ?_;refine rS_ Tryz.func62 ?_;simp only [go_sem,seval,h0,h1];all_goals rfl
   ·rw [if_neg h1]
    by_cases h8:t.kind=8
    ·rw [if_pos h8]
     refine aE_ Tryz.func62 ?_;refine rS_ Tryz.func62 ?_;simp only [go_sem,seval,h0,h1,h8];refine AW.adopt 4 1 77 (by decide) rfl ?_;refine AW.rng t.goals [34,35] 36 34 (fun p:Nat×List (List Gl)=>[(4,.own 1 p.1)]) (fun _ p=>[.box (t.enc.map .d),.grow p.1 1 77 (p.2.map aC4)]) (fun r p=>p.2.length<=64/\Gl.orI r p.2=Gl.orI t.goals []) (0,[]) rfl (by simp) ⟨by simp,rfl⟩ A8 (fun i x r p hxi hdr hlt hm hinv hnext=>?_) (fun p hinv=>?_)
     ·have hxm:=c_ hxi
      obtain ⟨hi1,hi2⟩:=hinv;have hx:=ih x hxm (by have:=Gl.wt_goals hxm;omega);simp only [Gl.orI] at hi2;cases hcl:x.clsI with
      | none =>
       rw [hcl] at hx hi2;dsimp only at hi2;rw [<-hi2];refine rS_ Tryz.func62 ?_;simp only [go_sem,seval,hlt,d9 hxi]
       repeat' (first
        | ((refine hx.calls rfl ?_)<;>(try simp only [go_sem,seval,hlt,d9 hxi,ay8,C_,A_]))
        | fail)
       all_goals rfl
      | some l =>
       obtain ⟨hl1,_⟩:=aQ3 hcl;rw [hcl] at hx hi2;dsimp only at hi2;have hal:(p.2++l).length=p.2.length+l.length:=j_;by_cases hb:64<(p.2++l).length
       ·rw [if_pos hb] at hi2
        rw [<-hi2];have hlb:(64:Int)<p.2.length+l.length:=by omega
        refine rS_ Tryz.func62 ?_;simp only [go_sem,seval,hlt,d9 hxi]
        repeat' (first
         | ((refine C9 (fun hq=>?_) (fun hq=>?_))<;>(try simp only [go_sem,seval,hlt,d9 hxi,ay8,p_,n_,U5,hq]))
         | (simp (disch:=omega) only [l6])
         | ((first
          | (refine hx.calls rfl ?_)
          | (refine ⟨sd,?_⟩))<;>(try simp only [go_sem,seval,hlt,d9 hxi,ay8,p_,n_,U5]))
         | fail)
        all_goals first | (exfalso;omega) | skip
        all_goals rfl
       ·rw [if_neg hb] at hi2
        have hlb:¬(64:Int)<p.2.length+l.length:=by omega
        refine rS_ Tryz.func62 ?_;simp only [go_sem,seval,hlt,d9 hxi]
        repeat' (first
         | ((refine C9 (fun hq=>?_) (fun hq=>?_))<;>(try simp only [go_sem,seval,hlt,d9 hxi,ay8,p_,n_,U5,hq]))
         | (simp (disch:=omega) only [l6])
         | ((first
          | (refine hx.calls rfl ?_)
          | (refine ⟨sd,?_⟩))<;>(try simp only [go_sem,seval,hlt,d9 hxi,ay8,p_,n_,U5]))
         | fail)
        all_goals first | (exfalso;omega) | skip
        refine hnext (p.1+1,p.2++l) _ ⟨by show (p.2++l).length<=64;omega,hi2⟩ A8
     ·obtain ⟨hi1,hi2⟩:=hinv
      simp only [Gl.orI] at hi2;rw [<-hi2];refine rS_ Tryz.func62 ?_;simp only [go_sem,seval];all_goals rfl
    ·rw [if_neg h8]
     by_cases h7:t.kind=7
     ·rw [if_pos h7]
      refine aE_ Tryz.func62 ?_;refine rS_ Tryz.func62 ?_;simp only [go_sem,seval,h0,h1,h8,h7];refine AW.rng t.goals [59,60] 61 59 (fun p:List (List Gl)=>[(9,.d (.bool false)),(4,.d (.sl (p.map aC4)))]) (fun _ p=>[.box (t.enc.map .d)]) (fun r p=>p.length<=64/\Gl.andI r p=Gl.andI t.goals [[]]/\∀c,c∈p->c.length+Gl.cnts r<=Gl.cnts t.goals) [[]] rfl (by simp) ⟨by simp,rfl,by simp⟩ (by refine ⟨by simp [mkS,z8],by simp [mkS,z8],by simp only [mkS,e_,g_,O.refsLt,C.refsLt,C.refsLt1,o5];first | done | rfl | (simp;done),?_⟩;simp [mkS,Abs.get,C.refsLtT,C.refsLt,C.refsLt1,z8]) (fun i x r p hxi hdr hlt hm hinv hnext=>?_) (fun p hinv=>?_)
      ·have hxm:=c_ hxi
       obtain ⟨hi1,hi2,hi3⟩:=hinv;have hx:=ih x hxm (by have:=Gl.wt_goals hxm;omega);simp only [Gl.andI] at hi2;simp only [Gl.cnts] at hi3;cases hcl:x.clsI with
       | none =>
        rw [hcl] at hx hi2;dsimp only at hi2;rw [<-hi2];refine rS_ Tryz.func62 ?_;simp only [go_sem,seval,hlt,d9 hxi]
        repeat' (first
         | ((refine hx.calls rfl ?_)<;>(try simp only [go_sem,seval,hlt,d9 hxi,ay8,C_,A_]))
         | fail)
        all_goals rfl
       | some l =>
        obtain ⟨hl1,hl2⟩:=aQ3 hcl;rw [hcl] at hx hi2;dsimp only at hi2;have hpl:=ai2 p l;have hpb:p.length * l.length<=64 * 64:=F_ hi1 hl1;refine rS_ Tryz.func62 ?_;simp only [go_sem,seval,hlt,d9 hxi]
        repeat' (first
         | ((refine hx.calls rfl ?_)<;>(try simp only [go_sem,seval,hlt,d9 hxi,ay8,p_,n_]))
         | fail)
        refine AW.adopt 14 1 77 (by decide) rfl ?_;refine AW.rng p [9,12,59,60,61,73,74] 75 73 (fun u:Nat×List (List Gl)=>[(14,.own 2 u.1)]) (fun _ u=>[.box (t.enc.map .d),.box (x.enc.map .d),.grow u.1 1 77 (u.2.map aC4)]) (fun ar u=>u.2++J7 ar l=J7 p l) (0,[]) rfl (by simp) rfl A8 (fun ia a ar u hai hda hal hma hua hna=>?_) (fun u hua=>?_)
        ·have ham:=c_ hai
         have hac:=hi3 a ham;simp only [J7,List.flatMap_cons] at hua;refine rS_ Tryz.func62 ?_;simp only [go_sem,seval,hal,d9 hai,z8];refine AW.rng l [9,12,16,59,60,61,73,74,75,79,80] 81 79 (fun v:Nat×List (List Gl)=>[(14,.own 2 v.1)]) (fun _ v=>[.box (t.enc.map .d),.box (x.enc.map .d),.grow v.1 1 77 (v.2.map aC4)]) (fun br v=>v.2++(br.map (fun y=>a++y)++J7 ar l)=J7 p l) u rfl (by simp) hua A8 (fun ib b br v hbi hdb hbl hmb hvb hnb=>?_) (fun v hvb=>?_)
         ·have hbm:=c_ hbi
          have hbc:=hl2 b hbm;have hvl:=congrArg List.length hvb;simp only [j_,w_,f_] at hvl;refine rS_ Tryz.func62 ?_;simp only [go_sem,seval,hbl,d9 hbi,z8]
          repeat' (first
           | (simp (disch:=omega) only [l6])
           | ((refine ⟨sd,?_⟩)<;>(try simp only [go_sem,seval,hbl,d9 hbi,z8]))
           | fail)
          refine hnb (v.1+1,v.2++[a++b]) _ (by rw [<-hvb];simp) (by refine ⟨by simp [mkS,z8],by simp [mkS,z8],by simp only [mkS,e_,g_,O.refsLt,C.refsLt,C.refsLt1,o5];first | done | rfl | (simp;done),?_⟩;simp [mkS,Abs.get,C.refsLtT,C.refsLt,C.refsLt1,z8])
         ·simp only [o_,s_] at hvb
          refine rS_ Tryz.func62 ?_;simp only [go_sem,seval]
          repeat' (first
           | (simp (disch:=omega) only [l6])
           | fail)
          refine hna v _ hvb A8
        ·simp only [J7,List.flatMap_nil,d_] at hua
         have hub:u.2.length=p.length * l.length:=by rw [hua];exact hpl
         refine AW.readG 14 2 rfl rfl ?_;by_cases hb:64<(J7 p l).length
         ·rw [if_pos hb] at hi2
          rw [<-hi2];have hlb:(64:Int)<(u.2.length:Int):=by omega
          refine rS_ Tryz.func62 ?_;simp only [go_sem,seval,hlb];all_goals rfl
         ·rw [if_neg hb] at hi2
          have hlb:¬(64:Int)<(u.2.length:Int):=by omega
          refine rS_ Tryz.func62 ?_;simp only [go_sem,seval,hlb]
          repeat' (first
           | (simp (disch:=omega) only [l6])
           | fail)
          have hu2:u.2=J7 p l:=hua;refine hnext u.2 _ ⟨by omega,by rw [hu2];exact hi2,fun c hc=>?_⟩ A8;rw [hu2] at hc;obtain ⟨ca,cb,hca,hcb,rfl⟩:=at7 hc;have k1:=hi3 ca hca;have k2:=hl2 cb hcb;rw [j_];omega
      ·obtain ⟨hi1,hi2,_⟩:=hinv
       simp only [Gl.andI] at hi2;rw [<-hi2];refine rS_ Tryz.func62 ?_;simp only [go_sem,seval];all_goals rfl
     ·rw [if_neg h7]
      refine aE_ Tryz.func62 ?_;refine rS_ Tryz.func62 ?_;simp only [go_sem,seval,h0,h1,h8,h7];all_goals rfl
theorem aG3:∀t:Gl,wtL t.enc<=1048576->Gives Tryz.prog 138 [.agg t.enc] (.d (.sl (t.clsS.map aC4))):=by
 intro t;induction t using Gl.ind' with
 | h t ih =>
  intro hw;have hmx:maxLen=9223372036854775807:=rfl;have hcn:=Gl.cnt_eq t;have hcw:=Gl.cnt_le_wt t;rw [Gl.clsS_eq];by_cases h0:t.kind=0
  ·simp only [if_pos h0]
   refine aE_ Tryz.func138 ?_;refine rS_ Tryz.func138 ?_;simp only [go_sem,seval,h0];all_goals rfl
  ·simp only [if_neg h0]
   by_cases h1:t.kind=1
   ·simp only [if_pos h1]
    refine aE_ Tryz.func138 ?_;refine rS_ Tryz.func138 ?_;simp only [go_sem,seval,h0,h1];all_goals rfl
   ·simp only [if_neg h1]
    by_cases h8:t.kind=8
    ·simp only [if_pos h8]
     refine aE_ Tryz.func138 ?_;refine rS_ Tryz.func138 ?_;simp only [go_sem,seval,h0,h1,h8];refine AW.adopt 3 1 77 (by decide) rfl ?_;refine AW.rng t.goals [28,29] 30 28 (fun p:Nat×List (List Gl)=>[(3,.own 1 p.1)]) (fun _ p=>[.box (t.enc.map .d),.grow p.1 1 77 (p.2.map aC4)]) (fun r p=>p.2.length+64 * Gl.cnts r<=64 * Gl.cnts t.goals/\Gl.orS r p.2=Gl.orS t.goals []) (0,[]) rfl (by simp) ⟨by simp,rfl⟩ A8 (fun i x r p hxi hdr hlt hm hinv hnext=>?_) (fun p hinv=>?_)
     ·have hxm:=c_ hxi
      obtain ⟨hi1,hi2⟩:=hinv;have hx:=ih x hxm (by have:=Gl.wt_goals hxm;omega);have hxl:=Gl.clsS_len x;have hxp:=x.cnt_pos;simp only [Gl.orS] at hi2;simp only [Gl.cnts] at hi1;have hal:(p.2++x.clsS).length=p.2.length+x.clsS.length:=j_;by_cases hb:64<x.clsS.length
      ·rw [if_pos hb] at hi2
       rw [<-hi2];refine rS_ Tryz.func138 ?_;simp only [go_sem,seval,hlt,d9 hxi]
       repeat' (first
        | ((refine C9 (fun hq=>?_) (fun hq=>?_))<;>(try simp only [go_sem,seval,hlt,d9 hxi,U5,hq]))
        | (simp (disch:=omega) only [l6])
        | ((first
         | (refine hx.calls rfl ?_)
         | (refine ⟨sd,?_⟩))<;>(try simp only [go_sem,seval,hlt,d9 hxi,U5]))
        | fail)
       all_goals first | (exfalso;omega) | skip
      ·rw [if_neg hb] at hi2
       refine rS_ Tryz.func138 ?_;simp only [go_sem,seval,hlt,d9 hxi]
       repeat' (first
        | ((refine C9 (fun hq=>?_) (fun hq=>?_))<;>(try simp only [go_sem,seval,hlt,d9 hxi,U5,hq]))
        | (simp (disch:=omega) only [l6])
        | ((first
         | (refine hx.calls rfl ?_)
         | (refine ⟨sd,?_⟩))<;>(try simp only [go_sem,seval,hlt,d9 hxi,U5]))
        | fail)
       all_goals first | (exfalso;omega) | skip
       refine hnext (p.1+1,p.2++x.clsS) _ ⟨by dsimp only;omega,hi2⟩ A8
     ·obtain ⟨hi1,hi2⟩:=hinv
      simp only [Gl.orS] at hi2;rw [<-hi2];refine rS_ Tryz.func138 ?_;simp only [go_sem,seval]
    ·simp only [if_neg h8]
     by_cases h7:t.kind=7
     ·simp only [if_pos h7]
      refine aE_ Tryz.func138 ?_;refine rS_ Tryz.func138 ?_;simp only [go_sem,seval,h0,h1,h8,h7]
      repeat' (first
       | ((refine ⟨sd,?_⟩)<;>(try simp only [go_sem,seval,h0,h1,h8,h7]))
       | fail)
      refine AW.readG 3 1 rfl rfl ?_;refine AW.rng t.goals [52,53] 54 52 (fun p:List (List Gl)=>[(3,.d (.sl (p.map aC4)))]) (fun _ p=>[.box (t.enc.map .d)]) (fun r p=>p.length<=64/\Gl.andS r p=Gl.andS t.goals [[]]/\∀c,c∈p->c.length+Gl.cnts r<=Gl.cnts t.goals) [[]] rfl (by simp) ⟨by simp,rfl,by simp⟩ (by refine ⟨by simp [mkS,z8],by simp [mkS,z8],by simp only [mkS,e_,g_,O.refsLt,C.refsLt,C.refsLt1,o5];first | done | rfl | (simp;done),?_⟩;simp [mkS,Abs.get,C.refsLtT,C.refsLt,C.refsLt1,z8]) (fun i x r p hxi hdr hlt hm hinv hnext=>?_) (fun p hinv=>?_)
      ·have hxm:=c_ hxi
       obtain ⟨hi1,hi2,hi3⟩:=hinv;have hx:=ih x hxm (by have:=Gl.wt_goals hxm;omega);have hl2:∀c,c∈x.clsS->c.length<=x.cnt:=fun c hc=>(Gl.clsS_row x c hc).1;simp only [Gl.andS] at hi2;simp only [Gl.cnts] at hi3;by_cases hb1:64<x.clsS.length
       ·rw [if_pos hb1] at hi2
        rw [<-hi2];refine rS_ Tryz.func138 ?_;simp only [go_sem,seval,hlt,d9 hxi]
        repeat' (first
         | ((refine C9 (fun hq=>?_) (fun hq=>?_))<;>(try simp only [go_sem,seval,hlt,d9 hxi,hq]))
         | ((refine hx.calls rfl ?_)<;>(try simp only [go_sem,seval,hlt,d9 hxi]))
         | fail)
        all_goals first | (exfalso;omega) | skip
       ·rw [if_neg hb1] at hi2
        generalize x.clsS=l at *;have hpl:=ai2 p l;have hpb:p.length * l.length<=64 * 64:=F_ hi1 (by omega);refine rS_ Tryz.func138 ?_;simp only [go_sem,seval,hlt,d9 hxi]
        repeat' (first
         | ((refine C9 (fun hq=>?_) (fun hq=>?_))<;>(try simp only [go_sem,seval,hlt,d9 hxi,hq]))
         | ((refine hx.calls rfl ?_)<;>(try simp only [go_sem,seval,hlt,d9 hxi]))
         | fail)
        all_goals first | (exfalso;omega) | skip
        refine AW.adopt 10 1 77 (by decide) rfl ?_;refine AW.rng p [9,52,53,54,65,66] 67 65 (fun u:Nat×List (List Gl)=>[(10,.own 2 u.1)]) (fun _ u=>[.box (t.enc.map .d),.box (x.enc.map .d),.grow u.1 1 77 (u.2.map aC4)]) (fun ar u=>u.2++J7 ar l=J7 p l) (0,[]) rfl (by simp) rfl A8 (fun ia a ar u hai hda hal hma hua hna=>?_) (fun u hua=>?_)
        ·have ham:=c_ hai
         have hac:=hi3 a ham;simp only [J7,List.flatMap_cons] at hua;refine rS_ Tryz.func138 ?_;simp only [go_sem,seval,hal,d9 hai,z8];refine AW.rng l [9,12,52,53,54,65,66,67,71,72] 73 71 (fun v:Nat×List (List Gl)=>[(10,.own 2 v.1)]) (fun _ v=>[.box (t.enc.map .d),.box (x.enc.map .d),.grow v.1 1 77 (v.2.map aC4)]) (fun br v=>v.2++(br.map (fun y=>a++y)++J7 ar l)=J7 p l) u rfl (by simp) hua A8 (fun ib b br v hbi hdb hbl hmb hvb hnb=>?_) (fun v hvb=>?_)
         ·have hbm:=c_ hbi
          have hbc:=hl2 b hbm;have hvl:=congrArg List.length hvb;simp only [j_,w_,f_] at hvl;refine rS_ Tryz.func138 ?_;simp only [go_sem,seval,hbl,d9 hbi,z8]
          repeat' (first
           | (simp (disch:=omega) only [l6])
           | ((refine ⟨sd,?_⟩)<;>(try simp only [go_sem,seval,hbl,d9 hbi,z8]))
           | fail)
          refine hnb (v.1+1,v.2++[a++b]) _ (by rw [<-hvb];simp) (by refine ⟨by simp [mkS,z8],by simp [mkS,z8],by simp only [mkS,e_,g_,O.refsLt,C.refsLt,C.refsLt1,o5];first | done | rfl | (simp;done),?_⟩;simp [mkS,Abs.get,C.refsLtT,C.refsLt,C.refsLt1,z8])
         ·simp only [o_,s_] at hvb
          refine rS_ Tryz.func138 ?_;simp only [go_sem,seval]
          repeat' (first
           | (simp (disch:=omega) only [l6])
           | fail)
          refine hna v _ hvb A8
        ·simp only [J7,List.flatMap_nil,d_] at hua
         have hub:u.2.length=p.length * l.length:=by rw [hua];exact hpl
         have hu2:u.2=J7 p l:=hua;refine AW.readG 10 2 rfl rfl ?_;by_cases hb:64<(J7 p l).length
         ·rw [if_pos hb] at hi2
          rw [<-hi2];have hlb:(64:Int)<(u.2.length:Int):=by omega
          refine rS_ Tryz.func138 ?_;simp only [go_sem,seval,hlb];all_goals rw [hu2]
         ·rw [if_neg hb] at hi2
          have hlb:¬(64:Int)<(u.2.length:Int):=by omega
          refine rS_ Tryz.func138 ?_;simp only [go_sem,seval,hlb]
          repeat' (first
           | (simp (disch:=omega) only [l6])
           | fail)
          refine hnext u.2 _ ⟨by omega,by rw [hu2];exact hi2,fun c hc=>?_⟩ A8;rw [hu2] at hc;obtain ⟨ca,cb,hca,hcb,rfl⟩:=at7 hc;have k1:=hi3 ca hca;have k2:=hl2 cb hcb;rw [j_];omega
      ·obtain ⟨hi1,hi2,_⟩:=hinv
       simp only [Gl.andS] at hi2;rw [<-hi2];refine rS_ Tryz.func138 ?_;simp only [go_sem,seval]
     ·simp only [if_neg h7]
      refine aE_ Tryz.func138 ?_;refine rS_ Tryz.func138 ?_;simp only [go_sem,seval,h0,h1,h8,h7]
      repeat' (first
       | ((refine ⟨sd,?_⟩)<;>(try simp only [go_sem,seval,h0,h1,h8,h7]))
       | fail)
      all_goals rfl
def l2T (t:Tm):Prop:=l8 Tryz.prog 99 [.d (.agg t.enc)] [.hole] fun c H'=>c=.agg [.d (.int .i64 t.kind),.d (.int .i64 t.int),.d (.str t.name),.own 0 1]/\∃e B,H'=[.tree 1 4 e (t.args.map Tm.enc) B none]
theorem br4:∀t:Tm,wtL t.enc<=2000000->l2T t:=by
 intro t;induction t using Tm.ind' with
 | h t ih =>
  intro hw;have hmx:maxLen=9223372036854775807:=rfl;have hwr:wtR (t.args.map Tm.enc)<=2000000:=by
   simp only [Tm.enc_eq t,wtL,D.wt] at hw;omega
  have hlg0:t.args.length<=2000000:=by
   have:=U8 (t.args.map Tm.enc) 0;simp [bd3] at this;omega
  unfold l2T;refine aE_ Tryz.func99 ?_;refine l7 Tryz.func99 mixed 7 _ _ (by kernel_rfl) ?_;simp only [go_sem,seval,run.eq_1];refine AW.adoptTB 3 3 4 60 (by decide) rfl rfl ?_;refine rS_ Tryz.func99 ?_;simp only [go_sem,seval];refine AW.rng t.args [2,3,14,15] 16 14 (fun p:List Tm×(Nat->Prop)=>[]) (fun _ p=>[.hole,.box (t.enc.map .d),.box [.d (.int .i64 0),.d (.int .i64 0),.d (.str []),.nil0],.box [.d (.int .i64 t.kind),.d (.int .i64 t.int),.d (.str t.name),.own 4 p.1.length],.tree p.1.length 4 60 (p.1.map Tm.enc) p.2 none]) (fun r p=>p.1++r=t.args) ([],fun _=>False) rfl (by simp) rfl A8 (fun i x r p hxi hdr hlt hm hinv hnext=>?_) (fun p hinv=>?_)
  ·have hxm:=c_ hxi
   have hpl:p.1.length+(r.length+1)=t.args.length:=by rw [<-hinv];simp
   have hx:=ih x hxm (by have:=ak6 hxm;omega);unfold l2T at hx;refine AW.hole ?_;refine l7 Tryz.func99 mixed 9 _ _ (by kernel_rfl) ?_;simp only [go_sem,seval,run.eq_1,hlt,d9 hxi];refine AW.drawA mixed #[true,true,true,true,true,true,false,false] [(3,.box [.d (.int .i64 t.kind),.d (.int .i64 t.int),.d (.str t.name),.own 4 p.1.length]),(6,.box (x.enc.map .d))] [] [0,1,2,3,4,5] [6,7] none (by kernel_rfl) trivial (by simp [x9]) ?_;simp only [go_sem,seval]
   repeat' (first
    | ((first
     | (refine l8.fresh (ds:=[.agg x.enc]) (m:=1) hx [5] rfl rfl (by simp) (by simp) ?_<;>(rintro c H' ⟨rfl,e2,B2,rfl⟩ _;refine ⟨rfl,rfl,?_⟩))
     | (refine L6 (fun Bz=>?_))
     | (refine ⟨sd,?_⟩))<;>(try simp only [go_sem,seval]))
    | fail)
   refine rS_ Tryz.func99 ?_;simp only [go_sem,seval];try simp (disch:=omega) only [l6]
   refine hnext (p.1++[x],Bz) _ (by simp [<-hinv]) (by refine ⟨by simp [mkS,Tm.enc_eq x],by simp [mkS,Tm.enc_eq x],by simp only [mkS,e_,g_,O.refsLt,C.refsLt,C.refsLt1,o5];first | done | rfl | (simp;done),?_⟩;simp [mkS,Abs.get,C.refsLtT,C.refsLt,C.refsLt1])
  ·simp only [d_] at hinv
   rw [hinv];refine l7 Tryz.func99 mixed 7 _ _ (by kernel_rfl) ?_;simp only [go_sem,seval,run.eq_1];refine AW.placeB 2 3 4 0 rfl rfl rfl rfl (by decide) ?_;refine rS_ Tryz.func99 ?_;simp only [go_sem,seval]
   repeat' (first
    | (exact ⟨_,_,rfl⟩)
    | fail)
theorem U4 (l:List Tm) (hw:wtR (l.map Tm.enc)<=2000000):l8 Tryz.prog 55 [.d (.sl (l.map Tm.enc))] [.hole] (fun c H'=>c=.own 0 1/\∃e B,H'=[.tree 1 4 e (l.map Tm.enc) B none]):=by
 have hmx:maxLen=9223372036854775807:=rfl;have hlen:l.length<=2000000:=by
  have:=U8 (l.map Tm.enc) 0;simp [bd3] at this;omega
 have hwl:∀x,x∈l->wtL x.enc<=2000000:=fun x hx=>by have:=ad6 (l.map Tm.enc) x.enc (B_.2 ⟨x,hx,rfl⟩);omega
 refine aE_ Tryz.func55 ?_;refine l7 Tryz.func55 mixed 5 _ _ (by kernel_rfl) ?_;simp only [go_sem,seval,run.eq_1];refine AW.adoptT 3 4 60 (by decide) rfl ?_;refine rS_ Tryz.func55 ?_;simp only [go_sem,seval];refine AW.rng l [7,8] 9 7 (fun p:List Tm×(Nat->Prop)=>[(3,.own 1 p.1.length)]) (fun _ p=>[.hole,.tree p.1.length 4 60 (p.1.map Tm.enc) p.2 none]) (fun r p=>p.1++r=l) ([],fun _=>False) rfl (by simp) rfl A8 (fun i x r p hxi hdr hlt hm hinv hnext=>?_) (fun p hinv=>?_)
 ·have hpl:p.1.length+(r.length+1)=l.length:=by rw [<-hinv];simp
  have hx:=br4 x (hwl x (c_ hxi));unfold l2T at hx;refine AW.hole ?_;refine l7 Tryz.func55 mixed 9 _ _ (by kernel_rfl) ?_;simp only [go_sem,seval,run.eq_1,hlt,d9 hxi];refine AW.regT ?_;simp only [go_sem,seval]
  repeat' (first
   | ((first
    | (refine l8.fresh (ds:=[.agg x.enc]) (m:=1) hx [2] rfl rfl (by simp) (by simp) ?_<;>(rintro c H' ⟨rfl,e1,B1,rfl⟩ _;refine ⟨rfl,rfl,?_⟩))
    | (refine L6 (fun Bz=>?_))
    | (refine ⟨sd,?_⟩))<;>(try simp only [go_sem,seval,hlt,d9 hxi]))
   | fail)
  refine rS_ Tryz.func55 ?_;simp only [go_sem,seval];try simp (disch:=omega) only [l6]
  refine hnext (p.1++[x],Bz) _ (by simp [<-hinv]) (by refine ⟨by simp [mkS,Tm.enc_eq x],by simp [mkS,Tm.enc_eq x],by simp only [mkS,e_,g_,O.refsLt,C.refsLt,C.refsLt1,o5];first | done | rfl | (simp;done),?_⟩;simp [mkS,Abs.get,C.refsLtT,C.refsLt,C.refsLt1])
 ·simp only [d_] at hinv
  subst hinv;refine l7 Tryz.func55 mixed 7 _ _ (by kernel_rfl) ?_;simp only [go_sem,seval,run.eq_1];refine AW.place 2 1 0 rfl rfl rfl (by decide) ?_;refine rS_ Tryz.func55 ?_;simp only [go_sem,seval];all_goals exact ⟨_,_,rfl⟩
def ca0 (t:Gl):Prop:=l8 Tryz.prog 164 [.d (.agg t.enc)] [.hole,.hole] fun c H'=>c=.agg [.d (.int .i64 t.kind),.d (.str t.name),.own 0 1,.own 1 1]/\∃e B e' B',H'=[.tree 1 4 e (t.terms.map Tm.enc) B none,.tree 1 4 e' (t.goals.map Gl.enc) B' none]
theorem br0:∀t:Gl,wtL t.enc<=2000000->ca0 t:=by
 intro t;induction t using Gl.ind' with
 | h t ih =>
  intro hw;have hmx:maxLen=9223372036854775807:=rfl;have hwt:wtR (t.terms.map Tm.enc)<=2000000/\wtR (t.goals.map Gl.enc)<=2000000:=by
   simp only [Gl.enc_eq t,wtL,D.wt] at hw;omega
  have hlg0:t.goals.length<=2000000:=by
   have:=U8 (t.goals.map Gl.enc) 0;simp [bd3] at this;omega
  have hct:=U4 t.terms hwt.1;unfold ca0;refine aE_ Tryz.func164 ?_;refine l7 Tryz.func164 mixed 3 _ _ (by kernel_rfl) ?_;simp only [go_sem,seval,run.eq_1];refine AW.drawA mixed #[true,true,true,true,true,true,true,true,true,false] [(2,.box (t.enc.map .d))] [] [0,1,2,3,4,5,8,6,7] [9] (some (8,3,79,[.int .i64 0,.string ⟨#[]⟩,.slice none 0 0,.slice none 0 0])) (by kernel_rfl) cq5 (by simp [x9]) ?_;simp only [go_sem,seval]
  repeat' (first
   | ((refine l8.fresh (ds:=[.sl (t.terms.map Tm.enc)]) (m:=1) hct [0] rfl rfl (by simp) (by simp) ?_<;>(rintro c H' ⟨rfl,e1,B1,rfl⟩ _;refine ⟨rfl,rfl,?_⟩))<;>(try simp only [go_sem,seval]))
   | fail)
  refine AW.adoptTB 4 3 4 79 (by decide) rfl rfl ?_;refine rS_ Tryz.func164 ?_;simp only [go_sem,seval];refine AW.rng t.goals [2,3,15,16] 17 15 (fun p:List Gl×(Nat->Prop)=>[]) (fun _ p=>[.tree 1 4 e1 (t.terms.map Tm.enc) B1 none,.hole,.box (t.enc.map .d),.box [.d (.int .i64 0),.d (.str []),.nil0,.nil0],.box [.d (.int .i64 t.kind),.d (.str t.name),.own 0 1,.own 5 p.1.length],.tree p.1.length 4 79 (p.1.map Gl.enc) p.2 none]) (fun r p=>p.1++r=t.goals) ([],fun _=>False) rfl (by simp) rfl A8 (fun i x r p hxi hdr hlt hm hinv hnext=>?_) (fun p hinv=>?_)
  ·have hxm:=c_ hxi
   have hpl:p.1.length+(r.length+1)=t.goals.length:=by rw [<-hinv];simp
   have hx:=ih x hxm (by have:=Gl.wt_goals hxm;omega);unfold ca0 at hx;refine AW.hole ?_;refine AW.hole ?_;refine l7 Tryz.func164 mixed 9 _ _ (by kernel_rfl) ?_;simp only [go_sem,seval,run.eq_1,hlt,d9 hxi];refine AW.drawA mixed #[true,true,true,true,true,true,false,false] [(4,.box [.d (.int .i64 t.kind),.d (.str t.name),.own 0 1,.own 5 p.1.length]),(8,.box (x.enc.map .d))] [] [0,1,2,3,4,5] [6,7] none (by kernel_rfl) trivial (by simp [x9]) ?_;simp only [go_sem,seval]
   repeat' (first
    | ((first
     | (refine l8.fresh (ds:=[.agg x.enc]) (m:=2) hx [6,7] rfl rfl (by simp) (by simp) ?_<;>(rintro c H' ⟨rfl,e2,B2,e3,B3,rfl⟩ _;refine ⟨rfl,rfl,?_⟩))
     | (refine L6 (fun Bz=>?_))
     | (refine ⟨sd,?_⟩))<;>(try simp only [go_sem,seval]))
    | fail)
   refine rS_ Tryz.func164 ?_;simp only [go_sem,seval];try simp (disch:=omega) only [l6]
   refine hnext (p.1++[x],Bz) _ (by simp [<-hinv]) (by refine ⟨by simp [mkS,Gl.enc_eq x],by simp [mkS,Gl.enc_eq x],by simp only [mkS,e_,g_,O.refsLt,C.refsLt,C.refsLt1,o5];first | done | rfl | (simp;done),?_⟩;simp [mkS,Abs.get,C.refsLtT,C.refsLt,C.refsLt1])
  ·simp only [d_] at hinv
   rw [hinv];refine l7 Tryz.func164 mixed 7 _ _ (by kernel_rfl) ?_;simp only [go_sem,seval,run.eq_1];refine AW.placeB 3 3 5 1 rfl rfl rfl rfl (by decide) ?_;refine rS_ Tryz.func164 ?_;simp only [go_sem,seval]
   repeat' (first
    | (exact ⟨_,_,_,_,rfl⟩)
    | fail)
theorem bh2 (t:Gl) (hw:wtL t.enc<=2000000):Gives Tryz.prog 164 [.agg t.enc] (.d (.agg t.enc)):=by
 have h:=br0 t hw;unfold ca0 at h;refine l8.frozen (ds:=[.agg t.enc]) (m:=2) h (fun c H' ⟨h1,e,B,e',B',h2⟩ _=>?_);subst h1 h2;rw [Gl.enc_eq t];rfl
theorem bg6 (l:List Gl) (hl:l.length<=2000000) (hw:∀x,x∈l->wtL x.enc<=2000000):Gives Tryz.prog 139 [.sl (l.map Gl.enc)] (.d (.sl (l.map Gl.enc))):=by
 have hmx:maxLen=9223372036854775807:=rfl;refine aE_ Tryz.func139 ?_;refine rS_ Tryz.func139 ?_;simp only [go_sem,seval];refine AW.adopt 3 4 79 (by decide) rfl ?_;refine AW.rng l [7,8] 9 7 (fun p:Nat×List Gl=>[(3,.own 0 p.1)]) (fun _ p=>[.grow p.1 4 79 (p.2.map Gl.enc)]) (fun r p=>p.2++r=l) (0,[]) rfl (by simp) rfl A8 (fun i x r p hxi hdr hlt hm hinv hnext=>?_) (fun p hinv=>?_)
 ·have hxm:=c_ hxi
  have hxw:=hw x hxm;have hpl:p.2.length+(r.length+1)=l.length:=by rw [<-hinv];simp
  refine rS_ Tryz.func139 ?_;simp only [go_sem,seval,hlt,d9 hxi]
  repeat' (first
   | (simp (disch:=omega) only [l6])
   | ((first
    | (refine (bh2 x hxw).calls rfl ?_)
    | (refine ⟨sd,?_⟩))<;>(try simp only [go_sem,seval,hlt,d9 hxi]))
   | fail)
  refine hnext (p.1+1,p.2++[x]) _ (by simp [<-hinv]) A8
 ·simp only [d_] at hinv
  subst hinv;refine rS_ Tryz.func139 ?_;simp only [go_sem,seval]
theorem bJ0 {t:Gl} (h:wtL t.enc<=1048576):∀x,x∈t.subs->wtL x.enc<=1048576:=
 Gl.subs_ind (Q:=fun x=>wtL x.enc<=1048576) (fun t ht x hx=>by have:=Gl.wt_goals hx;omega) t h
theorem ah7 (t:Gl) (hw:wtL t.enc<=1048576):Gives Tryz.prog 97 [.agg t.enc] (ay8 (if ak5 t=true/\t.clsS.length<=64 then some t.clsS else none)):=by
 have hmx:maxLen=9223372036854775807:=rfl;have hlc:=aG3 t hw;have hcw:=Gl.cnt_le_wt t;by_cases hok:ak5 t=true
 ·by_cases hl:t.clsS.length<=64
  ·rw [if_pos ⟨hok,hl⟩]
   have hrow:=Gl.clsS_row t;have hsw:=bJ0 hw;generalize t.clsS=L at *;refine aE_ Tryz.func97 ?_;refine rS_ Tryz.func97 ?_;simp only [go_sem,seval,hok]
   repeat' (first
    | ((refine C9 (fun hq=>?_) (fun hq=>?_))<;>(try simp only [go_sem,seval,hok,hq]))
    | ((first
     | (refine hlc.calls rfl ?_)
     | (refine (P8 _ sd).calls rfl ?_))<;>(try simp only [go_sem,seval,hok]))
    | fail)
   all_goals first | (exfalso;omega) | skip
   refine AW.adopt 5 1 77 (by decide) rfl ?_;refine AW.rng L [17,18] 19 17 (fun p:Nat×List (List Gl)=>[(5,.own 1 p.1)]) (fun _ p=>[.box (t.enc.map .d),.grow p.1 1 77 (p.2.map aC4)]) (fun r p=>p.2++r=L) (0,[]) rfl (by simp) rfl A8 (fun i c r p hxi hdr hlt hm hinv hnext=>?_) (fun p hinv=>?_)
   ·have hcm:=c_ hxi
    obtain ⟨hr1,hr2⟩:=hrow c hcm;have hcc:=bg6 c (by omega) (fun x hx=>Nat.le_trans (hsw x (hr2 x hx)) (by decide));have hpl:p.2.length+(r.length+1)=L.length:=by rw [<-hinv];simp
    refine rS_ Tryz.func97 ?_;simp only [go_sem,seval,hlt,d9 hxi,z8]
    repeat' (first
     | (simp (disch:=omega) only [l6])
     | ((first
      | (refine hcc.calls rfl ?_)
      | (refine ⟨sd,?_⟩))<;>(try simp only [go_sem,seval,hlt,d9 hxi,z8]))
     | fail)
    refine hnext (p.1+1,p.2++[c]) _ (by simp [<-hinv]) (by refine ⟨by simp [mkS,z8],by simp [mkS,z8],by simp only [mkS,e_,g_,O.refsLt,C.refsLt,C.refsLt1,o5];first | done | rfl | (simp;done),?_⟩;simp [mkS,Abs.get,C.refsLtT,C.refsLt,C.refsLt1,z8])
   ·simp only [d_] at hinv
    subst hinv;refine rS_ Tryz.func97 ?_;simp only [go_sem,seval];all_goals rfl
  ·rw [if_neg (by simp [hl])]
   refine aE_ Tryz.func97 ?_;refine rS_ Tryz.func97 ?_;simp only [go_sem,seval,hok]
   repeat' (first
    | ((refine C9 (fun hq=>?_) (fun hq=>?_))<;>(try simp only [go_sem,seval,hok,hq]))
    | ((first
     | (refine hlc.calls rfl ?_)
     | (refine (P8 _ sd).calls rfl ?_))<;>(try simp only [go_sem,seval,hok]))
    | fail)
   all_goals first | (exfalso;omega) | skip
   all_goals rfl
 ·simp only [y_] at hok
  rw [if_neg (by simp [hok])];refine aE_ Tryz.func97 ?_;refine rS_ Tryz.func97 ?_;simp only [go_sem,seval,hok]
  repeat' (first
   | ((refine (P8 _ sd).calls rfl ?_)<;>(try simp only [go_sem,seval,hok]))
   | fail)
  all_goals rfl
set_option maxHeartbeats 8000000
theorem ao1 (tag:List UInt8):∀v:V,Gives Tryz.prog 110 [.agg v.enc,.str tag] (.d (.bool (v.has tag))):=by
 intro v;induction v with
 | pair a b iha ihb =>
  refine aE_ Tryz.func110 ?_;refine rS_ Tryz.func110 ?_;simp only [go_sem,seval,V.kind,V.kids]
  repeat' (first
   | ((refine C9 (fun hq=>?_) (fun hq=>?_))<;>(try simp only [go_sem,seval,V.kind,V.kids,hq]))
   | ((first
    | (refine iha.calls rfl ?_)
    | (refine ihb.calls rfl ?_))<;>(try simp only [go_sem,seval,V.kind,V.kids]))
   | fail)
  all_goals simp_all [V.has]
 | _ =>
  refine aE_ Tryz.func110 ?_;refine rS_ Tryz.func110 ?_;simp only [go_sem,seval,V.kind,V.kids,V.name];all_goals simp [V.has]
theorem ad9 (tag:List UInt8):∀v:V,Gives Tryz.prog 166 [.agg v.enc,.str tag] (.d (.bool (v.has tag))):=by
 intro v;induction v using V.ind with
 | h v ih =>
  have hh:=V.has_eq tag v;generalize v.has tag=N at hh |-;refine aE_ Tryz.func166 ?_;refine rS_ Tryz.func166 ?_;simp only [go_sem,seval];refine AW.rng v.kids [1,2,8,9] 10 8 (fun _:Unit=>[]) (fun H _=>H) (fun r _=>r.any (V.has tag)=v.kids.any (V.has tag)) () rfl (by simp) rfl H6 (fun i x r acc hxi hdr hlt hm hinv hnext=>?_) (fun acc hinv=>?_)
  ·have ihx:=ih x (c_ hxi)
   rw [List.any_cons] at hinv;refine rS_ Tryz.func166 ?_;simp only [go_sem,seval,hlt,d9 hxi]
   repeat' (first
    | ((refine C9 (fun hq=>?_) (fun hq=>?_))<;>(try simp only [go_sem,seval,hq]))
    | (simp (disch:=omega) only [l6])
    | (refine hnext () _ ?_ H6)
    | ((refine ihx.calls rfl ?_)<;>(try simp only [go_sem,seval]))
    | fail)
   all_goals clear hnext ihx ih
   all_goals simp_all
  ·rw [List.any_nil] at hinv
   rw [<-hinv] at hh;refine rS_ Tryz.func166 ?_;simp only [go_sem,seval]
   repeat' (first
    | ((refine C9 (fun hq=>?_) (fun hq=>?_))<;>(try simp only [go_sem,seval,hq]))
    | fail)
   all_goals simp_all
theorem P6 (a b:V):Gives Tryz.prog 109 [.agg a.enc,.agg b.enc] (.d (.bool (decide (a.cmp b=0)))):=by
 refine aE_ Tryz.func109 ?_;refine rS_ Tryz.func109 ?_;simp only [go_sem,seval]
 repeat' (first
  | ((refine (O9 _ _ _ (b_ _)).calls rfl ?_)<;>(try simp only [go_sem,seval]))
  | fail)
theorem X5 (a b:V):Gives Tryz.prog 84 [.agg a.enc,.agg b.enc] (.d (.bool (decide (a.cmp b=0)))):=by
 refine aE_ Tryz.func84 ?_;refine rS_ Tryz.func84 ?_;simp only [go_sem,seval]
 repeat' (first
  | ((refine (X6 _ _ _ (b_ _)).calls rfl ?_)<;>(try simp only [go_sem,seval]))
  | fail)
theorem bM3 (gb:List D):Clo Tryz.prog 147 [.ptr 1 0] 2 (fun n:Int=>D.int .i64 n) (fun b:Bool=>[.box (gb.map .d),.box [.d (.bool b)]]) (fun _=>True) (fun b _=>false):=by
 refine ⟨by kernel_rfl,rfl,fun _=>rfl,fun a=>by simp only [e_,g_,O.refsLt,o5,C.refsLt,C.refsLt1];rfl,fun a x _=>?_⟩;refine aE_ Tryz.func147 ?_;refine rS_ Tryz.func147 ?_;simp only [go_sem,seval];all_goals simp only [o5]
theorem aU5 (v:V):Gives Tryz.prog 106 [.agg v.enc] (.d (.bool (decide (v.vars=[])))):=by
 have e1:=aC5 (bM3 v.enc) v true;have hN:v.vars.foldl (fun (b:Bool) (_:Int)=>false) true=decide (v.vars=[]):=by
  cases v.vars with
  | nil=>rfl
  | cons x r =>
   have:∀(l:List Int),l.foldl (fun (b:Bool) (_:Int)=>false) false=false:=by
    intro l;induction l with
    | nil=>rfl
    | cons y q ih=>exact ih
   rw [List.foldl_cons,this];rfl
 rw [hN] at e1;generalize decide (v.vars=[])=N at e1 |-;refine aE_ Tryz.func106 ?_;refine rS_ Tryz.func106 ?_;simp only [go_sem,seval]
 repeat' (first
  | ((refine l8.mono e1 ?_<;>(rintro c H' ⟨rfl,rfl⟩))<;>(try simp only [go_sem,seval]))
  | fail)
theorem ao0 (t:Tm) (hw:wtL t.enc<=1048576):Gives Tryz.prog 61 [.agg t.enc] (.d (.bool t.ground)):=by
 have hg:t.ground=(Q5 t && decide (t.vars=[])):=rfl;rw [hg];by_cases hok:Q5 t=true
 ·have e1:=aU5 t.V
  rw [<-Tm.vars_V hok,<-Tm.enc_V hok] at e1;rw [hok,k_];generalize decide (t.vars=[])=N at e1 |-;refine aE_ Tryz.func61 ?_;refine rS_ Tryz.func61 ?_;simp only [go_sem,seval,hok]
  repeat' (first
   | ((first
    | (refine e1.calls rfl ?_)
    | (refine (am3 _ sd).calls rfl ?_))<;>(try simp only [go_sem,seval,hok]))
   | fail)
 ·simp only [y_] at hok
  rw [hok];refine aE_ Tryz.func61 ?_;refine rS_ Tryz.func61 ?_;simp only [go_sem,seval,hok]
  repeat' (first
   | ((refine (am3 _ sd).calls rfl ?_)<;>(try simp only [go_sem,seval,hok]))
   | fail)
theorem N8 (t:Tm) (hw:wtL t.enc<=1048576):Gives Tryz.prog 91 [.agg t.enc] (.d (.bool t.ground)):=by
 have hg:t.ground=(Q5 t && decide (t.vars=[])):=rfl;have hvw:=Tm.vars_wt t;have hasc:Asc []:=by simp [Asc]
 have hnil:(t.vars.foldl ab1 [])=R6 t.vars:=rfl;have hlen:(R6 t.vars).length=0↔t.vars=[]:=by rw [List.length_eq_zero_iff];exact aI5
 have hN:decide (t.vars=[])=decide (((R6 t.vars).length:Int)=0):=by
  rw [u_,decide_eq_true_eq,decide_eq_true_eq,<-hlen];omega
 rw [hg,hN];clear hg hN hlen;by_cases hok:Q5 t=true
 ·rw [hok]
  refine aE_ Tryz.func91 ?_;refine rS_ Tryz.func91 ?_;simp only [go_sem,seval,hok]
  repeat' (first
   | ((first
    | (refine (aB4 t [] hasc (by simp;omega)).calls rfl ?_)
    | (refine (al4 _ sd).calls rfl ?_))<;>(try simp only [go_sem,seval,hnil,hok]))
   | fail)
 ·simp only [y_] at hok
  rw [hok];refine aE_ Tryz.func91 ?_;refine rS_ Tryz.func91 ?_;simp only [go_sem,seval,hok]
  repeat' (first
   | ((refine (al4 _ sd).calls rfl ?_)<;>(try simp only [go_sem,seval,hok]))
   | fail)
theorem be2 (p:Pg) (f:Fc) (hwp:wtL p.enc<=1048576) (hw:wtL f.enc<=1048576):Gives Tryz.prog 49 [.agg p.enc,.agg f.enc] (.d (.bool (N9 p && p.factFits f))):=by
 have h2:=fun h=>Pg.factFits_neg (p:=p) (f:=f) h;have h3:=fun h r hr=>Pg.factFits_at (p:=p) (f:=f) h (r:=r) hr;have hr:=Pg.find_range p f.rel;have hwa:∀x,x∈f.args->wtL x.enc<=1048576:=fun x hx=>by
  have:=ad6 (f.args.map Tm.enc) x.enc (B_.2 ⟨x,hx,rfl⟩);simp only [Fc.enc_eq,wtL,D.wt] at hw;omega
 by_cases hok:N9 p=true
 ·rw [hok,k_]
  generalize p.factFits f=N at h2 h3 |-;refine aE_ Tryz.func49 ?_;refine rS_ Tryz.func49 ?_;simp only [go_sem,seval,hok]
  repeat' (first
   | ((first | (refine C9 (fun hq=>?_) (fun hq=>?_)) | (refine y7 (fun x hx=>have hq:=hx;?_)))<;>(try simp only [go_sem,seval,hok,hq]))
   | ((first
    | (refine (as0 _ _ sd).calls rfl ?_)
    | (refine ⟨sd,?_⟩))<;>(try simp only [go_sem,seval,hok]))
   | fail)
  ·rw [h3 (by assumption) _ hx,decide_eq_false (by omega)];rfl
  ·simp only [<-hq]
   have hN:=h3 (by assumption) _ hx;rw [decide_eq_true (by omega),k_] at hN;refine AW.rng f.args [27,28] 29 27 (fun _:Unit=>[]) (fun H _=>H) (fun r _=>r.all Tm.ground=N) () rfl (by simp) hN.symm H6 (fun i x r acc hxi hdr hlt hm hinv hnext=>?_) (fun acc hinv=>?_)
   ·have hwx:=hwa x (c_ hxi)
    rw [e_] at hinv;refine rS_ Tryz.func49 ?_;simp only [go_sem,seval,hlt,d9 hxi]
    repeat' (first
     | ((refine C9 (fun hq=>?_) (fun hq=>?_))<;>(try simp only [go_sem,seval,hq]))
     | (simp (disch:=omega) only [l6])
     | (refine hnext () _ ?_ H6)
     | ((refine (N8 _ sd).calls rfl ?_)<;>(try simp only [go_sem,seval]))
     | fail)
    all_goals clear hnext
    all_goals (rw [<-hinv];simp [*];done)
   ·rw [g_] at hinv
    refine rS_ Tryz.func49 ?_;simp only [go_sem,seval];rw [hinv]
  ·rw [h2 (by assumption)]
 ·simp only [y_] at hok
  rw [hok];refine aE_ Tryz.func49 ?_;refine rS_ Tryz.func49 ?_;simp only [go_sem,seval,hok]
  repeat' (first
   | ((refine (as0 _ _ sd).calls rfl ?_)<;>(try simp only [go_sem,seval,hok]))
   | fail)
theorem au1:∀(t:Pf) (most:Int),wtL t.enc<=1000000000->-10000000<=most->most<=10000000->Gives Tryz.prog 95 [.agg t.enc,.int .i64 most] (.d (.int .i64 (t.countF most))):=by
 intro t;induction t using Pf.ind' with
 | h t ih =>
  intro most hw h0 h1;have hc:=Pf.cnt_le_wt t;have he:=Pf.countF_eq t most;rw [Pf.cnt_eq] at hc;generalize t.countF most=N at he |-;refine aE_ Tryz.func95 ?_;refine rS_ Tryz.func95 ?_;simp only [go_sem,seval];refine AW.rng t.kids [1,9,10] 11 9 (fun n:Int=>[(5,.d (.int .i64 n))]) (fun H _=>H) (fun r n=>1<=n/\n+Pf.cnts r<=1+Pf.cnts t.kids/\Pf.countL r most n=N) 1 rfl (by simp) ⟨by omega,by omega,he.symm⟩ H6 (fun i x r acc hxi hdr hlt hm hinv hnext=>?_) (fun acc hinv=>?_)
  ·have hx:=c_ hxi
   have ihx:=ih x hx;have hwx:=Pf.wt_kids hx;have hcs:=Pf.count_spec x (most - acc);obtain ⟨v1,v2,v3⟩:=hinv;simp only [Pf.countL,Pf.cnts] at v2 v3;refine rS_ Tryz.func95 ?_;simp only [go_sem,seval,hlt,d9 hxi]
   repeat' (first
    | ((refine C9 (fun hq=>?_) (fun hq=>?_))<;>(try simp only [go_sem,seval,hq]))
    | (simp (disch:=omega) only [l6])
    | (refine hnext (acc+x.countF (most - acc)) _ ⟨by omega,by omega,?_⟩ H6)
    | ((refine (ihx _ (by omega) (by omega) (by omega)).calls rfl ?_)<;>(try simp only [go_sem,seval]))
    | fail)
   all_goals clear hnext ihx ih
   ·rw [if_pos (by omega)] at v3;rw [v3]
   ·rw [if_neg (by omega)] at v3;exact v3
  ·obtain ⟨v1,v2,v3⟩:=hinv
   simp only [Pf.countL] at v3;refine rS_ Tryz.func95 ?_;simp only [go_sem,seval];rw [v3]
theorem aE9 (t:Pf) (hw:wtL t.enc<=1048576):Gives Tryz.prog 53 [.agg t.enc] (.d (.int .i64 t.sizeI)):=by
 have hs:=Pf.size_count t;generalize t.sizeI=N at hs |-;have hc:=au1 t 200 (by omega) (by omega) (by omega);generalize t.countF 200=c at hs hc;refine aE_ Tryz.func53 ?_;refine rS_ Tryz.func53 ?_;simp only [go_sem,seval]
 repeat' (first
  | ((refine C9 (fun hq=>?_) (fun hq=>?_))<;>(try simp only [go_sem,seval,hq]))
  | ((refine hc.calls rfl ?_)<;>(try simp only [go_sem,seval]))
  | fail)
 ·rw [hs,if_pos (by omega)]
 ·rw [hs,if_neg (by omega)]
def bdD (vs:List V):List (List D):=(ax9 0 vs).map Bd.enc
theorem br2 (vs:List V) (n:Int) (h0:0<=n) (h1:n<vs.length):Gives Tryz.prog 176 [.sl (bdD vs),.int .i64 n] (.tup [.d (.agg (o6 vs n).enc),.d (.bool true)]):=by
 have hat:=aX5 h0 h1;have hbl:=ad4 vs 0;unfold bdD;generalize o6 vs n=w at hat |-;refine aE_ Tryz.func176 ?_;refine rS_ Tryz.func176 ?_;simp only [go_sem,seval];refine AW.rng (ax9 0 vs) [1,4,8,9] 10 8 (fun _:Unit=>[]) (fun H _=>H) (fun r _=>((vs.length - r.length:Nat):Int)<=n) () rfl (by simp) (by rw [hbl,G_];exact h0) A8 (fun i x r acc hxi hdr hlt hm hinv hnext=>?_) (fun acc hinv=>?_)
 ·obtain ⟨v,hv,rfl⟩:=bE2 hxi
  have hdl:=congrArg List.length hdr;simp only [r_,f_,hbl] at hdl;simp only [f_] at hinv;have hil:=(h_.1 hv).1;have hve:v.tm.kind=v.kind/\v.tm.int=v.int/\v.tm.name=v.name/\v.tm.args.map Tm.enc=v.kids.map V.enc:=by cases v<;>exact ⟨rfl,rfl,rfl,rfl⟩
  by_cases hi:(i:Int)=n
  ·have hw:v=w:=by
    have:n.toNat=i:=by omega
    rw [this,hv] at hat;exact Option.some.inj hat
   subst hw;rw [V.enc_eq v];have hz:((0+i:Nat):Int)=n:=by omega
   refine rS_ Tryz.func176 ?_;simp only [go_sem,seval,hlt,d9 hxi,Bd.enc_eq,hz,hve.1,hve.2.1,hve.2.2.1,hve.2.2.2]
   repeat' (first
    | ((refine C9 (fun hq=>?_) (fun hq=>?_))<;>(try simp only [go_sem,seval,hlt,d9 hxi,Bd.enc_eq,hz,hve.1,hve.2.1,hve.2.2.1,hve.2.2.2,hq]))
    | (simp (disch:=omega) only [l6])
    | fail)
   all_goals (exfalso;omega)
  ·have hz:¬((0+i:Nat):Int)=n:=by omega
   refine rS_ Tryz.func176 ?_;simp only [go_sem,seval,hlt,d9 hxi]
   repeat' (first
    | ((refine C9 (fun hq=>?_) (fun hq=>?_))<;>(try simp only [go_sem,seval,hlt,d9 hxi,hq]))
    | (simp (disch:=omega) only [l6])
    | fail)
   ·exact absurd (by omega) hz
   ·exact hnext () _ (by omega) A8
 ·simp only [t_] at hinv
  omega
theorem br1 (vs:List V):∀v:V,(∀n,n∈v.vars->0<=n/\n<vs.length)->Gives Tryz.prog 165 [.sl (bdD vs),.agg v.enc] (.d (.agg (v.sub (o6 vs)).enc)):=by
 intro v;induction v with
 | pair x y ihx ihy =>
  intro hq;have hx:=ihx (fun n hn=>hq n (by simp [V.vars,hn]));have hy:=ihy (fun n hn=>hq n (by simp [V.vars,hn]));simp only [V.sub];refine aE_ Tryz.func165 ?_;refine l7 Tryz.func165 mixed 12 _ _ (by kernel_rfl) ?_;simp only [go_sem,seval,run.eq_1,V.kind,V.int,V.kids];refine AW.drawA mixed #[true,true,true,true,true,true,true,true,true,true,true,true,true,false] [(0,.box ((V.pair x y).enc.map .d))] [] [0,1,2,3,4,6,7,8,9,10,5,11,12] [13] none (by kernel_rfl) trivial (by simp [x9]) ?_;simp only [go_sem,seval,V.kind,V.int,V.kids]
  repeat' (first
   | ((first
    | (refine hx.calls rfl ?_)
    | (refine hy.calls rfl ?_)
    | (refine (al9 _ _).calls rfl ?_))<;>(try simp only [go_sem,seval,V.kind,V.int,V.kids]))
   | fail)
  refine rS_ Tryz.func165 ?_;simp only [go_sem,seval]
 | var n =>
  intro hq;have hn:=hq n (by simp [V.vars]);simp only [V.sub];refine aE_ Tryz.func165 ?_;refine rS_ Tryz.func165 ?_;simp only [go_sem,seval,V.kind,V.int,V.kids]
  repeat' (first
   | ((refine (br2 vs n hn.1 hn.2).calls rfl ?_)<;>(try simp only [go_sem,seval,V.kind,V.int,V.kids]))
   | fail)
 | _ =>
  intro hq;simp only [V.sub];refine aE_ Tryz.func165 ?_;refine rS_ Tryz.func165 ?_;simp only [go_sem,seval,V.kind,V.int,V.kids]
theorem bq9 (vs:List V):∀g:Gl,g.inst vs.length->Gives Tryz.prog 140 [.agg g.enc,.sl (bdD vs)] (.d (.agg (g.ins (o6 vs)).enc)):=by
 intro g;induction g using Gl.ind' with
 | h g ih =>
  intro hg;have hmx:maxLen=9223372036854775807:=rfl;have hln:=Gl.shape_len hg.1;have hit:=Gl.inst_terms hg;have higs:=Gl.inst_goals hg;have hR:(g.ins (o6 vs)).enc=[.int .i64 g.kind,.str g.name,.sl ((g.terms.map fun t=>t.V.sub (o6 vs)).map V.enc),.sl ((g.goals.map (Gl.ins (o6 vs))).map Gl.enc)]:=by
   rw [Gl.ins_eq,Gl.enc_eq];simp only [Gl.kind,Gl.name,Gl.terms,Gl.goals,D_];rfl
  rw [hR];refine aE_ Tryz.func140 ?_;refine l7 Tryz.func140 mixed 5 _ _ (by kernel_rfl) ?_;simp only [go_sem,seval,run.eq_1];refine AW.adoptGB 2 2 4 60 (by decide) rfl rfl ?_;refine AW.adoptGB 2 3 4 79 (by decide) rfl rfl ?_;refine rS_ Tryz.func140 ?_;simp only [go_sem,seval];refine AW.rng g.terms [1,2,4,5,16,17] 18 16 (fun p:List V=>[]) (fun _ p=>[.box (g.enc.map .d),.box [.d (.int .i64 0),.d (.str []),.nil0,.nil0],.box [.d (.int .i64 g.kind),.d (.str g.name),.own 3 p.length,.own 4 0],.grow p.length 4 60 (p.map V.enc),.grow 0 4 79 []]) (fun r p=>p++r.map (fun t=>t.V.sub (o6 vs))=g.terms.map fun t=>t.V.sub (o6 vs)) [] rfl (by simp) rfl A8 (fun i x r p hxi hdr hlt hm hinv hnext=>?_) (fun p hinv=>?_)
  ·have hxm:=c_ hxi
   obtain ⟨he,hv⟩:=hit x hxm;have hw:=br1 vs x.V (fun n hn=>by have:=hv n hn;omega);rw [<-he] at hw;have hpl:p.length+(r.length+1)=g.terms.length:=by have:=congrArg List.length hinv;simpa using this
   refine l7 Tryz.func140 mixed 9 _ _ (by kernel_rfl) ?_;simp only [go_sem,seval,run.eq_1,hlt,d9 hxi];refine AW.drawA mixed #[true,true,true,true,true,true,true,false,false] [(2,.box [.d (.int .i64 g.kind),.d (.str g.name),.own 3 p.length,.own 4 0]),(5,.box (x.enc.map .d))] [] [0,1,2,3,4,5,6] [7,8] none (by kernel_rfl) trivial (by simp [x9]) ?_;simp only [go_sem,seval]
   repeat' (first
    | ((first
     | (refine hw.calls rfl ?_)
     | (refine ⟨sd,?_⟩))<;>(try simp only [go_sem,seval]))
    | fail)
   refine rS_ Tryz.func140 ?_;simp only [go_sem,seval]
   repeat' (first
    | (simp (disch:=omega) only [l6])
    | fail)
   refine hnext (p++[x.V.sub (o6 vs)]) _ (by rw [<-hinv];simp) A8
  ·simp only [o_,d_] at hinv
   subst hinv;generalize (g.terms.map fun t=>t.V.sub (o6 vs))=L;refine rS_ Tryz.func140 ?_;simp only [go_sem,seval];refine AW.rng g.goals [1,4,5,32,33] 34 32 (fun p:List Gl=>[]) (fun _ p=>[.box (g.enc.map .d),.box [.d (.int .i64 0),.d (.str []),.nil0,.nil0],.box [.d (.int .i64 g.kind),.d (.str g.name),.own 3 L.length,.own 4 p.length],.grow L.length 4 60 (L.map V.enc),.grow p.length 4 79 (p.map Gl.enc)]) (fun r p=>p++r.map (Gl.ins (o6 vs))=g.goals.map (Gl.ins (o6 vs))) [] rfl (by simp) rfl A8 (fun i x r p hxi hdr hlt hm hinv hnext=>?_) (fun p hinv=>?_)
   ·have hxm:=c_ hxi
    have hw:=ih x hxm (higs x hxm);have hpl:p.length+(r.length+1)=g.goals.length:=by have:=congrArg List.length hinv;simpa using this
    refine l7 Tryz.func140 mixed 9 _ _ (by kernel_rfl) ?_;simp only [go_sem,seval,run.eq_1,hlt,d9 hxi];refine AW.drawA mixed #[true,true,true,true,true,true,true,false,false] [(2,.box [.d (.int .i64 g.kind),.d (.str g.name),.own 3 L.length,.own 4 p.length]),(5,.box (x.enc.map .d))] [] [0,1,2,3,4,5,6] [7,8] none (by kernel_rfl) trivial (by simp [x9]) ?_;simp only [go_sem,seval]
    repeat' (first
     | ((first
      | (refine hw.calls rfl ?_)
      | (refine ⟨sd,?_⟩))<;>(try simp only [go_sem,seval]))
     | fail)
    refine rS_ Tryz.func140 ?_;simp only [go_sem,seval]
    repeat' (first
     | (simp (disch:=omega) only [l6])
     | fail)
    refine hnext (p++[x.ins (o6 vs)]) _ (by rw [<-hinv];simp) A8
   ·simp only [o_,d_] at hinv
    subst hinv;refine rS_ Tryz.func140 ?_;simp only [go_sem,seval]
theorem bm5 {f:Int->V} {g:Gl} (h:7<=g.kind):g.testV f=false:=by
 unfold Gl.testV;split<;>first | rfl | omega
theorem aU0 (g:Gl) (f:Int->V) (hs:g.shape=true):Gives Tryz.prog 141 [.agg (g.ins f).enc] (.d (.bool (g.testV f))):=by
 have hR:(g.ins f).enc=[.int .i64 g.kind,.str g.name,.sl ((g.terms.map fun t=>t.V.sub f).map V.enc),.sl ((g.goals.map (Gl.ins f)).map Gl.enc)]:=by
  rw [Gl.ins_eq,Gl.enc_eq];simp only [Gl.kind,Gl.name,Gl.terms,Gl.goals,D_];rfl
 rw [hR];generalize (g.goals.map (Gl.ins f)).map Gl.enc=GS;rcases Gl.shape_cases hs with ⟨hkk,ht⟩ | ⟨hkk,a,b,ht,ha,hb⟩ | ⟨hkk,a,ht,ha⟩ | h7
 ·have hL:(g.terms.map fun t=>t.V.sub f)=[]:=by rw [ht];rfl
  rcases hkk with hkk | hkk
  ·have hT:g.testV f=true:=by simp [Gl.testV,hkk]
   rw [hT];refine aE_ Tryz.func141 ?_;refine rS_ Tryz.func141 ?_;simp only [go_sem,seval,hkk,hL];all_goals first | rfl | (exfalso;omega) | (simp_all;done) | (simp_all;omega)
  ·have hT:g.testV f=false:=by simp [Gl.testV,hkk]
   rw [hT];refine aE_ Tryz.func141 ?_;refine rS_ Tryz.func141 ?_;simp only [go_sem,seval,hkk,hL];all_goals first | rfl | (exfalso;omega) | (simp_all;done) | (simp_all;omega)
 ·have hL:(g.terms.map fun t=>t.V.sub f)=[a.V.sub f,b.V.sub f]:=by rw [ht];rfl
  rcases hkk with hkk | hkk | hkk
  ·have hT:g.testV f=decide ((a.V.sub f).cmp (b.V.sub f)=0):=by simp [Gl.testV,hkk,ht]
   rw [hT];refine aE_ Tryz.func141 ?_;refine rS_ Tryz.func141 ?_;simp only [go_sem,seval,hkk,hL]
   repeat' (first
    | ((refine (X5 _ _).callQ rfl ?_)<;>(try simp only [go_sem,seval,hkk,hL]))
    | fail)
   all_goals first | rfl | (exfalso;omega) | (simp_all;done) | (simp_all;omega)
  ·have hT:g.testV f=!decide ((a.V.sub f).cmp (b.V.sub f)=0):=by simp [Gl.testV,hkk,ht]
   rw [hT];refine aE_ Tryz.func141 ?_;refine rS_ Tryz.func141 ?_;simp only [go_sem,seval,hkk,hL]
   repeat' (first
    | ((refine (X5 _ _).callQ rfl ?_)<;>(try simp only [go_sem,seval,hkk,hL]))
    | fail)
   all_goals first | rfl | (exfalso;omega) | (simp_all;done) | (simp_all;omega)
  ·have hT:g.testV f=!(b.V.sub f).has (a.V.sub f).name:=by simp [Gl.testV,hkk,ht]
   rw [hT];refine aE_ Tryz.func141 ?_;refine rS_ Tryz.func141 ?_;simp only [go_sem,seval,hkk,hL]
   repeat' (first
    | ((refine (ad9 _ _).callQ rfl ?_)<;>(try simp only [go_sem,seval,hkk,hL]))
    | fail)
   all_goals first | rfl | (exfalso;omega) | (simp_all;done) | (simp_all;omega)
 ·have hL:(g.terms.map fun t=>t.V.sub f)=[a.V.sub f]:=by rw [ht];rfl
  rcases hkk with hkk | hkk
  ·have hT:g.testV f=decide ((a.V.sub f).kind=2):=by simp [Gl.testV,hkk,ht]
   rw [hT];refine aE_ Tryz.func141 ?_;refine rS_ Tryz.func141 ?_;simp only [go_sem,seval,hkk,hL];all_goals first | rfl | (exfalso;omega) | (simp_all;done) | (simp_all;omega)
  ·have hT:g.testV f=decide ((a.V.sub f).kind=3):=by simp [Gl.testV,hkk,ht]
   rw [hT];refine aE_ Tryz.func141 ?_;refine rS_ Tryz.func141 ?_;simp only [go_sem,seval,hkk,hL];all_goals first | rfl | (exfalso;omega) | (simp_all;done) | (simp_all;omega)
 ·rw [bm5 h7]
  refine aE_ Tryz.func141 ?_;refine rS_ Tryz.func141 ?_;simp only [go_sem,seval]
  repeat' (first
   | ((first | (refine C9 (fun hq=>?_) (fun hq=>?_)) | (refine y7 (fun x hx=>have hq:=hx;?_)))<;>(try simp only [go_sem,seval,hq]))
   | ((first
    | (refine (X5 _ _).callQ rfl ?_)
    | (refine (ad9 _ _).callQ rfl ?_)
    | (refine ⟨sd,?_⟩))<;>(try simp only [go_sem,seval]))
   | fail)
  all_goals first | rfl | (exfalso;omega)
theorem aB2 (p:Pg) (hok:N9 p=true) (t:Pf) (ht:p.prf t=true):Gives Tryz.prog 30 [.agg p.enc,.agg t.enc] (.d (.agg (FcV.fc (p.headV t.rel t.values)).enc)):=by
 obtain ⟨h0,r,hr,hl,hg,hh⟩:=Pg.prf_head ht;obtain ⟨_,ha,hb,_⟩:=Pg.body_inst hok (c_ hr) (m:=t.values.length) hl;have hR:(FcV.fc (p.headV t.rel t.values)).enc=[.str t.rel,.sl ((t.values.take r.arity.toNat).map Tm.enc)]:=by
  rw [Fc.enc_eq,hh];simp only [FcV.fc,List.map_take];rw [<-ab4 hg]
 rw [hR];have hre:(p.rels.map Rl.enc)[(p.find t.rel).toNat]? = some r.enc:=by simp [hr]
 have hrel:=X4 p t.rel;have hrg:=Pg.find_range p t.rel;generalize p.find t.rel=f at *;refine aE_ Tryz.func30 ?_;refine l7 Tryz.func30 mixed 3 _ _ (by kernel_rfl) ?_;simp only [go_sem,seval,run.eq_1];refine AW.drawA mixed #[true,true,true,true,true,true,true,true,true,true,true,true,true,true,true,false] [(0,.box (p.enc.map .d)),(1,.box (t.enc.map .d))] [] [0,1,2,3,4,5,6,7,8,9,10,11,12,13,14] [15] none (by kernel_rfl) trivial (by simp [x9]) ?_;simp only [go_sem,seval,d9 hre]
 repeat' (first
  | ((refine y7 (fun x hx=>have hq:=hx;?_))<;>(try simp only [go_sem,seval,d9 hre,hq]))
  | ((first
   | (refine hrel.calls rfl ?_)
   | (refine ⟨sd,?_⟩))<;>(try simp only [go_sem,seval,d9 hre]))
  | fail)
 obtain rfl:r=x:=by rw [hr] at hx;exact Option.some.inj hx
 refine ⟨ha,by omega,?_⟩;refine rS_ Tryz.func30 ?_;simp only [go_sem,seval]
theorem aB3 (r:Rl) (i:Int) (c:List Gl) (vs:List V) (hg:∀g,g∈c->g.inst vs.length) (hl:(vs.length:Int)=r.arity+r.locals) (ha:0<=r.arity) (hb:0<=r.locals) (hv:vs.length<=1000000) (hc:c.length<=1000000) :
  Gives Tryz.prog 98 [.agg r.enc,.int .i64 i,.sl (c.map Gl.enc),.sl (bdD vs)] (.tup [.d (.agg (bP9 r i vs (aj8 (o6 vs) c)).enc),.d (.bool (q8 (o6 vs) c))]):=by
 have hmx:maxLen=9223372036854775807:=rfl;have hbl:=ad4 vs 0;have hbt:=bv1 vs 0;have hput:∀g,g∈c->Gives Tryz.prog 140 [.agg g.enc,.sl ((ax9 0 vs).map Bd.enc)] (.d (.agg (g.ins (o6 vs)).enc)):=fun g h=>bq9 vs g (hg g h);have hbe:bdD vs=(ax9 0 vs).map Bd.enc:=rfl;rw [hbe];clear hbe;generalize hR:(C.tup [.d (.agg (bP9 r i vs (aj8 (o6 vs) c)).enc),.d (.bool (q8 (o6 vs) c))])=RES;refine aE_ Tryz.func98 ?_;refine l7 Tryz.func98 mixed 5 _ _ (by kernel_rfl) ?_;simp only [go_sem,seval,run.eq_1];refine AW.adoptGB 2 3 4 60 (by decide) rfl rfl ?_;refine AW.adoptGB 2 4 2 34 (by decide) rfl rfl ?_;refine AW.adoptGB 2 5 2 34 (by decide) rfl rfl ?_;refine rS_ Tryz.func98 ?_;simp only [go_sem,seval];refine AW.rng (ax9 0 vs) [2,3,4,8,10,18,19] 20 18 (fun p:List Tm=>[]) (fun _ p=>[.box (r.enc.map .d),.box [.d (.str []),.nil0,.d (.int .i64 0),.nil0,.nil0,.nil0],.box [.d (.str []),.nil0,.d (.int .i64 i),.own 3 p.length,.own 4 0,.own 5 0],.grow p.length 4 60 (p.map Tm.enc),.grow 0 2 34 [],.grow 0 2 34 []]) (fun s p=>p++s.map Bd.to=vs.map V.tm) [] rfl (by simp) (by simpa using hbt) A8 (fun j x s p hxi hdr hlt hm hinv hnext=>?_) (fun p hinv=>?_)
 ·have hpl:p.length+(s.length+1)=vs.length:=by have:=congrArg List.length hinv;simpa using this
  refine rS_ Tryz.func98 ?_;simp only [go_sem,seval,hlt,d9 hxi]
  repeat' (first
   | (simp (disch:=omega) only [l6])
   | ((refine ⟨sd,?_⟩)<;>(try simp only [go_sem,seval,hlt,d9 hxi]))
   | fail)
  refine hnext (p++[x.to]) _ (by rw [<-hinv];simp) (by refine ⟨by simp [mkS,Bd.enc_eq,Tm.enc_eq],by simp [mkS,Bd.enc_eq,Tm.enc_eq],by simp only [mkS,e_,g_,O.refsLt,C.refsLt,C.refsLt1,o5];first | done | rfl | (simp;done),?_⟩;simp [mkS,Abs.get,C.refsLtT,C.refsLt,C.refsLt1,Bd.enc_eq,Tm.enc_eq])
 ·simp only [o_,d_] at hinv
  subst hinv;have hvl2:(vs.map V.tm).length=vs.length:=by simp
  have hz4:∀x,x∈(vs.map V.tm).map Tm.enc->x.length=4:=fun x hx=>by obtain ⟨y,_,rfl⟩:=B_.1 hx;exact Tm.enc_len y
  have hru:∀d,(bP9 r i vs d).enc=[.str r.name,.sl (((vs.map V.tm).take r.arity.toNat).map Tm.enc),.int .i64 i,.sl ((vs.map V.tm).map Tm.enc),.sl (((u7 (o6 vs) d).map FcV.fc).map Fc.enc),.sl (((r9 (o6 vs) d).map FcV.fc).map Fc.enc)]:=fun d=>by rw [Ru.enc_eq];rfl
  simp only [hru] at hR;clear hru hbt;generalize vs.map V.tm=TV at *;refine l7 Tryz.func98 mixed 6 _ _ (by kernel_rfl) ?_;simp only [go_sem,seval,run.eq_1];refine AW.drawA mixed #[true,true,true,true,true,true,true,true,false,false] [(0,.box (r.enc.map .d)),(2,.box [.d (.str []),.nil0,.d (.int .i64 i),.own 3 TV.length,.own 4 0,.own 5 0])] [] [0,1,2,3,4,5,6,7] [8,9] none (by kernel_rfl) trivial (by simp [x9]) ?_;simp only [go_sem,seval]
  repeat' (first
   | ((refine ⟨sd,?_⟩)<;>(try simp only [go_sem,seval]))
   | fail)
  refine rS_ Tryz.func98 ?_;simp only [go_sem,seval];have hp0:u7 (o6 vs) []=[]:=rfl;have hn0:r9 (o6 vs) []=[]:=rfl;generalize hH4:List.map Tm.enc (List.take r.arity.toNat TV)=HD at *;refine AW.rng c [3,8,10,41,42] 43 41 (fun d:List Gl=>[]) (fun _ d=>[.box (r.enc.map .d),.box [.d (.str []),.nil0,.d (.int .i64 0),.nil0,.nil0,.nil0],.box [.d (.str r.name),.d (.sl HD),.d (.int .i64 i),.own 3 TV.length,.own 4 (u7 (o6 vs) d).length,.own 5 (r9 (o6 vs) d).length],.grow TV.length 4 60 (TV.map Tm.enc),.grow (u7 (o6 vs) d).length 2 34 (((u7 (o6 vs) d).map FcV.fc).map Fc.enc),.grow (r9 (o6 vs) d).length 2 34 (((r9 (o6 vs) d).map FcV.fc).map Fc.enc)]) (fun s d=>d++s=c/\d.all (U6 (o6 vs))=true) [] rfl (by simp) ⟨rfl,rfl⟩ (by refine ⟨by simp [mkS,hp0,hn0],by simp [mkS,hp0,hn0],by simp only [mkS,e_,g_,O.refsLt,C.refsLt,C.refsLt1,o5];first | done | rfl | (simp;done),?_⟩;simp [mkS,Abs.get,C.refsLtT,C.refsLt,C.refsLt1,hp0,hn0]) (fun j g s d hgj hds hlt hm hinv hnext=>?_) (fun d hinv=>?_)
  ·obtain ⟨i1,i2⟩:=hinv
   have hgm:=c_ hgj;have hgi:=hg g hgm;have hp:=hput g hgm;have hpl:=ad3 (o6 vs) d;have hnl:=am8 (o6 vs) d;have hdl:d.length+(s.length+1)=c.length:=by rw [<-i1];simp
   have hps:=aw6 (o6 vs) d g;have hns:=aw7 (o6 vs) d g;have hR2:(g.ins (o6 vs)).enc=[.int .i64 g.kind,.str g.name,.sl ((g.terms.map fun t=>t.V.sub (o6 vs)).map V.enc),.sl ((g.goals.map (Gl.ins (o6 vs))).map Gl.enc)]:=by
    rw [Gl.ins_eq,Gl.enc_eq];simp only [Gl.kind,Gl.name,Gl.terms,Gl.goals,D_];rfl
   have hcv:∀x:Gl,(FcV.fc (x.callV (o6 vs))).enc=[.str x.name,.sl ((x.terms.map fun t=>t.V.sub (o6 vs)).map V.enc)]:=fun x=>by rw [Fc.enc_eq];simp only [FcV.fc,Gl.callV,D6]
   have hnx:=hnext (d++[g]);by_cases h9:g.kind=9
   ·have h10:¬g.kind=10:=by omega
    have hok1:U6 (o6 vs) g=true:=by simp [U6,h9]
    rw [if_pos h9] at hps;rw [if_neg h10,d_] at hns;rw [hps,hns] at hnx;rw [hR2] at hp;refine rS_ Tryz.func98 ?_;simp only [go_sem,seval,hlt,d9 hgj]
    repeat' (first
     | (simp (disch:=omega) only [l6])
     | ((first
      | (refine hp.calls rfl ?_)
      | (refine ⟨sd,?_⟩))<;>(try simp only [go_sem,seval,hlt,d9 hgj,h9]))
     | fail)
    refine hnx _ ⟨by rw [<-i1];simp,by rw [x_,i2];simp [hok1]⟩ (by refine ⟨by simp [mkS,hcv],by simp [mkS,hcv],by simp only [mkS,e_,g_,O.refsLt,C.refsLt,C.refsLt1,o5];first | done | rfl | (simp;done),?_⟩;simp [mkS,Abs.get,C.refsLtT,C.refsLt,C.refsLt1,hcv])
   ·by_cases h10:g.kind=10
    ·obtain ⟨x,hx⟩:=Gl.shape_not hgi.1 h10
     have hok1:U6 (o6 vs) g=true:=by simp [U6,h10]
     rw [if_neg h9,d_] at hps;rw [if_pos h10,hx] at hns;simp only [List.head?_cons,Option.toList_some,w_,o_] at hns;rw [hps,hns] at hnx;have hRx:(x.ins (o6 vs)).enc=[.int .i64 x.kind,.str x.name,.sl ((x.terms.map fun t=>t.V.sub (o6 vs)).map V.enc),.sl ((x.goals.map (Gl.ins (o6 vs))).map Gl.enc)]:=by
      rw [Gl.ins_eq,Gl.enc_eq];simp only [Gl.kind,Gl.name,Gl.terms,Gl.goals,D_];rfl
     rw [hR2,hx] at hp;simp only [w_,o_,hRx] at hp;refine l7 Tryz.func98 mixed 18 _ _ (by kernel_rfl) ?_;simp only [go_sem,seval,run.eq_1,hlt,d9 hgj,h10,h9]
     repeat' (first
      | ((refine hp.calls rfl ?_)<;>(try simp only [go_sem,seval,hlt,d9 hgj,h10,h9,run.eq_1]))
      | fail)
     refine AW.drawA mixed #[true,true,true,true,true,true,true,true,true,true,true,true,true,true,true,false,false] [(2,.box [.d (.str r.name),.d (.sl HD),.d (.int .i64 i),.own 3 TV.length,.own 4 (u7 (o6 vs) d).length,.own 5 (r9 (o6 vs) d).length]),(7,.box [.d (.int .i64 10),.d (.str g.name),.d (.sl ((g.terms.map fun t=>t.V.sub (o6 vs)).map V.enc)),.d (.sl [[.int .i64 x.kind,.str x.name,.sl ((x.terms.map fun t=>t.V.sub (o6 vs)).map V.enc),.sl ((x.goals.map (Gl.ins (o6 vs))).map Gl.enc)]])])] [] [0,1,2,3,4,5,6,7,8,9,10,11,12,13,14] [15,16] none (by kernel_rfl) trivial (by simp [x9]) ?_;simp only [go_sem,seval]
     repeat' (first
      | ((refine ⟨sd,?_⟩)<;>(try simp only [go_sem,seval]))
      | fail)
     refine rS_ Tryz.func98 ?_;simp only [go_sem,seval]
     repeat' (first
      | (simp (disch:=omega) only [l6])
      | fail)
     refine hnx _ ⟨by rw [<-i1];simp,by rw [x_,i2];simp [hok1]⟩ (by refine ⟨by simp [mkS,hcv],by simp [mkS,hcv],by simp only [mkS,e_,g_,O.refsLt,C.refsLt,C.refsLt1,o5];first | done | rfl | (simp;done),?_⟩;simp [mkS,Abs.get,C.refsLtT,C.refsLt,C.refsLt1,hcv])
    ·have htt:=aU0 g (o6 vs) hgi.1
     rw [if_neg h9,d_] at hps;rw [if_neg h10,d_] at hns;rw [hps,hns] at hnx;cases hb:g.testV (o6 vs) with
     | true =>
      rw [hb] at htt;have hok1:U6 (o6 vs) g=true:=by simp [U6,hb]
      refine rS_ Tryz.func98 ?_;simp only [go_sem,seval,hlt,d9 hgj,h9,h10]
      repeat' (first
       | (simp (disch:=omega) only [l6])
       | ((first
        | (refine hp.calls rfl ?_)
        | (refine htt.calls rfl ?_))<;>(try simp only [go_sem,seval,hlt,d9 hgj,h9,h10]))
       | fail)
      refine hnx _ ⟨by rw [<-i1];simp,by rw [x_,i2];simp [hok1]⟩ (by refine ⟨by simp [mkS,hcv],by simp [mkS,hcv],by simp only [mkS,e_,g_,O.refsLt,C.refsLt,C.refsLt1,o5];first | done | rfl | (simp;done),?_⟩;simp [mkS,Abs.get,C.refsLtT,C.refsLt,C.refsLt1,hcv])
     | false =>
      rw [hb] at htt;have hok1:U6 (o6 vs) g=false:=by simp [U6,hb,h9,h10]
      obtain ⟨f1,f2⟩:=aW2 (s:=s) i2 hok1;rw [i1] at f1 f2;rw [f1,f2] at hR;rw [<-hR];refine rS_ Tryz.func98 ?_;simp only [go_sem,seval,hlt,d9 hgj,h9,h10]
      repeat' (first
       | ((first
        | (refine hp.calls rfl ?_)
        | (refine htt.calls rfl ?_))<;>(try simp only [go_sem,seval,hlt,d9 hgj,h9,h10]))
       | fail)
  ·obtain ⟨i1,i2⟩:=hinv
   rw [d_] at i1;subst i1;obtain ⟨f1,f2⟩:=am7 i2;rw [f1,f2] at hR;rw [<-hR];refine rS_ Tryz.func98 ?_;simp only [go_sem,seval]
theorem bB0 (p:Pg) (hok:N9 p=true) (hwp:wtL p.enc<=1048576):∀t:Pf,wtL t.enc<=1048576->Gives Tryz.prog 54 [.agg p.enc,.agg t.enc] (.d (.bool (p.prf t))):=by
 intro t;induction t using Pf.ind' with
 | h t ih =>
  intro hw;have hmx:maxLen=9223372036854775807:=rfl;have hrel:=X4 p t.rel;have hrg:=Pg.find_range p t.rel;rw [Pg.prf_eq];by_cases hf:p.find t.rel<0
  ·rw [Pg.prfAt_neg hf]
   generalize p.find t.rel=f at *;refine aE_ Tryz.func54 ?_;refine rS_ Tryz.func54 ?_;simp only [go_sem,seval,hf]
   repeat' (first
    | ((refine hrel.calls rfl ?_)<;>(try simp only [go_sem,seval,hf]))
    | fail)
  ·obtain ⟨r, hr⟩:∃r,p.rels[(p.find t.rel).toNat]? = some r:=⟨_,m_ (by omega)⟩
   have hrm:=c_ hr;have hre:(p.rels.map Rl.enc)[(p.find t.rel).toNat]? = some r.enc:=by simp [hr]
   rw [Pg.prfAt_at (by omega) hr];have hbw:wtL r.body.enc<=1048576:=by have:=Pg.wt_rels hrm;have:=Rl.wt_body r;omega
   have hcl:=ah7 r.body hbw;generalize p.find t.rel=f at *;have hf0:0<=f:=by omega
   have hf1:f<(p.rels.length:Int):=by omega
   obtain ⟨ha0,ha1,hl0,hl1,hcn,hsh⟩:0<=r.arity/\r.arity<=4/\0<=r.locals/\r.locals<=8/\r.body.cnt<=60/\r.body.shape=true:=by
    unfold N9 at hok;simp only [z_] at hok;obtain ⟨i,hi⟩:=af0 hok.2 r hrm;unfold Pg.relOk at hi;simp only [z_,decide_eq_true_eq] at hi;obtain ⟨⟨⟨⟨⟨⟨_,ha⟩,hl⟩,hc⟩,hs⟩,hv⟩,_⟩:=hi;exact ⟨ha.1,ha.2,hl.1,hl.2,hc,hs⟩
   have hgo:ak5 r.body=true:=by unfold ak5;simp only [z_,decide_eq_true_eq];exact ⟨by omega,hsh⟩
   simp only [hgo,true_and] at hcl;have hwr:IntKind.i64.wrap (r.arity+r.locals)=r.arity+r.locals:=l6 (by omega) (by omega);have hir:=fun (Q:List D->Prop)=>d9 hre Q;by_cases hlen:(t.values.length:Int)=r.arity+r.locals
   ·obtain ⟨hbi,_⟩:=Pg.body_inst hok hrm (m:=t.values.length) hlen
    rw [decide_eq_true hlen,k_];generalize hREST:(decide (r.body.clsS.length<=64) && (decide (0<=t.clause) && (match r.body.clsS[t.clause.toNat]? with
     | none=>false
     | some c=>J6 (o6 (t.values.map Tm.V)) c (p.prfs t.kids))))=REST
    generalize hN:(t.values.all Tm.ground && REST)=N;have hne:((t.values.length:Int) != r.arity+r.locals)=false:=by simp [hlen]
    have hR0:¬(r.body.clsS.length<=64/\0<=t.clause/\t.clause<(r.body.clsS.length:Int))->REST=false:=fun h=>by
     rw [<-hREST];by_cases h64:r.body.clsS.length<=64
     ·by_cases h0:0<=t.clause
      ·have:r.body.clsS[t.clause.toNat]? = none:=List.getElem?_eq_none (by omega)
       rw [this];simp
      ·rw [decide_eq_false h0,l_,E_]
     ·rw [decide_eq_false h64,l_]
    by_cases h64:r.body.clsS.length<=64
    ·rw [if_pos h64] at hcl
     have hwl:IntKind.i64.wrap ((r.body.clsS.length:Int) - 1)=(r.body.clsS.length:Int) - 1:=l6 (by omega) (by omega);by_cases hc:0<=t.clause/\t.clause<(r.body.clsS.length:Int)
     ·obtain ⟨c,hcc⟩:∃c,r.body.clsS[t.clause.toNat]? = some c:=⟨_,m_ (by omega)⟩
      rw [decide_eq_true h64,decide_eq_true hc.1,k_,k_,hcc] at hREST;dsimp only at hREST;have hce:(r.body.clsS.map aC4)[t.clause.toNat]? = some (aC4 c):=by simp [hcc]
      have hc0:=hc.1;have hc3:=hc.2;have hc4:t.clause<=(r.body.clsS.length:Int) - 1:=by omega
      have hci:=fun (Q:List D->Prop)=>d9 hce Q;obtain ⟨hrl,hrow⟩:=Gl.clsS_row r.body c (c_ hcc);refine aE_ Tryz.func54 ?_;refine rS_ Tryz.func54 ?_;simp only [go_sem,seval,hf,hf0,hf1,hwr,hir,hne]
      repeat' (first
       | ((first
        | (refine hrel.calls rfl ?_)
        | (refine hcl.calls rfl ?_)
        | (refine (E9 _ _ _).calls rfl ?_))<;>(try simp only [go_sem,seval,hf,hf0,hf1,hwr,hir,hne,ay8,p_,n_,hwl,hc0,hc4]))
       | fail)
      refine AW.adopt 8 5 138 (by decide) rfl ?_;have hkl:t.kids.length<=1048576/\t.values.length<=1048576:=by
       have h1:=U8 (t.kids.map Pf.enc) 0;have h2:=U8 (t.values.map Tm.enc) 0;simp only [bd3,i_] at h1 h2;simp only [Pf.enc_eq t,wtL,D.wt] at hw;omega
      have hwv:∀x,x∈t.values->wtL x.enc<=1048576:=fun x hx=>by have:=Pf.wt_values hx;omega
      have hvl:(t.values.map Tm.V).length=t.values.length:=by simp
      refine AW.rng t.values [2,3,5,6,63,64] 65 63 (fun w:List V=>[(8,.own 2 w.length)]) (fun _ w=>[.box (p.enc.map .d),.box (t.enc.map .d),.grow w.length 5 138 (bdD w)]) (fun s w=>t.values.all Tm.ground=s.all Tm.ground/\w++s.map Tm.V=t.values.map Tm.V) [] rfl (by simp) ⟨rfl,rfl⟩ (by refine ⟨by simp [mkS,bdD,ax9],by simp [mkS,bdD,ax9],by simp only [mkS,e_,g_,O.refsLt,C.refsLt,C.refsLt1,o5];first | done | rfl | (simp;done),?_⟩;simp [mkS,Abs.get,C.refsLtT,C.refsLt,C.refsLt1]) (fun i x s w hxi hdr hlt hm hinv hnext=>?_) (fun w hinv=>?_)
      ·obtain ⟨i1,i2⟩:=hinv
       have hwx:=hwv x (c_ hxi);have hwl2:w.length=i:=by
        have h1:=congrArg List.length i2;have h2:=congrArg List.length hdr;simp only [j_,i_,f_,r_] at h1 h2;omega
       have hil:=(h_.1 hxi).1;have hbw5:∀y,y∈bdD w->y.length=5:=fun y hy=>by obtain ⟨b,_,rfl⟩:=B_.1 hy;exact Bd.enc_len b
       have hbln:(bdD w).length=w.length:=by unfold bdD;rw [i_,ad4]
       rw [e_] at i1;cases hgx:x.ground with
       | false =>
        rw [hgx,l_] at i1;rw [i1,l_] at hN;subst hN;have hgr:=N8 x hwx;rw [hgx] at hgr;refine rS_ Tryz.func54 ?_;simp only [go_sem,seval,hlt,d9 hxi]
        repeat' (first
         | ((refine hgr.calls rfl ?_)<;>(try simp only [go_sem,seval,hlt,d9 hxi]))
         | fail)
       | true =>
        rw [hgx,k_] at i1;have hgr:=N8 x hwx;rw [hgx] at hgr;have hxt:=Tm.V_of (G5 hgx);have hbs:bdD (w++[x.V])=bdD w++[[.int .i64 (i:Int),.int .i64 x.kind,.int .i64 x.int,.str x.name,.sl (x.args.map Tm.enc)]]:=by
         unfold bdD;rw [aw9,<-hxt,H_,w_,o_,Bd.enc_eq];simp [hwl2]
        generalize hBD:bdD w=BD at *;refine rS_ Tryz.func54 ?_;simp only [go_sem,seval,hlt,d9 hxi]
        repeat' (first
         | (simp (disch:=omega) only [l6])
         | ((first
          | (refine hgr.calls rfl ?_)
          | (refine ⟨sd,?_⟩))<;>(try simp only [go_sem,seval,hlt,d9 hxi]))
         | fail)
        refine hnext (w++[x.V]) _ ⟨i1,by rw [<-i2];simp⟩ (by refine ⟨by simp [mkS,hbs,Tm.enc_eq x],by simp [mkS,hbs,Tm.enc_eq x],by simp only [mkS,e_,g_,O.refsLt,C.refsLt,C.refsLt1,o5];first | done | rfl | (simp;done),?_⟩;simp [mkS,Abs.get,C.refsLtT,C.refsLt,C.refsLt1,hbs,Tm.enc_eq x])
      ·obtain ⟨i1,i2⟩:=hinv
       rw [g_] at i1;rw [i1,k_] at hN;subst hN;simp only [o_,d_] at i2;subst i2;generalize hvs:t.values.map Tm.V=vs at *;have hrule:=aB3 r t.clause c vs (fun g hg=>by have h:=Gl.inst_sub hbi g (hrow g hg);rw [hvl];exact h) (by omega) ha0 hl0 (by omega) (by omega);have hloop:=ao5 (o6 vs) c (p.prfs t.kids) (fun g hg h10=>by obtain ⟨x,hx⟩:=Gl.shape_not (Gl.inst_sub hbi g (hrow g hg)).1 h10;rw [hx];simp);rw [hREST] at hloop;have hpre:q8 (o6 vs) c=true->aj8 (o6 vs) c=c:=fun h=>(am7 h).1;have hru:∀d,(bP9 r t.clause vs d).enc=[.str r.name,.sl (((vs.map V.tm).take r.arity.toNat).map Tm.enc),.int .i64 t.clause,.sl ((vs.map V.tm).map Tm.enc),.sl (((u7 (o6 vs) d).map FcV.fc).map Fc.enc),.sl (((r9 (o6 vs) d).map FcV.fc).map Fc.enc)]:=fun d=>by rw [Ru.enc_eq];rfl
       rw [hru] at hrule;have hNl:(r9 (o6 vs) c).length<=1000000:=by have:=am8 (o6 vs) c;omega
       have hPl:(u7 (o6 vs) c).length<=1000000:=by have:=ad3 (o6 vs) c;omega
       generalize ((vs.map V.tm).take r.arity.toNat).map Tm.enc=D1 at hrule;generalize (vs.map V.tm).map Tm.enc=D3 at hrule;generalize hBD:bdD vs=BD at *;cases hh:q8 (o6 vs) c with
       | false =>
        rw [hh,l_] at hloop;rw [hloop];rw [hh] at hrule;generalize aj8 (o6 vs) c=d at hrule;refine l7 Tryz.func54 mixed 6 _ _ (by kernel_rfl) ?_;simp only [go_sem,seval,run.eq_1,hf0,hf1,hir,hci];refine AW.drawA mixed #[true,true,true,true,true,true,true,true,true,true,true,true,true,true,true,true,true,true,false,false] [(0,.box (p.enc.map .d)),(1,.box (t.enc.map .d)),(2,.grow vs.length 5 138 BD)] [] [0,1,2,3,4,5,6,7,8,9,10,11,12,17,13,14,15,16] [18,19] (some (17,11,132,[.string ⟨#[]⟩,.slice none 0 0,.int .i64 0,.slice none 0 0,.slice none 0 0,.slice none 0 0])) (by kernel_rfl) aD8 (by simp [x9]) ?_;simp only [go_sem,seval,hir,hf0,hf1,hci,hc0,hc3,z8]
        repeat' (first
         | ((refine hrule.calls rfl ?_)<;>(try simp only [go_sem,seval,hir,hf0,hf1,hci,hc0,hc3,z8]))
         | fail)
        refine rS_ Tryz.func54 ?_;simp only [go_sem,seval]
       | true =>
        rw [hh,k_] at hloop;rw [hh,hpre hh] at hrule;have hks:(p.prfs t.kids).length=t.kids.length:=by rw [Pg.prfs_eq,i_]
        rw [hks] at hloop;generalize r9 (o6 vs) c=NS at hrule hloop hNl;generalize u7 (o6 vs) c=PS at hrule hloop hPl;generalize aj8 (o6 vs) c=c0 at *;by_cases hneg:NS=[]
        ·subst hneg
         simp only [decide_true,k_] at hloop;simp only [o_] at hrule;by_cases hpl:PS.length=t.kids.length
         ·rw [decide_eq_true hpl,k_] at hloop
          have hnl:((PS.length:Int) != (t.kids.length:Int))=false:=by simp [hpl]
          refine l7 Tryz.func54 mixed 6 _ _ (by kernel_rfl) ?_;simp only [go_sem,seval,run.eq_1,hf0,hf1,hir,hci];refine AW.drawA mixed #[true,true,true,true,true,true,true,true,true,true,true,true,true,true,true,true,true,true,false,false] [(0,.box (p.enc.map .d)),(1,.box (t.enc.map .d)),(2,.grow vs.length 5 138 BD)] [] [0,1,2,3,4,5,6,7,8,9,10,11,12,17,13,14,15,16] [18,19] (some (17,11,132,[.string ⟨#[]⟩,.slice none 0 0,.int .i64 0,.slice none 0 0,.slice none 0 0,.slice none 0 0])) (by kernel_rfl) aD8 (by simp [x9]) ?_;simp only [go_sem,seval,hir,hf0,hf1,hci,hc0,hc3,z8]
          repeat' (first
           | ((refine hrule.calls rfl ?_)<;>(try simp only [go_sem,seval,hir,hf0,hf1,hci,hc0,hc3,z8]))
           | fail)
          refine rS_ Tryz.func54 ?_;simp only [go_sem,seval,hnl];refine AW.rng t.kids [2,11,115,116] 117 115 (fun _:Unit=>[]) (fun H _=>H) (fun s _=>af6 (p.prfs s) (PS.drop (t.kids.length - s.length))=REST) () rfl (by simp) (by rw [G_,List.drop_zero];exact hloop.symm) A8 (fun i x s acc hxi hdr hlt hm hinv hnext=>?_) (fun acc hinv=>?_)
          ·have hdl:=congrArg List.length hdr
           simp only [r_,f_] at hdl;have hil:=(h_.1 hxi).1;have hx:=c_ hxi;have hih:=ih x hx (by have:=Pf.wt_kids hx;omega);obtain ⟨f1,hf1'⟩:∃f1,PS[i]? = some f1:=⟨_,m_ (by omega)⟩;have hdp:PS.drop i=f1 :: PS.drop (i+1):=by
            obtain ⟨h2,h3⟩:=h_.1 hf1';rw [<-h3];exact K_ h2
           have e1:t.kids.length - (s.length+1)=i:=by omega
           have e2:t.kids.length - s.length=i+1:=by omega
           simp only [f_,e1,hdp,Pg.prfs,af6] at hinv;rw [e2] at hnext;have hpe:((PS.map FcV.fc).map Fc.enc)[i]? = some f1.fc.enc:=by simp [hf1']
           have hpi:=fun (Q:List D->Prop)=>d9 hpe Q;have hipl:(i:Int)<(PS.length:Int):=by omega
           cases hb:p.prf x with
           | false =>
            rw [hb] at hih hinv;simp only [l_] at hinv;rw [<-hinv];refine rS_ Tryz.func54 ?_;simp only [go_sem,seval,hlt,d9 hxi]
            repeat' (first
             | ((refine hih.callQ rfl ?_)<;>(try simp only [go_sem,seval,hlt,d9 hxi,hpi,hipl]))
             | fail)
           | true =>
            have hpf:=aB2 p hok x hb;rw [hb] at hih hinv;simp only [k_] at hinv;have hord:Gives Tryz.prog 93 [.agg (FcV.fc (p.headV x.rel x.values)).enc,.agg f1.fc.enc] (.d (.int .i64 (I6 (p.headV x.rel x.values).1 (p.headV x.rel x.values).2 f1.1 f1.2))):=aN3 _ _ _ _;have heq:FcV.eq (p.headV x.rel x.values) f1=decide (I6 (p.headV x.rel x.values).1 (p.headV x.rel x.values).2 f1.1 f1.2=0):=rfl;rw [heq] at hinv;generalize I6 (p.headV x.rel x.values).1 (p.headV x.rel x.values).2 f1.1 f1.2=cf at hord hinv;generalize FcV.fc (p.headV x.rel x.values)=F1 at hpf hord;generalize f1.fc=F2 at hpi hord;by_cases he:cf=0
            ·rw [decide_eq_true he,k_] at hinv
             refine rS_ Tryz.func54 ?_;simp only [go_sem,seval,hlt,d9 hxi]
             repeat' (first
              | (simp (disch:=omega) only [l6])
              | ((first
               | (refine hih.callQ rfl ?_)
               | (refine hpf.callQ rfl ?_)
               | (refine hord.callQ rfl ?_))<;>(try simp only [go_sem,seval,hlt,d9 hxi,hpi,hipl,he]))
              | fail)
             ·refine hnext () _ hinv A8
             all_goals (exfalso;omega)
            ·rw [decide_eq_false he,l_] at hinv
             rw [<-hinv];refine rS_ Tryz.func54 ?_;simp only [go_sem,seval,hlt,d9 hxi]
             repeat' (first
              | ((refine C9 (fun hq=>?_) (fun hq=>?_))<;>(try simp only [go_sem,seval,hlt,d9 hxi,hpi,hipl,hq]))
              | (simp (disch:=omega) only [l6])
              | ((first
               | (refine hih.callQ rfl ?_)
               | (refine hpf.callQ rfl ?_)
               | (refine hord.callQ rfl ?_))<;>(try simp only [go_sem,seval,hlt,d9 hxi,hpi,hipl]))
              | fail)
             all_goals first | rfl | (exfalso;omega) | (exact absurd (by assumption) he)
          ·simp only [Pg.prfs,af6] at hinv
           rw [<-hinv];refine rS_ Tryz.func54 ?_;simp only [go_sem,seval]
         ·rw [decide_eq_false hpl,l_] at hloop
          rw [hloop];have hnl:((PS.length:Int) != (t.kids.length:Int))=true:=by simp;omega
          refine l7 Tryz.func54 mixed 6 _ _ (by kernel_rfl) ?_;simp only [go_sem,seval,run.eq_1,hf0,hf1,hir,hci];refine AW.drawA mixed #[true,true,true,true,true,true,true,true,true,true,true,true,true,true,true,true,true,true,false,false] [(0,.box (p.enc.map .d)),(1,.box (t.enc.map .d)),(2,.grow vs.length 5 138 BD)] [] [0,1,2,3,4,5,6,7,8,9,10,11,12,17,13,14,15,16] [18,19] (some (17,11,132,[.string ⟨#[]⟩,.slice none 0 0,.int .i64 0,.slice none 0 0,.slice none 0 0,.slice none 0 0])) (by kernel_rfl) aD8 (by simp [x9]) ?_;simp only [go_sem,seval,hir,hf0,hf1,hci,hc0,hc3,z8]
          repeat' (first
           | ((refine hrule.calls rfl ?_)<;>(try simp only [go_sem,seval,hir,hf0,hf1,hci,hc0,hc3,z8]))
           | fail)
          refine rS_ Tryz.func54 ?_;simp only [go_sem,seval,hnl]
        ·rw [decide_eq_false hneg,l_] at hloop
         rw [hloop];have hnl:0<(NS.length:Int):=by
          have:=List.length_pos_iff.2 hneg;omega
         refine l7 Tryz.func54 mixed 6 _ _ (by kernel_rfl) ?_;simp only [go_sem,seval,run.eq_1,hf0,hf1,hir,hci];refine AW.drawA mixed #[true,true,true,true,true,true,true,true,true,true,true,true,true,true,true,true,true,true,false,false] [(0,.box (p.enc.map .d)),(1,.box (t.enc.map .d)),(2,.grow vs.length 5 138 BD)] [] [0,1,2,3,4,5,6,7,8,9,10,11,12,17,13,14,15,16] [18,19] (some (17,11,132,[.string ⟨#[]⟩,.slice none 0 0,.int .i64 0,.slice none 0 0,.slice none 0 0,.slice none 0 0])) (by kernel_rfl) aD8 (by simp [x9]) ?_;simp only [go_sem,seval,hir,hf0,hf1,hci,hc0,hc3,z8]
         repeat' (first
          | ((refine hrule.calls rfl ?_)<;>(try simp only [go_sem,seval,hir,hf0,hf1,hci,hc0,hc3,z8]))
          | fail)
         refine rS_ Tryz.func54 ?_;simp only [go_sem,seval,hnl]
     ·have hR1:=hR0 (fun h=>hc h.2)
      rw [hR1,E_] at hN;subst hN;refine aE_ Tryz.func54 ?_;refine rS_ Tryz.func54 ?_;simp only [go_sem,seval,hf,hf0,hf1,hwr,hir,hne]
      repeat' (first
       | ((refine C9 (fun hq=>?_) (fun hq=>?_))<;>(try simp only [go_sem,seval,hf,hf0,hf1,hwr,hir,hne,ay8,p_,n_,hwl,hq]))
       | ((first
        | (refine hrel.calls rfl ?_)
        | (refine hcl.calls rfl ?_)
        | (refine (E9 _ _ _).calls rfl ?_))<;>(try simp only [go_sem,seval,hf,hf0,hf1,hwr,hir,hne,ay8,p_,n_,hwl]))
       | fail)
      all_goals (exfalso;omega)
    ·rw [if_neg h64] at hcl
     have hR1:=hR0 (fun h=>h64 h.1);rw [hR1,E_] at hN;subst hN;refine aE_ Tryz.func54 ?_;refine rS_ Tryz.func54 ?_;simp only [go_sem,seval,hf,hf0,hf1,hwr,hir,hne]
     repeat' (first
      | ((first
       | (refine hrel.calls rfl ?_)
       | (refine hcl.calls rfl ?_))<;>(try simp only [go_sem,seval,hf,hf0,hf1,hwr,hir,hne,ay8,C_,A_]))
      | fail)
   ·rw [decide_eq_false hlen,l_]
    refine aE_ Tryz.func54 ?_;refine rS_ Tryz.func54 ?_;simp only [go_sem,seval,hf,hf0,hf1,hwr,hlen,hir]
    repeat' (first
     | ((refine C9 (fun hq=>?_) (fun hq=>?_))<;>(try simp only [go_sem,seval,hf,hf0,hf1,hwr,hlen,hir,hq]))
     | ((refine hrel.calls rfl ?_)<;>(try simp only [go_sem,seval,hf,hf0,hf1,hwr,hlen,hir]))
     | fail)
    all_goals exact absurd hq hlen
theorem aS3 (p:Pg) (t:Pf) (hwp:wtL p.enc<=1048576) (hw:wtL t.enc<=1048576):Gives Tryz.prog 28 [.agg p.enc,.agg t.enc] (.d (.bool (p.prfOk t))):=by
 have hz:decide (0<t.sizeI)=decide (t.cnt<=200):=by
  have:=Pf.cnt_pos t;unfold Pf.sizeI;rw [u_,decide_eq_true_eq,decide_eq_true_eq];split<;>omega
 by_cases hok:N9 p=true
 ·have hp:=bB0 p hok hwp t hw
  have hP:p.prfOk t=(decide (0<t.sizeI) && p.prf t):=by unfold Pg.prfOk;rw [hok,k_,hz]
  rw [hP];clear hP;generalize p.prf t=b at hp |-;have hsz:=aE9 t hw;generalize t.sizeI=z at hz hsz |-;refine aE_ Tryz.func28 ?_;refine rS_ Tryz.func28 ?_;simp only [go_sem,seval,hok]
  repeat' (first
   | ((refine C9 (fun hq=>?_) (fun hq=>?_))<;>(try simp only [go_sem,seval,hok,hq]))
   | ((first
    | (refine hp.calls rfl ?_)
    | (refine hsz.calls rfl ?_)
    | (refine (F5 _ sd).calls rfl ?_))<;>(try simp only [go_sem,seval,hok]))
   | fail)
  all_goals first | rfl | (rw [decide_eq_true (by omega)];rfl) | (rw [decide_eq_false (by omega)];rfl) | (rw [decide_eq_true (by omega),k_];done)
 ·simp only [y_] at hok
  have hP:p.prfOk t=false:=by unfold Pg.prfOk;rw [hok,l_]
  rw [hP];refine aE_ Tryz.func28 ?_;refine rS_ Tryz.func28 ?_;simp only [go_sem,seval,hok]
  repeat' (first
   | ((refine (F5 _ sd).calls rfl ?_)<;>(try simp only [go_sem,seval,hok]))
   | fail)
set_option maxHeartbeats 4000000
theorem aD7 {s r:List Tm} {x:Tm} {i:Nat} (hdr:s.drop i=x :: r):i=s.length - (r.length+1)/\r.length+1<=s.length/\i<s.length:=by
 have:=congrArg List.length hdr;simp only [r_,f_] at this;omega
theorem ay4 (s:List Tm) (hw:∀t,t∈s->wtL t.enc<=1048576) (hl:s.length<=9000000):Gives Tryz.prog 67 [.sl (s.map Tm.enc)] (.d (.bool (U7 s))):=by
 have hmap:(s.map Tm.enc).length=s.length:=i_ _;by_cases h1:1<=s.length
 ·have n1:¬(s.length:Int)<1:=by omega
  by_cases h2:s.length<=8
  ·have n2:¬(8:Int)<(s.length:Int):=by omega
   have hu:U7 s=ap0 none s:=by unfold U7;simp [h1,h2]
   rw [hu];refine aE_ Tryz.func67 ?_;refine rS_ Tryz.func67 ?_;simp only [go_sem,seval,hmap,n1,n2];refine AW.rng s [0,13,14] 15 13 (fun _:Option V=>[]) (fun H _=>H) (fun r p=>ap0 p r=ap0 none s/\(r.length=s.length->p=none)/\(r.length<s.length->∃y:Tm,s[s.length - r.length - 1]? = some y/\p=some y.V/\Q5 y=true)) none rfl (by simp) ⟨rfl,fun _=>rfl,fun h=>absurd h (M_ _)⟩ H6 (fun i x r p hxi hdr hlt hm hinv hnext=>?_) (fun p hinv=>?_)
   ·obtain ⟨i1,i2,i3⟩:=hinv
    obtain ⟨hi1,hi2,hi3⟩:=aD7 hdr;have hto:Gives Tryz.prog 61 [.agg x.enc] (.d (.bool x.ground)):=ao0 x (hw x (c_ hxi));have ho:=hto;simp only [f_,ap0] at i1 i2 i3;cases hg:x.ground with
    | false =>
     rw [hg] at hto ho;have c3:True:=trivial;have hf:ap0 none s=false:=by rw [<-i1];simp [hg]
     rw [hf];refine rS_ Tryz.func67 ?_;simp only [go_sem,seval,hlt,d9 hxi,hmap]
     repeat' (first
      | ((refine hto.callQ rfl ?_)<;>(try simp only [go_sem,seval,hlt,d9 hxi,hmap]))
      | fail)
     all_goals first | (exfalso;omega) | (exfalso;exact absurd (by assumption) c3) | rfl
    | true =>
     rw [hg] at hto;clear ho;have hxV:=Tm.enc_V (G5 hg);by_cases hi0:i=0
     ·obtain rfl:=i2 (by omega)
      have n0:¬(0:Int)<(i:Int):=by omega
      have ho:=hto;refine rS_ Tryz.func67 ?_;simp only [go_sem,seval,hlt,d9 hxi,n0]
      repeat' (first
       | (simp (disch:=omega) only [l6])
       | (refine hnext (some x.V) _ ⟨by rw [<-i1];simp [hi0,hg],fun h=>by omega,fun _=>⟨x,by rw [show s.length - r.length - 1=i by omega];exact hxi,rfl,G5 hg⟩⟩ H6)
       | ((refine hto.callQ rfl ?_)<;>(try simp only [go_sem,seval,hlt,d9 hxi,n0]))
       | fail)
      all_goals (exfalso;omega)
     ·obtain ⟨y,hy,rfl,hyo⟩:=i3 (by omega)
      have n0:(0:Int)<(i:Int):=by omega
      have hw1:IntKind.i64.wrap ((i:Int) - 1)=((i - 1:Nat):Int):=by rw [l6 (by omega) (by omega)];omega
      have n2:((i - 1:Nat):Int)<(s.length:Int):=by omega
      have hyi:s[i - 1]? = some y:=by rw [<-hy];congr 1;omega
      have ho:Gives Tryz.prog 112 [.agg y.enc,.agg x.enc] (.d (.int .i64 (y.V.cmp x.V))):=by
       rw [Tm.enc_V hyo,hxV];exact O9 _ _ _ (b_ _)
      by_cases c3:y.V.cmp x.V<0
      ·have c4:¬0<=y.V.cmp x.V:=by omega
       refine rS_ Tryz.func67 ?_;simp only [go_sem,seval,hlt,d9 hxi,n0,hw1,n2,d9 hyi,hmap,c3,c4]
       repeat' (first
        | (simp (disch:=omega) only [l6])
        | (refine hnext (some x.V) _ ⟨by rw [<-i1];simp [c3,hg],fun h=>by omega,fun _=>⟨x,by rw [show s.length - r.length - 1=i by omega];exact hxi,rfl,G5 hg⟩⟩ H6)
        | ((first
         | (refine hto.callQ rfl ?_)
         | (refine ho.callQ rfl ?_))<;>(try simp only [go_sem,seval,hlt,d9 hxi,n0,hw1,n2,d9 hyi,hmap,c3,c4]))
        | fail)
       all_goals (exfalso;omega)
      ·have c4:0<=y.V.cmp x.V:=by omega
       have hf:ap0 none s=false:=by rw [<-i1];simp [c3]
       rw [hf];refine rS_ Tryz.func67 ?_;simp only [go_sem,seval,hlt,d9 hxi,n0,hw1,n2,d9 hyi,hmap,c4]
       repeat' (first
        | ((first
         | (refine hto.callQ rfl ?_)
         | (refine ho.callQ rfl ?_))<;>(try simp only [go_sem,seval,hlt,d9 hxi,n0,hw1,n2,d9 hyi,hmap,c4]))
        | fail)
       all_goals first | (exfalso;omega) | (exfalso;exact absurd (by assumption) c3) | rfl
   rw [<-hinv.1];refine rS_ Tryz.func67 ?_;simp only [go_sem,seval];all_goals rfl
  ·have n2:(8:Int)<(s.length:Int):=by omega
   have hu:U7 s=false:=by unfold U7;simp [h2]
   rw [hu];refine aE_ Tryz.func67 ?_;refine rS_ Tryz.func67 ?_;simp only [go_sem,seval,hmap,n1,n2]
 ·have n1:(s.length:Int)<1:=by omega
  have hu:U7 s=false:=by unfold U7;simp [h1]
  rw [hu];refine aE_ Tryz.func67 ?_;refine rS_ Tryz.func67 ?_;simp only [go_sem,seval,hmap,n1]
theorem ay1 (s:List Tm) (hw:∀t,t∈s->wtL t.enc<=1048576) (hl:s.length<=9000000):Gives Tryz.prog 129 [.sl (s.map Tm.enc)] (.d (.bool (U7 s))):=by
 have hmap:(s.map Tm.enc).length=s.length:=i_ _;cases hun:ap0 none s with
 | false =>
  have hu:U7 s=ap0 none s:=by unfold U7;rw [hun];simp
  rw [hu];refine aE_ Tryz.func129 ?_;refine rS_ Tryz.func129 ?_;simp only [go_sem,seval,hmap];refine AW.rng s [0,5,6] 7 5 (fun _:Option V=>[]) (fun H _=>H) (fun r p=>ap0 p r=ap0 none s/\(r.length=s.length->p=none)/\(r.length<s.length->∃y:Tm,s[s.length - r.length - 1]? = some y/\p=some y.V/\Q5 y=true)) none rfl (by simp) ⟨rfl,fun _=>rfl,fun h=>absurd h (M_ _)⟩ H6 (fun i x r p hxi hdr hlt hm hinv hnext=>?_) (fun p hinv=>?_)
  ·obtain ⟨i1,i2,i3⟩:=hinv
   obtain ⟨hi1,hi2,hi3⟩:=aD7 hdr;have hto:Gives Tryz.prog 91 [.agg x.enc] (.d (.bool x.ground)):=N8 x (hw x (c_ hxi));have ho:=hto;simp only [f_,ap0] at i1 i2 i3;cases hg:x.ground with
   | false =>
    rw [hg] at hto ho;have c3:True:=trivial;have hf:ap0 none s=false:=by rw [<-i1];simp [hg]
    rw [hf];refine rS_ Tryz.func129 ?_;simp only [go_sem,seval,hlt,d9 hxi,hmap]
    repeat' (first
     | ((refine hto.callQ rfl ?_)<;>(try simp only [go_sem,seval,hlt,d9 hxi,hmap]))
     | fail)
    all_goals first | (exfalso;omega) | (exfalso;exact absurd (by assumption) c3) | rfl
   | true =>
    rw [hg] at hto;clear ho;have hxV:=Tm.enc_V (G5 hg);by_cases hi0:i=0
    ·obtain rfl:=i2 (by omega)
     have n0:¬(0:Int)<(i:Int):=by omega
     have ho:=hto;refine rS_ Tryz.func129 ?_;simp only [go_sem,seval,hlt,d9 hxi,n0]
     repeat' (first
      | (simp (disch:=omega) only [l6])
      | (refine hnext (some x.V) _ ⟨by rw [<-i1];simp [hi0,hg],fun h=>by omega,fun _=>⟨x,by rw [show s.length - r.length - 1=i by omega];exact hxi,rfl,G5 hg⟩⟩ H6)
      | ((refine hto.callQ rfl ?_)<;>(try simp only [go_sem,seval,hlt,d9 hxi,n0]))
      | fail)
     all_goals (exfalso;omega)
    ·obtain ⟨y,hy,rfl,hyo⟩:=i3 (by omega)
     have n0:(0:Int)<(i:Int):=by omega
     have hw1:IntKind.i64.wrap ((i:Int) - 1)=((i - 1:Nat):Int):=by rw [l6 (by omega) (by omega)];omega
     have n2:((i - 1:Nat):Int)<(s.length:Int):=by omega
     have hyi:s[i - 1]? = some y:=by rw [<-hy];congr 1;omega
     have ho:Gives Tryz.prog 83 [.agg y.enc,.agg x.enc] (.d (.int .i64 (y.V.cmp x.V))):=by
      rw [Tm.enc_V hyo,hxV];exact X6 _ _ _ (b_ _)
     by_cases c3:y.V.cmp x.V<0
     ·have c4:¬0<=y.V.cmp x.V:=by omega
      refine rS_ Tryz.func129 ?_;simp only [go_sem,seval,hlt,d9 hxi,n0,hw1,n2,d9 hyi,hmap,c3,c4]
      repeat' (first
       | (simp (disch:=omega) only [l6])
       | (refine hnext (some x.V) _ ⟨by rw [<-i1];simp [c3,hg],fun h=>by omega,fun _=>⟨x,by rw [show s.length - r.length - 1=i by omega];exact hxi,rfl,G5 hg⟩⟩ H6)
       | ((first
        | (refine hto.callQ rfl ?_)
        | (refine ho.callQ rfl ?_))<;>(try simp only [go_sem,seval,hlt,d9 hxi,n0,hw1,n2,d9 hyi,hmap,c3,c4]))
       | fail)
      all_goals (exfalso;omega)
     ·have c4:0<=y.V.cmp x.V:=by omega
      have hf:ap0 none s=false:=by rw [<-i1];simp [c3]
      rw [hf];refine rS_ Tryz.func129 ?_;simp only [go_sem,seval,hlt,d9 hxi,n0,hw1,n2,d9 hyi,hmap,c4]
      repeat' (first
       | ((first
        | (refine hto.callQ rfl ?_)
        | (refine ho.callQ rfl ?_))<;>(try simp only [go_sem,seval,hlt,d9 hxi,n0,hw1,n2,d9 hyi,hmap,c4]))
       | fail)
      all_goals first | (exfalso;omega) | (exfalso;exact absurd (by assumption) c3) | rfl
  exfalso;rw [<-hinv.1] at hun;simp [ap0] at hun
 | true =>
  have hu:U7 s=(decide ((1:Int)<=(s.length:Int)) && decide ((s.length:Int)<=8)):=by unfold U7;rw [hun,Bool.and_true,u_];simp;omega
  rw [hu];obtain ⟨RES,hRES⟩:∃RES,(decide ((1:Int)<=(s.length:Int)) && decide ((s.length:Int)<=8))=RES:=⟨_,rfl⟩;rw [hRES];have hin:=E9 (s.length:Int) 1 8;rw [hRES] at hin;refine aE_ Tryz.func129 ?_;refine rS_ Tryz.func129 ?_;simp only [go_sem,seval,hmap];refine AW.rng s [0,5,6] 7 5 (fun _:Option V=>[]) (fun H _=>H) (fun r p=>ap0 p r=ap0 none s/\(r.length=s.length->p=none)/\(r.length<s.length->∃y:Tm,s[s.length - r.length - 1]? = some y/\p=some y.V/\Q5 y=true)) none rfl (by simp) ⟨rfl,fun _=>rfl,fun h=>absurd h (M_ _)⟩ H6 (fun i x r p hxi hdr hlt hm hinv hnext=>?_) (fun p hinv=>?_)
  ·obtain ⟨i1,i2,i3⟩:=hinv
   obtain ⟨hi1,hi2,hi3⟩:=aD7 hdr;have hto:Gives Tryz.prog 91 [.agg x.enc] (.d (.bool x.ground)):=N8 x (hw x (c_ hxi));have ho:=hto;simp only [f_,ap0] at i1 i2 i3;cases hg:x.ground with
   | false =>
    rw [hg] at hto ho;have c3:True:=trivial;have hf:ap0 none s=false:=by rw [<-i1];simp [hg]
    exact absurd (hf.symm.trans hun) (by simp)
   | true =>
    rw [hg] at hto;clear ho;have hxV:=Tm.enc_V (G5 hg);by_cases hi0:i=0
    ·obtain rfl:=i2 (by omega)
     have n0:¬(0:Int)<(i:Int):=by omega
     have ho:=hto;refine rS_ Tryz.func129 ?_;simp only [go_sem,seval,hlt,d9 hxi,n0]
     repeat' (first
      | (simp (disch:=omega) only [l6])
      | (refine hnext (some x.V) _ ⟨by rw [<-i1];simp [hi0,hg],fun h=>by omega,fun _=>⟨x,by rw [show s.length - r.length - 1=i by omega];exact hxi,rfl,G5 hg⟩⟩ H6)
      | ((refine hto.callQ rfl ?_)<;>(try simp only [go_sem,seval,hlt,d9 hxi,n0]))
      | fail)
     all_goals (exfalso;omega)
    ·obtain ⟨y,hy,rfl,hyo⟩:=i3 (by omega)
     have n0:(0:Int)<(i:Int):=by omega
     have hw1:IntKind.i64.wrap ((i:Int) - 1)=((i - 1:Nat):Int):=by rw [l6 (by omega) (by omega)];omega
     have n2:((i - 1:Nat):Int)<(s.length:Int):=by omega
     have hyi:s[i - 1]? = some y:=by rw [<-hy];congr 1;omega
     have ho:Gives Tryz.prog 83 [.agg y.enc,.agg x.enc] (.d (.int .i64 (y.V.cmp x.V))):=by
      rw [Tm.enc_V hyo,hxV];exact X6 _ _ _ (b_ _)
     by_cases c3:y.V.cmp x.V<0
     ·have c4:¬0<=y.V.cmp x.V:=by omega
      refine rS_ Tryz.func129 ?_;simp only [go_sem,seval,hlt,d9 hxi,n0,hw1,n2,d9 hyi,hmap,c3,c4]
      repeat' (first
       | (simp (disch:=omega) only [l6])
       | (refine hnext (some x.V) _ ⟨by rw [<-i1];simp [c3,hg],fun h=>by omega,fun _=>⟨x,by rw [show s.length - r.length - 1=i by omega];exact hxi,rfl,G5 hg⟩⟩ H6)
       | ((first
        | (refine hto.callQ rfl ?_)
        | (refine ho.callQ rfl ?_))<;>(try simp only [go_sem,seval,hlt,d9 hxi,n0,hw1,n2,d9 hyi,hmap,c3,c4]))
       | fail)
      all_goals (exfalso;omega)
     ·have c4:0<=y.V.cmp x.V:=by omega
      have hf:ap0 none s=false:=by rw [<-i1];simp [c3]
      exact absurd (hf.symm.trans hun) (by simp)
  refine rS_ Tryz.func129 ?_;simp only [go_sem,seval,hmap]
  repeat' (first
   | ((refine hin.calls rfl ?_)<;>(try simp only [go_sem,seval,hmap]))
   | fail)
theorem bl3 (b n L:Nat) (hb8:b<=8) (hL:L<=1000000) (hn:n<=1000000):Gives Tryz.prog 113 [.int .i64 b,.int .i64 n,.int .i64 L] (.d (.int .i64 (min (I7 b L n 1) (L+1):Nat))):=by
 obtain ⟨W,hW⟩:∃W,I7 b L n 1=W:=⟨_,rfl⟩;rw [hW];have w3:IntKind.i64.wrap ((L:Int)+1)=(L:Int)+1:=l6 (by omega) (by omega);have hmin:∀k:Nat,(if (L:Int)+1<(k:Int) then (L:Int)+1 else (k:Int))=((min k (L+1):Nat):Int):=fun k=>by split<;>omega
 refine aE_ Tryz.func113 ?_;refine rS_ Tryz.func113 ?_;simp only [go_sem,seval];refine AW.lp [0,1,2] (fun u:Nat×Nat=>[(8,.d (.int .i64 (u.1:Int))),(7,.d (.int .i64 (u.2:Int)))]) (fun H _=>H) (fun u=>u.1<=n/\u.2<=(L+1) * 8/\I7 b L (n - u.1) u.2=W) (fun u=>n - u.1) (0,1) ⟨q_ _,by dsimp only;omega,hW⟩ H6 ?_;rintro ⟨i,k⟩ ⟨h1,h2,h3⟩ hnext;dsimp only at h1 h2 h3 hnext |-;have hnx:=fun i' k' s'=>hnext (i',k') s';clear hnext;have w2:IntKind.i64.wrap ((i:Int)+1)=((i+1:Nat):Int):=by rw [l6 (by omega) (by omega)];omega
 by_cases hi:i<n
 ·have n1:(i:Int)<(n:Int):=by omega
  by_cases hk:k<=L
  ·have n2:(k:Int)<=(L:Int):=by omega
   have hkb:k * b<=(L+1) * 8:=F_ (by omega) hb8;have w1:IntKind.i64.wrap ((k:Int) * (b:Int))=((k * b:Nat):Int):=by rw [<-Int.natCast_mul,l6 (by omega) (by omega)]
   have h4:I7 b L (n - (i+1)) (k * b)=W:=by
    rw [show n - i=(n - (i+1))+1 by omega] at h3;unfold I7 at h3;rw [if_pos hk] at h3;exact h3
   refine rS_ Tryz.func113 ?_;simp only [go_sem,seval,n1,n2,w1,w2];refine hnx (i+1) (k * b) _ ⟨by omega,hkb,h4⟩ (by dsimp only;omega) H6
  ·have n2:¬(k:Int)<=(L:Int):=by omega
   rw [aX8 hk] at h3;subst h3;refine rS_ Tryz.func113 ?_;simp only [go_sem,seval,n1,n2,w3];all_goals first | rfl | (exfalso;omega) | exact congrArg (fun x=>C.d (D.int IntKind.i64 x)) (hmin _)
 ·have n1:¬(i:Int)<(n:Int):=by omega
  rw [show n - i=0 by omega] at h3;unfold I7 at h3;subst h3;refine rS_ Tryz.func113 ?_;simp only [go_sem,seval,n1,w3];all_goals first | rfl | (exfalso;omega) | exact congrArg (fun x=>C.d (D.int IntKind.i64 x)) (hmin _)
theorem bh3 (b n L:Nat) (hb8:b<=8) (hL:L<=1000000) (hn:n<=1000000):Gives Tryz.prog 130 [.int .i64 b,.int .i64 n,.int .i64 L] (.d (.int .i64 (I7 b L n 1:Nat))):=by
 obtain ⟨W,hW⟩:∃W,I7 b L n 1=W:=⟨_,rfl⟩;rw [hW];have w3:IntKind.i64.wrap ((L:Int)+1)=(L:Int)+1:=l6 (by omega) (by omega);have hmin:∀k:Nat,(if (L:Int)+1<(k:Int) then (L:Int)+1 else (k:Int))=((min k (L+1):Nat):Int):=fun k=>by split<;>omega
 refine aE_ Tryz.func130 ?_;refine rS_ Tryz.func130 ?_;simp only [go_sem,seval];refine AW.lp [0,1,2] (fun u:Nat×Nat=>[(8,.d (.int .i64 (u.1:Int))),(7,.d (.int .i64 (u.2:Int)))]) (fun H _=>H) (fun u=>u.1<=n/\u.2<=(L+1) * 8/\I7 b L (n - u.1) u.2=W) (fun u=>n - u.1) (0,1) ⟨q_ _,by dsimp only;omega,hW⟩ H6 ?_;rintro ⟨i,k⟩ ⟨h1,h2,h3⟩ hnext;dsimp only at h1 h2 h3 hnext |-;have hnx:=fun i' k' s'=>hnext (i',k') s';clear hnext;have w2:IntKind.i64.wrap ((i:Int)+1)=((i+1:Nat):Int):=by rw [l6 (by omega) (by omega)];omega
 by_cases hi:i<n
 ·have n1:(i:Int)<(n:Int):=by omega
  by_cases hk:k<=L
  ·have n2:(k:Int)<=(L:Int):=by omega
   have hkb:k * b<=(L+1) * 8:=F_ (by omega) hb8;have w1:IntKind.i64.wrap ((k:Int) * (b:Int))=((k * b:Nat):Int):=by rw [<-Int.natCast_mul,l6 (by omega) (by omega)]
   have h4:I7 b L (n - (i+1)) (k * b)=W:=by
    rw [show n - i=(n - (i+1))+1 by omega] at h3;unfold I7 at h3;rw [if_pos hk] at h3;exact h3
   refine rS_ Tryz.func130 ?_;simp only [go_sem,seval,n1,n2,w1,w2];refine hnx (i+1) (k * b) _ ⟨by omega,hkb,h4⟩ (by dsimp only;omega) H6
  ·have n2:¬(k:Int)<=(L:Int):=by omega
   rw [aX8 hk] at h3;subst h3;refine rS_ Tryz.func130 ?_;simp only [go_sem,seval,n1,n2,w3];all_goals first | rfl | (exfalso;omega) | exact congrArg (fun x=>C.d (D.int IntKind.i64 x)) (hmin _)
 ·have n1:¬(i:Int)<(n:Int):=by omega
  rw [show n - i=0 by omega] at h3;unfold I7 at h3;subst h3;refine rS_ Tryz.func130 ?_;simp only [go_sem,seval,n1,w3];all_goals first | rfl | (exfalso;omega) | exact congrArg (fun x=>C.d (D.int IntKind.i64 x)) (hmin _)
theorem cq3 (a b:V):decide (a.cmp b=0)=decide (a=b):=by
 rw [u_,decide_eq_true_eq,decide_eq_true_eq];exact V.cmp_zero a b
theorem cp7 (x y:V) (q:List V):decide (x∈y :: q)=(decide (y=x) || decide (x∈q)):=by
 rw [u_];simp only [decide_eq_true_eq,Bool.or_eq_true,L_];exact ⟨fun h=>h.elim (fun e=>.inl e.symm) .inr,fun h=>h.elim (fun e=>.inl e.symm) .inr⟩
theorem bR7 (a b:Nat):(a:Int).tmod (b:Int)=((a % b:Nat):Int):=by rw [Int.tmod_eq_emod_of_nonneg (by omega)];omega
theorem bR8 (a b:Nat):(a:Int).tdiv (b:Int)=((a / b:Nat):Int):=by rw [Int.tdiv_eq_ediv_of_nonneg (by omega)];omega
theorem aj3 (u l:List V) (hu:u.length<=1000000):Gives Tryz.prog 114 [.sl (u.map V.enc),.sl (l.map V.enc)] (.d (.bool (l.all fun t=>decide (t∈u)))):=by
 obtain ⟨K,hK⟩:∃K,(l.all fun t=>decide (t∈u))=K:=⟨_,rfl⟩;rw [hK];refine aE_ Tryz.func114 ?_;refine rS_ Tryz.func114 ?_;simp only [go_sem,seval];refine AW.rng l [0,10,11] 12 10 (fun _:Unit=>[]) (fun H _=>H) (fun r _=>(r.all fun t=>decide (t∈u))=K) () rfl (by simp) hK H6 (fun i x r p hxi hdr hlt hm hinv hnext=>?_) (fun p hinv=>?_)
 ·rw [e_] at hinv
  refine rS_ Tryz.func114 ?_;simp only [go_sem,seval,hlt,d9 hxi];refine AW.rng u [0,6,10,11,12,16,17] 18 16 (fun b:Bool=>[(7,.d (.bool b))]) (fun H _=>H) (fun r b=>(b || decide (x∈r))=decide (x∈u)) false rfl (by simp) (by simp) A8 (fun j y q b hyj hdr2 hlt2 hm2 hinv2 hnext2=>?_) (fun b hinv2=>?_)
  ·have he:=P6 y x
   rw [cq3] at he;rw [cp7,<-Bool.or_assoc] at hinv2;cases b with
   | true =>
    refine rS_ Tryz.func114 ?_;simp only [go_sem,seval,hlt2,d9 hyj]
    repeat' (first
     | (simp (disch:=omega) only [l6])
     | (refine hnext2 true _ (by simpa using hinv2) A8)
     | fail)
   | false =>
    rw [Bool.false_or] at hinv2;generalize decide (y=x)=b2 at he hinv2;refine rS_ Tryz.func114 ?_;simp only [go_sem,seval,hlt2,d9 hyj]
    repeat' (first
     | (simp (disch:=omega) only [l6])
     | (refine hnext2 b2 _ hinv2 A8)
     | ((refine he.calls rfl ?_)<;>(try simp only [go_sem,seval,hlt2,d9 hyj]))
     | fail)
  ·simp only [List.not_mem_nil,decide_false,Bool.or_false] at hinv2
   rw [<-hinv2] at hinv;cases b with
   | true =>
    rw [k_] at hinv;refine rS_ Tryz.func114 ?_;simp only [go_sem,seval]
    repeat' (first
     | (simp (disch:=omega) only [l6])
     | (refine hnext () _ hinv H6)
     | fail)
   | false =>
    rw [l_] at hinv;rw [<-hinv];refine rS_ Tryz.func114 ?_;simp only [go_sem,seval]
 ·rw [<-hinv]
  refine rS_ Tryz.func114 ?_;simp only [go_sem,seval];all_goals rfl
theorem ay3 (u:List V) (x:V) (hu:u.length<=1000000):Gives Tryz.prog 159 [.sl (u.map V.enc),.agg x.enc] (.d (.bool (decide (x∈u)))):=by
 obtain ⟨K,hK⟩:∃K,decide (x∈u)=K:=⟨_,rfl⟩;rw [hK];refine aE_ Tryz.func159 ?_;refine rS_ Tryz.func159 ?_;simp only [go_sem,seval];refine AW.rng u [3,7,8] 9 7 (fun _:Unit=>[]) (fun H _=>H) (fun r _=>decide (x∈r)=K) () rfl (by simp) hK A8 (fun j y q b hyj hdr2 hlt2 hm2 hinv2 hnext2=>?_) (fun b hinv2=>?_)
 ·have he:=X5 y x
  rw [cq3] at he;rw [cp7] at hinv2;generalize decide (y=x)=b2 at he hinv2;cases b2 with
  | true =>
   rw [Bool.true_or] at hinv2;rw [<-hinv2];refine rS_ Tryz.func159 ?_;simp only [go_sem,seval,hlt2,d9 hyj]
   repeat' (first
    | ((refine he.calls rfl ?_)<;>(try simp only [go_sem,seval,hlt2,d9 hyj]))
    | fail)
  | false =>
   rw [Bool.false_or] at hinv2;refine rS_ Tryz.func159 ?_;simp only [go_sem,seval,hlt2,d9 hyj]
   repeat' (first
    | (simp (disch:=omega) only [l6])
    | (refine hnext2 () _ hinv2 A8)
    | ((refine he.calls rfl ?_)<;>(try simp only [go_sem,seval,hlt2,d9 hyj]))
    | fail)
 ·rw [<-hinv2]
  refine rS_ Tryz.func159 ?_;simp only [go_sem,seval];all_goals rfl
theorem an8 (fs:List FcV) (u:List V) (hu:u.length<=1000000):Gives Tryz.prog 132 [.sl (fs.map fcE),.sl (u.map V.enc)] (.d (.bool (fs.all (aH0 u)))):=by
 obtain ⟨K,hK⟩:∃K,fs.all (aH0 u)=K:=⟨_,rfl⟩;rw [hK];refine aE_ Tryz.func132 ?_;refine rS_ Tryz.func132 ?_;simp only [go_sem,seval];refine AW.rng fs [1,9,10] 11 9 (fun _:Unit=>[]) (fun H _=>H) (fun r _=>r.all (aH0 u)=K) () rfl (by simp) hK H6 (fun i x r p hxi hdr hlt hm hinv hnext=>?_) (fun p hinv=>?_)
 ·rw [e_] at hinv
  have hxe:=o8 x;have hin:aH0 u x=x.2.all fun t=>decide (t∈u):=rfl;rw [hin] at hinv;generalize hL:x.2=L at *;refine rS_ Tryz.func132 ?_;simp only [go_sem,seval,hlt,d9 hxi,hxe];refine AW.rng L [1,9,10,11,16,17] 18 16 (fun _:Unit=>[]) (fun H _=>H) (fun q _=>((q.all fun t=>decide (t∈u)) && r.all (aH0 u))=K) () rfl (by simp) hinv A8 (fun j y q b hyj hdr2 hlt2 hm2 hinv2 hnext2=>?_) (fun b hinv2=>?_)
  ·have he:=ay3 u y hu
   rw [e_] at hinv2;generalize decide (y∈u)=b2 at he hinv2;cases b2 with
   | true =>
    rw [k_] at hinv2;refine rS_ Tryz.func132 ?_;simp only [go_sem,seval,hlt2,d9 hyj]
    repeat' (first
     | (simp (disch:=omega) only [l6])
     | (refine hnext2 () _ hinv2 A8)
     | ((refine he.calls rfl ?_)<;>(try simp only [go_sem,seval,hlt2,d9 hyj]))
     | fail)
   | false =>
    simp only [l_] at hinv2;rw [<-hinv2];refine rS_ Tryz.func132 ?_;simp only [go_sem,seval,hlt2,d9 hyj]
    repeat' (first
     | ((refine he.calls rfl ?_)<;>(try simp only [go_sem,seval,hlt2,d9 hyj]))
     | fail)
  ·rw [g_,k_] at hinv2
   refine rS_ Tryz.func132 ?_;simp only [go_sem,seval]
   repeat' (first
    | (simp (disch:=omega) only [l6])
    | (refine hnext () _ hinv2 H6)
    | fail)
 ·rw [<-hinv]
  refine rS_ Tryz.func132 ?_;simp only [go_sem,seval];all_goals rfl
theorem aN6 (u:List V) (n k:Nat) (hu1:1<=u.length) (hu:u.length<=1000000) (hk:k<=1000000) (hn:n<=1000000):Gives Tryz.prog 131 [.sl (C8 ((List.range n).map fun i:Nat=>(i:Int))),.sl (u.map V.enc),.int .i64 k] (.d (.sl (bdD (G6 u n k)))):=by
 have hmx:maxLen=9223372036854775807:=rfl;have hml:(u.map V.enc).length=u.length:=i_ _;obtain ⟨G,hG⟩:∃G,G6 u n k=G:=⟨_,rfl⟩;have hGl:G.length=n:=by rw [<-hG];exact R4 u n k
 rw [hG];obtain ⟨zs,hzs⟩:∃zs:List Int,((List.range n).map fun i:Nat=>(i:Int))=zs:=⟨_,rfl⟩;have hzl:zs.length=n:=by rw [<-hzs];simp
 have hza:∀(i:Nat) (z:Int),zs[i]? = some z->z=(i:Int):=fun i z h=>by
  rw [<-hzs,v_,Option.map_eq_some_iff] at h;obtain ⟨j,h1,h2⟩:=h;have h3:=(h_.1 h1).1;rw [List.getElem?_range (by simpa using h3)] at h1;cases h1;exact h2.symm
 rw [hzs];refine aE_ Tryz.func131 ?_;refine l7 Tryz.func131 mixed 5 _ _ (by kernel_rfl) ?_;simp only [go_sem,seval,run.eq_1];refine AW.adopt 7 5 138 (by decide) rfl ?_;refine rS_ Tryz.func131 ?_;simp only [go_sem,seval,aj1];refine AW.rng zs [1,11,12] 13 11 (fun w:List V×Nat=>[(2,.d (.int .i64 (w.2:Int))),(7,.own 0 w.1.length)]) (fun _ w=>[.grow w.1.length 5 138 (bdD w.1)]) (fun r w=>w.1++G6 u r.length w.2=G/\w.1.length+r.length=n/\w.2<=k) ([],k) rfl (by simp [C8,hzl]) ⟨by rw [hzl];exact hG,by simp [hzl],b_ _⟩ (by refine ⟨by simp [mkS,bdD,ax9],by simp [mkS,bdD,ax9],by simp only [mkS,e_,g_,O.refsLt,C.refsLt,C.refsLt1,o5];first | done | rfl | (simp;done),?_⟩;simp [mkS,Abs.get,C.refsLtT,C.refsLt,C.refsLt1,bdD,ax9]) (fun i z r w hxi hdr hlt hm hinv hnext=>?_) (fun w hinv=>?_)
 ·obtain ⟨w,x⟩:=w
  obtain ⟨i1,i2,i3⟩:=hinv;dsimp only at i1 i2 i3 hnext |-;have hnx:=fun w' x' s'=>hnext (w',x') s';clear hnext;have hdl:=congrArg List.length hdr;simp only [r_,f_] at hdl i1 i2;have hi:i=w.length:=by omega
  obtain rfl:=hza i z hxi;have hxd:(C8 zs)[i]? = some [.int .i64 (i:Int)]:=by simp [C8,hxi]
  have hm1:x % u.length<u.length:=Nat.mod_lt _ (by omega);obtain ⟨v,hv⟩:∃v,u[x % u.length]? = some v:=⟨_,m_ hm1⟩;have hve:u.getD (x % u.length) .nil=v:=by rw [J_,hv];rfl
  have hvd:(u.map V.enc)[x % u.length]? = some v.enc:=by rw [v_,hv];rfl
  have hdv:x / u.length<=x:=Nat.div_le_self _ _;have hrm:=bR7 x u.length;have hqd:=bR8 x u.length;have h0:¬(u.length:Int)=0:=by omega
  have hre:G6 u (r.length+1) x=v :: G6 u r.length (x / u.length):=by rw [<-hve];rfl
  rw [hre] at i1;clear hve hre;generalize x % u.length=xm at *;generalize x / u.length=xq at *;have w1:IntKind.i64.wrap (xq:Int)=(xq:Int):=l6 (by omega) (by omega);have n2:(xm:Int)<(u.length:Int):=by omega
  have hbln:(bdD w).length=w.length:=by unfold bdD;rw [i_,ad4]
  have hbw5:∀y,y∈bdD w->y.length=5:=fun y hy=>by obtain ⟨b,_,rfl⟩:=B_.1 hy;exact Bd.enc_len b
  have hbs:bdD (w++[v])=bdD w++[[.int .i64 (i:Int),.int .i64 v.kind,.int .i64 v.int,.str v.name,.sl (v.kids.map V.enc)]]:=by
   unfold bdD;rw [aw9,H_,w_,o_];congr 2;rw [hi,Nat.zero_add];show [D.int .i64 _]++V.enc v=_;rw [V.enc_eq];rfl
  have hhv:=V.enc_eq v;generalize hBD:bdD w=BD at *;refine rS_ Tryz.func131 ?_;simp only [go_sem,seval,hlt,d9 hxd,d9 hvd,hrm,hqd,h0,w1,n2,hml,hhv]
  repeat' (first
   | (simp (disch:=omega) only [l6])
   | ((refine ⟨sd,?_⟩)<;>(try simp only [go_sem,seval,hlt,d9 hxd,d9 hvd,hrm,hqd,h0,w1,n2,hml,hhv]))
   | fail)
  refine hnx (w++[v]) xq _ ⟨by rw [<-i1];simp,by simp;omega,by omega⟩ (by refine ⟨by simp [mkS,hbs],by simp [mkS,hbs],by simp only [mkS,e_,g_,O.refsLt,C.refsLt,C.refsLt1,o5];first | done | rfl | (simp;done),?_⟩;simp [mkS,Abs.get,C.refsLtT,C.refsLt,C.refsLt1,hbs])
 ·obtain ⟨w,x⟩:=w
  obtain ⟨i1,i2,i3⟩:=hinv;dsimp only [t_,G6] at i1;rw [d_] at i1;dsimp only;subst i1;refine rS_ Tryz.func131 ?_;simp only [go_sem,seval]
def cpT (t:V):Prop:=l8 Tryz.prog 96 [.d (.agg t.enc)] [.hole] fun c H'=>c=.agg [.d (.int .i64 t.kind),.d (.int .i64 t.int),.d (.str t.name),.own 0 1]/\∃e B,H'=[.tree 1 4 e (t.kids.map V.enc) B none]
theorem aC6:∀t:V,cpT t:=by
 intro t;induction t with
 | pair x y ihx ihy =>
  unfold cpT;refine aE_ Tryz.func96 ?_;refine AW.hole ?_;refine AW.hole ?_;refine l7 Tryz.func96 mixed 8 _ _ (by kernel_rfl) ?_;simp only [go_sem,seval,run.eq_1,V.kind,V.int,V.kids];all_goals first | (exact absurd hq (by decide)) | skip
  have hk:(V.pair x y).kids=[x,y]:=rfl;refine AW.drawA mixed #[true,true,true,true,true,true,true,true,true,true,true,true,false] [(3,.box ((V.pair x y).enc.map .d))] [] [0,1,2,3,5,6,7,8,4,9,10,11] [12] none (by kernel_rfl) trivial (by simp [x9]) ?_;simp only [go_sem,seval,hk]
  repeat' (first
   | ((first
    | (refine l8.fresh (ds:=[.agg x.enc]) (m:=1) ihx [1] rfl rfl (by simp) (by simp) ?_<;>(rintro c H' ⟨rfl,e1,B1,rfl⟩ _;refine ⟨rfl,rfl,?_⟩))
    | (refine l8.fresh (ds:=[.agg y.enc]) (m:=1) ihy [2] rfl rfl (by simp) (by simp) ?_<;>(rintro c H' ⟨rfl,e2,B2,rfl⟩ _;refine ⟨rfl,rfl,?_⟩))
    | (refine L6 (fun Bz=>?_)))<;>(try simp only [go_sem,seval,hk]))
   | fail)
  refine AW.placeB 4 3 5 0 rfl rfl rfl rfl (by decide) ?_;refine rS_ Tryz.func96 ?_;simp only [go_sem,seval];refine ⟨rfl,60,Bz,?_⟩;rw [V.enc_eq x,V.enc_eq y]
 | nil =>
  unfold cpT;refine aE_ Tryz.func96 ?_;refine l7 Tryz.func96 mixed 8 _ _ (by kernel_rfl) ?_;simp only [go_sem,seval,run.eq_1,V.kind,V.int,V.kids];all_goals first | (exact absurd hq (by decide)) | skip
  refine AW.adoptTB 2 3 4 0 (by decide) rfl rfl ?_;refine AW.placeB 2 3 3 0 rfl rfl rfl rfl (by decide) ?_;refine rS_ Tryz.func96 ?_;simp only [go_sem,seval];exact ⟨_,_,rfl⟩
 | var n =>
  unfold cpT;refine aE_ Tryz.func96 ?_;refine l7 Tryz.func96 mixed 8 _ _ (by kernel_rfl) ?_;simp only [go_sem,seval,run.eq_1,V.kind,V.int,V.kids];all_goals first | (exact absurd hq (by decide)) | skip
  refine AW.adoptTB 2 3 4 0 (by decide) rfl rfl ?_;refine AW.placeB 2 3 3 0 rfl rfl rfl rfl (by decide) ?_;refine rS_ Tryz.func96 ?_;simp only [go_sem,seval];exact ⟨_,_,rfl⟩
 | sym s =>
  unfold cpT;refine aE_ Tryz.func96 ?_;refine l7 Tryz.func96 mixed 8 _ _ (by kernel_rfl) ?_;simp only [go_sem,seval,run.eq_1,V.kind,V.int,V.kids];all_goals first | (exact absurd hq (by decide)) | skip
  refine AW.adoptTB 2 3 4 0 (by decide) rfl rfl ?_;refine AW.placeB 2 3 3 0 rfl rfl rfl rfl (by decide) ?_;refine rS_ Tryz.func96 ?_;simp only [go_sem,seval];exact ⟨_,_,rfl⟩
 | num n =>
  unfold cpT;refine aE_ Tryz.func96 ?_;refine l7 Tryz.func96 mixed 8 _ _ (by kernel_rfl) ?_;simp only [go_sem,seval,run.eq_1,V.kind,V.int,V.kids];all_goals first | (exact absurd hq (by decide)) | skip
  refine AW.adoptTB 2 3 4 0 (by decide) rfl rfl ?_;refine AW.placeB 2 3 3 0 rfl rfl rfl rfl (by decide) ?_;refine rS_ Tryz.func96 ?_;simp only [go_sem,seval];exact ⟨_,_,rfl⟩
def ca5 (l:List V):Prop:=l8 Tryz.prog 51 [.d (.sl (l.map V.enc))] [.hole] fun c H'=>c=.own 0 1/\∃e B,H'=[.tree 1 4 e (l.map V.enc) B none]
theorem aw4 (l:List V) (hl:l.length<=100000000):ca5 l:=by
 have hmx:maxLen=9223372036854775807:=rfl;unfold ca5;refine aE_ Tryz.func51 ?_;refine l7 Tryz.func51 mixed 5 _ _ (by kernel_rfl) ?_;simp only [go_sem,seval,run.eq_1];refine AW.adoptT 3 4 60 (by decide) rfl ?_;refine rS_ Tryz.func51 ?_;simp only [go_sem,seval];refine AW.rng l [7,8] 9 7 (fun p:List V×(Nat->Prop)=>[(3,.own 1 p.1.length)]) (fun _ p=>[.hole,.tree p.1.length 4 60 (p.1.map V.enc) p.2 none]) (fun r p=>p.1++r=l) ([],fun _=>False) rfl (by simp) rfl A8 (fun i x r p hxi hdr hlt hm hinv hnext=>?_) (fun p hinv=>?_)
 ·have hpl:p.1.length+(r.length+1)=l.length:=by rw [<-hinv];simp
  have hx:=aC6 x;refine AW.hole ?_;refine l7 Tryz.func51 mixed 9 _ _ (by kernel_rfl) ?_;simp only [go_sem,seval,run.eq_1,hlt,d9 hxi];refine AW.regT ?_;simp only [go_sem,seval]
  repeat' (first
   | ((first
    | (refine l8.fresh (ds:=[.agg x.enc]) (m:=1) hx [2] rfl rfl (by simp) (by simp) ?_<;>(rintro c H' ⟨rfl,e1,B1,rfl⟩ _;refine ⟨rfl,rfl,?_⟩))
    | (refine L6 (fun Bz=>?_))
    | (refine ⟨sd,?_⟩))<;>(try simp only [go_sem,seval,hlt,d9 hxi]))
   | fail)
  refine rS_ Tryz.func51 ?_;simp only [go_sem,seval];try simp (disch:=omega) only [l6]
  refine hnext (p.1++[x],Bz) _ (by simp [<-hinv]) (by refine ⟨by simp [mkS,V.enc_eq x],by simp [mkS,V.enc_eq x],by simp only [mkS,e_,g_,O.refsLt,C.refsLt,C.refsLt1,o5];first | done | rfl | (simp;done),?_⟩;simp [mkS,Abs.get,C.refsLtT,C.refsLt,C.refsLt1])
 ·simp only [d_] at hinv
  subst hinv;refine l7 Tryz.func51 mixed 7 _ _ (by kernel_rfl) ?_;simp only [go_sem,seval,run.eq_1];refine AW.place 2 1 0 rfl rfl rfl (by decide) ?_;refine rS_ Tryz.func51 ?_;simp only [go_sem,seval];all_goals exact ⟨_,_,rfl⟩
theorem aV9 (v:V):Gives Tryz.prog 96 [.agg v.enc] (.d (.agg v.enc)):=by
 have h:=aC6 v;unfold cpT at h;refine l8.frozen (ds:=[.agg v.enc]) (m:=1) h (fun c H' ⟨h1,e,B,h2⟩ _=>?_);subst h1 h2;rw [V.enc_eq v];rfl
theorem bK3 (a b:V):Gives Tryz.prog 168 [.agg a.enc,.agg b.enc] (.d (.agg (V.pair a b).enc)):=by
 rw [V.enc_pair];refine aE_ Tryz.func168 ?_;refine rS_ Tryz.func168 ?_;simp only [go_sem,seval]
theorem bf4 {g:FuncId} {caps:List C} {m:Nat} {H:List O} {Q:Int->Prop} {fv:Int->V} (h:CloR Tryz.prog g caps m (fun n:Int=>D.int .i64 n) H Q (fun n=>.tup [.d (.agg (fv n).enc),.d (.bool true)])) :
  ∀v:V,(∀n,n∈v.vars->Q n)->l8 Tryz.prog 149 [.d (.agg v.enc),.fn g caps] H (fun c H'=>c=.d (.agg (v.sub fv).enc)/\H'=H):=by
 intro v;induction v with
 | pair x y ihx ihy =>
  intro hq;have hx:=ihx (fun n hn=>hq n (by simp [V.vars,hn]));have hy:=ihy (fun n hn=>hq n (by simp [V.vars,hn]));simp only [V.sub];refine aE_ Tryz.func149 ?_;refine l7 Tryz.func149 mixed 13 _ _ (by kernel_rfl) ?_;simp only [go_sem,seval,run.eq_1,h.len,h.go,h.at0,h.atj,h.set0,h.setj,h.tk,h.tk0,h.tkj,h.refs,h.refsj,h.hcaps,h.capsj,a_,V.kind,V.int,V.kids];refine AW.drawA mixed #[true,true,true,true,true,true,true,true,true,true,true,true,true,false] [(m,.box ((V.pair x y).enc.map .d))] [] [0,1,2,3,4,6,7,8,9,10,5,11,12] [13] none (by kernel_rfl) trivial (by simp [x9,h.at0]) ?_;simp only [go_sem,seval,h.len,h.go,h.at0,h.atj,h.set0,h.setj,h.tk,h.tk0,h.tkj,h.refs,h.refsj,h.hcaps,h.capsj,a_,V.kind,V.int,V.kids]
  repeat' (first
   | ((first
    | (refine h.sub hx ?_)
    | (refine h.sub hy ?_)
    | (refine (bK3 _ _).calls rfl ?_))<;>(try simp only [go_sem,seval,h.len,h.go,h.at0,h.atj,h.set0,h.setj,h.tk,h.tk0,h.tkj,h.refs,h.refsj,h.hcaps,h.capsj,a_,V.kind,V.int,V.kids]))
   | fail)
  refine rS_ Tryz.func149 ?_;simp only [go_sem,seval,h.len,h.go,h.at0,h.atj,h.set0,h.setj,h.tk,h.tk0,h.tkj,h.refs,h.refsj,h.hcaps,h.capsj,a_]
 | var n =>
  intro hq;have hn:=hq n (by simp [V.vars]);simp only [V.sub];refine aE_ Tryz.func149 ?_;refine rS_ Tryz.func149 ?_;simp only [go_sem,seval,h.len,h.go,h.at0,h.atj,h.set0,h.setj,h.tk,h.tk0,h.tkj,h.refs,h.refsj,h.hcaps,h.capsj,a_,V.kind,V.int,V.kids]
  repeat' (first
   | ((first
    | (refine h.on hn ?_)
    | (refine (aV9 _).calls rfl ?_))<;>(try simp only [go_sem,seval,h.len,h.go,h.at0,h.atj,h.set0,h.setj,h.tk,h.tk0,h.tkj,h.refs,h.refsj,h.hcaps,h.capsj,a_,V.kind,V.int,V.kids]))
   | fail)
 | _ =>
  intro hq;simp only [V.sub];refine aE_ Tryz.func149 ?_;refine rS_ Tryz.func149 ?_;simp only [go_sem,seval,h.len,h.go,h.at0,h.atj,h.set0,h.setj,h.tk,h.tk0,h.tkj,h.refs,h.refsj,h.hcaps,h.capsj,a_,V.kind,V.int,V.kids]
theorem bl2 (tb:List D) (vs:List V):CloR Tryz.prog 150 [.ptr 1 0] 3 (fun n:Int=>D.int .i64 n) [.box (tb.map .d),.box [.d (.sl (vs.map V.enc))],.box [.d (.int .i64 0),.d (.int .i64 0),.d (.str []),.nil0]] (fun n=>0<=n/\n<vs.length) (fun n=>.tup [.d (.agg (o6 vs n).enc),.d (.bool true)]):=by
 have e1:=fun n (h:0<=n/\n<(vs.length:Int))=>aX5 h.1 h.2;refine ⟨by kernel_rfl,rfl,rfl,by simp only [e_,g_,O.refsLt,o5,C.refsLt,C.refsLt1];rfl,fun n hn=>?_⟩;have hat:(vs.map V.enc)[n.toNat]? = some (o6 vs n).enc:=by rw [v_,e1 n hn];rfl
 have hl:=hn.2;have h0:=hn.1;refine aE_ Tryz.func150 ?_;refine rS_ Tryz.func150 ?_;simp only [go_sem,seval,d9 hat]
 repeat' (first
  | ((refine ⟨sd,?_⟩)<;>(try simp only [go_sem,seval,d9 hat]))
  | fail)
 all_goals simp only [o5]
theorem bl1 (v:V) (vs:List V) (hv:∀n,n∈v.vars->0<=n/\n<vs.length):Gives Tryz.prog 108 [.agg v.enc,.sl (vs.map V.enc)] (.d (.agg (v.sub (o6 vs)).enc)):=by
 have e1:=bf4 (bl2 v.enc vs) v (fun n hn=>by have:=hv n hn;omega);refine aE_ Tryz.func108 ?_;refine rS_ Tryz.func108 ?_;simp only [go_sem,seval]
 repeat' (first
  | ((refine l8.mono e1 ?_<;>(rintro c H' ⟨rfl,rfl⟩))<;>(try simp only [go_sem,seval]))
  | fail)
theorem ag4 (g:Gl) (vs:List V) (hg:g.inst vs.length):Gives Tryz.prog 64 [.agg g.enc,.sl (vs.map V.enc)] (.d (.agg (FcV.fc (g.callV (o6 vs))).enc)):=by
 have hmx:maxLen=9223372036854775807:=rfl;have hln:=(Gl.shape_len hg.1).1;have hit:=Gl.inst_terms hg;have hR:(FcV.fc (g.callV (o6 vs))).enc=[.str g.name,.sl ((g.terms.map fun t=>t.V.sub (o6 vs)).map V.enc)]:=by rw [Fc.enc_eq];simp only [FcV.fc,Gl.callV,D6]
 rw [hR];refine aE_ Tryz.func64 ?_;refine l7 Tryz.func64 mixed 5 _ _ (by kernel_rfl) ?_;simp only [go_sem,seval,run.eq_1];refine AW.adoptGB 2 1 4 60 (by decide) rfl rfl ?_;refine rS_ Tryz.func64 ?_;simp only [go_sem,seval];refine AW.rng g.terms [1,4,5,12,13] 14 12 (fun p:List V=>[]) (fun _ p=>[.box (g.enc.map .d),.box [.d (.str []),.nil0],.box [.d (.str g.name),.own 3 p.length],.grow p.length 4 60 (p.map V.enc)]) (fun r p=>p++r.map (fun t=>t.V.sub (o6 vs))=g.terms.map fun t=>t.V.sub (o6 vs)) [] rfl (by simp) rfl A8 (fun i x r p hxi hdr hlt hm hinv hnext=>?_) (fun p hinv=>?_)
 ·have hxm:=c_ hxi
  obtain ⟨he,hv⟩:=hit x hxm;have hw:=bl1 x.V vs (fun n hn=>by have:=hv n hn;omega);rw [<-he] at hw;have hpl:p.length+(r.length+1)=g.terms.length:=by have:=congrArg List.length hinv;simpa using this
  refine l7 Tryz.func64 mixed 9 _ _ (by kernel_rfl) ?_;simp only [go_sem,seval,run.eq_1,hlt,d9 hxi];refine AW.drawA mixed #[true,true,true,true,true,true,true,false,false] [(2,.box [.d (.str g.name),.own 3 p.length]),(4,.box (x.enc.map .d))] [] [0,1,2,3,4,5,6] [7,8] none (by kernel_rfl) trivial (by simp [x9]) ?_;simp only [go_sem,seval]
  repeat' (first
   | ((first
    | (refine hw.calls rfl ?_)
    | (refine ⟨sd,?_⟩))<;>(try simp only [go_sem,seval]))
   | fail)
  refine rS_ Tryz.func64 ?_;simp only [go_sem,seval]
  repeat' (first
   | (simp (disch:=omega) only [l6])
   | fail)
  refine hnext (p++[x.V.sub (o6 vs)]) _ (by rw [<-hinv];simp) A8
 ·simp only [o_,d_] at hinv
  rw [<-hinv];refine rS_ Tryz.func64 ?_;simp only [go_sem,seval]
theorem bx8 {f:Int->V} {g:Gl} (h:7<=g.kind):g.testV f=false:=by
 unfold Gl.testV;split<;>first | rfl | omega
theorem ar0 (g:Gl) (vs:List V) (hg:g.inst vs.length):Gives Tryz.prog 65 [.agg g.enc,.sl (vs.map V.enc)] (.d (.bool (g.testV (o6 vs)))):=by
 have hmx:maxLen=9223372036854775807:=rfl;have hln:=(Gl.shape_len hg.1).1;have hit:=Gl.inst_terms hg;refine aE_ Tryz.func65 ?_;refine l7 Tryz.func65 mixed 5 _ _ (by kernel_rfl) ?_;simp only [go_sem,seval,run.eq_1];refine AW.adoptGB 1 2 4 60 (by decide) rfl rfl ?_;refine rS_ Tryz.func65 ?_;simp only [go_sem,seval];refine AW.rng g.terms [1,2,5,12,13] 14 12 (fun p:List V=>[]) (fun _ p=>[.box (g.enc.map .d),.box [.d (.int .i64 g.kind),.d (.str []),.own 2 p.length,.nil0],.grow p.length 4 60 (p.map V.enc)]) (fun r p=>p++r.map (fun t=>t.V.sub (o6 vs))=g.terms.map fun t=>t.V.sub (o6 vs)) [] rfl (by simp) rfl A8 (fun i x r p hxi hdr hlt hm hinv hnext=>?_) (fun p hinv=>?_)
 ·have hxm:=c_ hxi
  obtain ⟨he,hv⟩:=hit x hxm;have hw:=bl1 x.V vs (fun n hn=>by have:=hv n hn;omega);rw [<-he] at hw;have hpl:p.length+(r.length+1)=g.terms.length:=by have:=congrArg List.length hinv;simpa using this
  refine l7 Tryz.func65 mixed 9 _ _ (by kernel_rfl) ?_;simp only [go_sem,seval,run.eq_1,hlt,d9 hxi];refine AW.drawA mixed #[true,true,true,true,true,true,true,false,false] [(1,.box [.d (.int .i64 g.kind),.d (.str []),.own 2 p.length,.nil0]),(3,.box (x.enc.map .d))] [] [0,1,2,3,4,5,6] [7,8] none (by kernel_rfl) trivial (by simp [x9]) ?_;simp only [go_sem,seval]
  repeat' (first
   | ((first
    | (refine hw.calls rfl ?_)
    | (refine ⟨sd,?_⟩))<;>(try simp only [go_sem,seval]))
   | fail)
  refine rS_ Tryz.func65 ?_;simp only [go_sem,seval]
  repeat' (first
   | (simp (disch:=omega) only [l6])
   | fail)
  refine hnext (p++[x.V.sub (o6 vs)]) _ (by rw [<-hinv];simp) A8
 ·simp only [o_,d_] at hinv
  subst hinv;rcases Gl.shape_cases hg.1 with ⟨hkk,ht⟩ | ⟨hkk,a,b,ht,ha,hb⟩ | ⟨hkk,a,ht,ha⟩ | h7
  ·have hL:(g.terms.map fun t=>t.V.sub (o6 vs))=[]:=by rw [ht];rfl
   rcases hkk with hkk | hkk
   ·have hT:g.testV (o6 vs)=true:=by simp [Gl.testV,hkk]
    rw [hT];refine rS_ Tryz.func65 ?_;simp only [go_sem,seval,hkk,hL];all_goals first | rfl | (exfalso;omega) | (simp_all;done) | (simp_all;omega)
   ·have hT:g.testV (o6 vs)=false:=by simp [Gl.testV,hkk]
    rw [hT];refine rS_ Tryz.func65 ?_;simp only [go_sem,seval,hkk,hL];all_goals first | rfl | (exfalso;omega) | (simp_all;done) | (simp_all;omega)
  ·have hL:(g.terms.map fun t=>t.V.sub (o6 vs))=[a.V.sub (o6 vs),b.V.sub (o6 vs)]:=by rw [ht];rfl
   rcases hkk with hkk | hkk | hkk
   ·have hT:g.testV (o6 vs)=decide ((a.V.sub (o6 vs)).cmp (b.V.sub (o6 vs))=0):=by simp [Gl.testV,hkk,ht]
    rw [hT];refine rS_ Tryz.func65 ?_;simp only [go_sem,seval,hkk,hL]
    repeat' (first
     | ((refine (P6 _ _).callQ rfl ?_)<;>(try simp only [go_sem,seval,hkk,hL]))
     | fail)
    all_goals first | rfl | (exfalso;omega) | (simp_all;done) | (simp_all;omega)
   ·have hT:g.testV (o6 vs)=!decide ((a.V.sub (o6 vs)).cmp (b.V.sub (o6 vs))=0):=by simp [Gl.testV,hkk,ht]
    rw [hT];refine rS_ Tryz.func65 ?_;simp only [go_sem,seval,hkk,hL]
    repeat' (first
     | ((refine (P6 _ _).callQ rfl ?_)<;>(try simp only [go_sem,seval,hkk,hL]))
     | fail)
    all_goals first | rfl | (exfalso;omega) | (simp_all;done) | (simp_all;omega)
   ·have hT:g.testV (o6 vs)=!(b.V.sub (o6 vs)).has (a.V.sub (o6 vs)).name:=by simp [Gl.testV,hkk,ht]
    rw [hT];refine rS_ Tryz.func65 ?_;simp only [go_sem,seval,hkk,hL]
    repeat' (first
     | ((refine (ao1 _ _).callQ rfl ?_)<;>(try simp only [go_sem,seval,hkk,hL]))
     | fail)
    all_goals first | rfl | (exfalso;omega) | (simp_all;done) | (simp_all;omega)
  ·have hL:(g.terms.map fun t=>t.V.sub (o6 vs))=[a.V.sub (o6 vs)]:=by rw [ht];rfl
   rcases hkk with hkk | hkk
   ·have hT:g.testV (o6 vs)=decide ((a.V.sub (o6 vs)).kind=2):=by simp [Gl.testV,hkk,ht]
    rw [hT];refine rS_ Tryz.func65 ?_;simp only [go_sem,seval,hkk,hL];all_goals first | rfl | (exfalso;omega) | (simp_all;done) | (simp_all;omega)
   ·have hT:g.testV (o6 vs)=decide ((a.V.sub (o6 vs)).kind=3):=by simp [Gl.testV,hkk,ht]
    rw [hT];refine rS_ Tryz.func65 ?_;simp only [go_sem,seval,hkk,hL];all_goals first | rfl | (exfalso;omega) | (simp_all;done) | (simp_all;omega)
  ·rw [bx8 h7]
   refine rS_ Tryz.func65 ?_;simp only [go_sem,seval]
   repeat' (first
    | ((first | (refine C9 (fun hq=>?_) (fun hq=>?_)) | (refine y7 (fun x hx=>have hq:=hx;?_)))<;>(try simp only [go_sem,seval,hq]))
    | ((first
     | (refine (P6 _ _).callQ rfl ?_)
     | (refine (ao1 _ _).callQ rfl ?_)
     | (refine ⟨sd,?_⟩))<;>(try simp only [go_sem,seval]))
    | fail)
   all_goals first | rfl | (exfalso;omega)
theorem an3 (p:Pg) (hok:N9 p=true) (t:Pf) (ht:p.prf t=true):Gives Tryz.prog 26 [.agg p.enc,.agg t.enc] (.d (.agg (FcV.fc (p.headV t.rel t.values)).enc)):=by
 obtain ⟨h0,r,hr,hl,hg,hh⟩:=Pg.prf_head ht;obtain ⟨_,ha,hb,_⟩:=Pg.body_inst hok (c_ hr) (m:=t.values.length) hl;have hR:(FcV.fc (p.headV t.rel t.values)).enc=[.str t.rel,.sl ((t.values.take r.arity.toNat).map Tm.enc)]:=by
  rw [Fc.enc_eq,hh];simp only [FcV.fc,List.map_take];rw [<-ab4 hg]
 rw [hR];have hre:(p.rels.map Rl.enc)[(p.find t.rel).toNat]? = some r.enc:=by simp [hr]
 have hrel:=Y6 p t.rel;have hrg:=Pg.find_range p t.rel;generalize p.find t.rel=f at *;refine aE_ Tryz.func26 ?_;refine l7 Tryz.func26 mixed 3 _ _ (by kernel_rfl) ?_;simp only [go_sem,seval,run.eq_1];refine AW.drawA mixed #[true,true,true,true,true,true,true,true,true,true,true,true,true,true,true,false] [(0,.box (p.enc.map .d)),(1,.box (t.enc.map .d))] [] [0,1,2,3,4,5,6,7,8,9,10,11,12,13,14] [15] none (by kernel_rfl) trivial (by simp [x9]) ?_;simp only [go_sem,seval,d9 hre]
 repeat' (first
  | ((refine y7 (fun x hx=>have hq:=hx;?_))<;>(try simp only [go_sem,seval,d9 hre,hq]))
  | ((first
   | (refine hrel.calls rfl ?_)
   | (refine ⟨sd,?_⟩))<;>(try simp only [go_sem,seval,d9 hre]))
  | fail)
 obtain rfl:r=x:=by rw [hr] at hx;exact Option.some.inj hx
 refine ⟨ha,by omega,?_⟩;refine rS_ Tryz.func26 ?_;simp only [go_sem,seval]
set_option maxHeartbeats 8000000
def rvE (r:RV):List D:=r.ru.enc
theorem L9 (r:RV):rvE r=[.str r.head.1,.sl (r.head.2.map V.enc),.int .i64 r.clause,.sl (r.values.map V.enc),.sl (r.pos.map fcE),.sl (r.neg.map fcE)]:=by
 unfold rvE;rw [Ru.enc_eq];simp only [RV.ru,FcV.fc,D6,D_];rfl
def grC (o:Option (List RV)):C:=match o with | some l=>.tup [.d (.sl (l.map rvE)),.d (.bool true)] | none=>.tup [.d (.sl []),.d (.bool false)]
theorem J3:grC none=.tup [.d (.sl []),.d (.bool false)]:=rfl
theorem aj5 (l:List RV):grC (some l)=.tup [.d (.sl (l.map rvE)),.d (.bool true)]:=rfl
def bw7 (r:Rl):List D:=[.sl (r.body.clsS.map aC4)]
theorem aW5 (r:Rl):bw7 r=[.sl (r.body.clsS.map aC4)]:=rfl
theorem bL2 (vs:List V) (v:V) {n:Nat} (h:vs.length<n):(vs.map V.enc++List.replicate (n - vs.length) [D.int .i64 0,.int .i64 0,.str [],.sl []]).set vs.length (v.enc++List.drop 4 ((vs.map V.enc++List.replicate (n - vs.length) [D.int .i64 0,.int .i64 0,.str [],.sl []])[vs.length]?.getD []))=(vs++[v]).map V.enc++List.replicate (n - (vs++[v]).length) [D.int .i64 0,.int .i64 0,.str [],.sl []]:=by
 obtain ⟨m,hm⟩:∃m,n - vs.length=m+1:=⟨n - vs.length - 1,by omega⟩;have e1:(vs.map V.enc++List.replicate (n - vs.length) [D.int .i64 0,.int .i64 0,.str [],.sl []])[vs.length]? = some [D.int .i64 0,.int .i64 0,.str [],.sl []]:=by
  rw [List.getElem?_append_right (by simp),hm];simp [List.replicate_succ]
 rw [e1,hm,List.set_append,if_neg (by simp)];simp only [i_,G_,List.replicate_succ,List.set_cons_zero,p_,List.drop_succ_cons,List.drop_nil,d_,H_,w_,o_,a_,List.cons_append,s_,j_,f_,t_];rw [show n - (vs.length+(0+1))=m by omega]
theorem ay6 (p:Pg) (u:List V) (hp:N9 p=true) (hw:wtL p.enc<=1048576) (hu:Uni u):Gives Tryz.prog 68 [.agg p.enc,.sl (u.map V.enc)] (grC (p.gr u)):=by
 have hmx:maxLen=9223372036854775807:=rfl;have hul:=hu.le;have hup:=hu.pos;obtain ⟨RES,hRES⟩:∃RES,grC (p.gr u)=RES:=⟨_,rfl⟩;rw [hRES];have hbz:∀y,y∈p.rels.map bw7->y.length=1:=fun y hy=>by obtain ⟨b,_,rfl⟩:=B_.1 hy;rfl
 have hpl:p.rels.length<=8:=by
  unfold N9 at hp;rw [z_,decide_eq_true_eq] at hp;exact hp.1
 refine aE_ Tryz.func68 ?_;refine l7 Tryz.func68 mixed 5 _ _ (by kernel_rfl) ?_;simp only [go_sem,seval,run.eq_1];refine AW.adopt 6 1 100 (by decide) rfl ?_;refine rS_ Tryz.func68 ?_;simp only [go_sem,seval];refine AW.rng p.rels [1,2,30,31] 32 30 (fun L:List Rl=>[(6,.own 1 L.length)]) (fun _ L=>[.box (p.enc.map .d),.grow L.length 1 100 (L.map bw7)]) (fun r L=>p.rels=L++r/\L.all (Rl.gOk u)=true) [] rfl (by simp) ⟨rfl,rfl⟩ A8 (fun i x r L hxi hdr hlt hm hinv hnext=>?_) (fun L hinv=>?_)
 ·obtain ⟨i1,i2⟩:=hinv
  have hxm:=c_ hxi;obtain ⟨z1,z2,z3,z4⟩:=Pg.dims hp hxm;have hLl:L.length<=8:=by have:=congrArg List.length i1;simp at this;omega
  obtain ⟨n,hn⟩:∃n:Nat,x.arity+x.locals=(n:Int):=⟨(x.arity+x.locals).toNat,by omega⟩;have hnn:(x.arity+x.locals).toNat=n:=by omega
  have hcl:=ao6 x.body (by have:=Pg.wt_rels hxm;have:=Rl.wt_body x;omega);rw [Gl.cls_same] at hcl;have hwy:=bl3 u.length n 4096 hul (by omega) (by omega);have hsw:=aR9 (b:=u.length) (L:=4096) (n:=n) hup;have hwr:IntKind.i64.wrap (x.arity+x.locals)=(n:Int):=by rw [hn];exact l6 (by omega) (by omega)
  have hgo:x.gOk u=(decide (x.body.clsS.length<=64) && decide (u.length ^ n<=4096)):=by unfold Rl.gOk Rl.ways;rw [hnn]
  by_cases h64:x.body.clsS.length<=64
  ·rw [if_pos h64] at hcl
   unfold ay8 at hcl;rw [p_,n_] at hcl;by_cases h4:u.length ^ n<=4096
   ·have hg:x.gOk u=true:=by rw [hgo,decide_eq_true h64,decide_eq_true h4];rfl
    have hmn:min (I7 u.length 4096 n 1) (4096+1)<=4096:=by have:=hsw.1.1 h4;omega
    have n1:¬(4096:Int)<((min (I7 u.length 4096 n 1) (4096+1):Nat):Int):=by omega
    generalize (min (I7 u.length 4096 n 1) (4096+1):Nat)=W at *;refine rS_ Tryz.func68 ?_;simp only [go_sem,seval,hlt,d9 hxi]
    repeat' (first
     | (simp (disch:=omega) only [l6])
     | ((first
      | (refine hcl.calls rfl ?_)
      | (refine hwy.calls rfl ?_)
      | (refine ⟨sd,?_⟩))<;>(try simp only [go_sem,seval,hlt,d9 hxi,hwr,n1]))
     | fail)
    refine hnext (L++[x]) _ ⟨by rw [i1];simp,by rw [x_,i2];simp [hg]⟩ (by refine ⟨by simp [mkS,aW5],by simp [mkS,aW5],by simp only [mkS,e_,g_,O.refsLt,C.refsLt,C.refsLt1,o5];first | done | rfl | (simp;done),?_⟩;simp [mkS,Abs.get,C.refsLtT,C.refsLt,C.refsLt1,aW5])
   ·have hg:x.gOk u=false:=by rw [hgo,decide_eq_false h4,E_]
    have hmn:4096<min (I7 u.length 4096 n 1) (4096+1):=by
     have:¬I7 u.length 4096 n 1<=4096:=fun h=>h4 (hsw.1.2 h);omega
    have n1:(4096:Int)<((min (I7 u.length 4096 n 1) (4096+1):Nat):Int):=by omega
    rw [Pg.gr_bad hxm hg,J3] at hRES;rw [<-hRES];generalize (min (I7 u.length 4096 n 1) (4096+1):Nat)=W at *;refine rS_ Tryz.func68 ?_;simp only [go_sem,seval,hlt,d9 hxi]
    repeat' (first
     | ((first
      | (refine hcl.calls rfl ?_)
      | (refine hwy.calls rfl ?_))<;>(try simp only [go_sem,seval,hlt,d9 hxi,hwr,n1]))
     | fail)
  ·have hg:x.gOk u=false:=by rw [hgo,decide_eq_false h64,l_]
   rw [if_neg h64] at hcl;unfold ay8 at hcl;rw [C_,A_] at hcl;rw [Pg.gr_bad hxm hg,J3] at hRES;rw [<-hRES];refine rS_ Tryz.func68 ?_;simp only [go_sem,seval,hlt,d9 hxi]
   repeat' (first
    | ((refine hcl.calls rfl ?_)<;>(try simp only [go_sem,seval,hlt,d9 hxi]))
    | fail)
 ·obtain ⟨i1,i2⟩:=hinv
  rw [d_] at i1;subst i1;have hgr:=fun hl=>Pg.gr_some i2 hl;refine l7 Tryz.func68 mixed 8 _ _ (by kernel_rfl) ?_;simp only [go_sem,seval,run.eq_1];refine AW.adopt 11 6 132 (by decide) rfl ?_;refine rS_ Tryz.func68 ?_;simp only [go_sem,seval];have hgok:∀x,x∈p.rels->x.gOk u=true:=List.all_eq_true.1 i2;clear i2;generalize hGN:Pg.gnd u p.rels=GN at hgr;refine AW.rng p.rels [1,6,62,63] 64 62 (fun L:List RV=>[(11,.own 2 L.length)]) (fun _ L=>[.box (p.enc.map .d),.grow p.rels.length 1 100 (p.rels.map bw7),.grow L.length 6 132 (L.map rvE)]) (fun r L=>GN=L++Pg.gnd u r/\L.length<=2000) [] rfl (by simp) ⟨hGN.symm,by simp⟩ A8 (fun i x r L hxi hdr hlt hm hinv hnext=>?_) (fun L hinv=>?_)
  ·obtain ⟨i1,i2⟩:=hinv
   have hxm:=c_ hxi;obtain ⟨z1,z2,z3,z4⟩:=Pg.dims hp hxm;obtain ⟨n,hn⟩:∃n:Nat,x.arity+x.locals=(n:Int):=⟨(x.arity+x.locals).toNat,by omega⟩;have hnn:(x.arity+x.locals).toNat=n:=by omega
   have hn12:n<=12:=by omega
   have hwr:IntKind.i64.wrap (x.arity+x.locals)=(n:Int):=by rw [hn];exact l6 (by omega) (by omega)
   have hwy:=bl3 u.length n 4096 hul (by omega) (by omega);have hsw:=aR9 (b:=u.length) (L:=4096) (n:=n) hup;have hgx:=hgok x hxm;have hgo:x.gOk u=(decide (x.body.clsS.length<=64) && decide (u.length ^ n<=4096)):=by unfold Rl.gOk Rl.ways;rw [hnn]
   rw [hgo,z_,decide_eq_true_eq,decide_eq_true_eq] at hgx;obtain ⟨h64,h4⟩:=hgx;have hW:x.ways u=u.length ^ n:=by unfold Rl.ways;rw [hnn]
   have hmn:min (I7 u.length 4096 n 1) (4096+1)=x.ways u:=by rw [hsw.2 h4,hW];omega
   rw [hmn] at hwy;rw [<-hW] at h4;have hbe:(p.rels.map bw7)[i]? = some [.sl (x.body.clsS.map aC4)]:=by rw [v_,hxi];rfl
   have hbm:(p.rels.map bw7).length=p.rels.length:=i_ _;have hcs:∀c,c∈x.body.clsS->∀g,g∈c->g.inst n:=fun c hc g hg=>Gl.inst_sub (Pg.body_inst hp hxm (m:=n) hn.symm).1 g (aI3 hc hg);have hcl:∀c,c∈x.body.clsS->c.length<=60:=fun c hc=>Nat.le_trans (Gl.clsS_row x.body c hc).1 (Pg.body_inst hp hxm (m:=n) hn.symm).2.2.2.2.2;have hgn:Pg.gnd u (x :: r)=as1 u x (x.ways u) 0 x.body.clsS++Pg.gnd u r:=rfl;rw [hgn] at i1;clear hgn hsw hmn hgo hW hgok;have hxar:x.enc=[.str x.name,.int .i64 x.arity,.int .i64 x.locals]++x.body.enc:=by unfold Rl.enc;simp
   generalize hCS:x.body.clsS=CS at *;generalize hWW:x.ways u=W at *;refine rS_ Tryz.func68 ?_;simp only [go_sem,seval,hlt,d9 hxi,hwr,hbm]
   repeat' (first
    | ((refine hwy.calls rfl ?_)<;>(try simp only [go_sem,seval,hlt,d9 hxi,hwr,hbm,d9 hbe]))
    | fail)
   refine AW.rng CS [1,6,13,14,15,62,63,64,81,82] 83 81 (fun L:List RV=>[(11,.own 2 L.length)]) (fun _ L=>[.box (p.enc.map .d),.grow p.rels.length 1 100 (p.rels.map bw7),.grow L.length 6 132 (L.map rvE),.box (x.enc.map .d)]) (fun cs L=>GN=L++(as1 u x W ((CS.length - cs.length:Nat):Int) cs++Pg.gnd u r)/\L.length<=2000) L rfl (by simp) ⟨by rw [G_];exact i1,i2⟩ A8 (fun ci c cs L hci hdc hltc hmc hinv hnc=>?_) (fun L hinv=>?_)
   ·obtain ⟨i1,i2⟩:=hinv
    have hcm:=c_ hci;have hdl:=congrArg List.length hdc;simp only [r_,f_] at hdl;have hcs:=hcs c hcm;have hcl:=hcl c hcm;have hcil:ci<CS.length:=(h_.1 hci).1;rw [f_,show CS.length - (cs.length+1)=ci by omega,aK9,a_] at i1;have hnc:=fun (L:List RV) s' (h2:L.length<=2000) (h1:GN=L++(as1 u x W ((ci+1:Nat):Int) cs++Pg.gnd u r))=>hnc L s' ⟨by rw [show CS.length - cs.length=ci+1 by omega];exact h1,h2⟩;rw [show ((ci:Int)+1)=((ci+1:Nat):Int) by omega] at i1;generalize hX:as1 u x W ((ci+1:Nat):Int) cs++Pg.gnd u r=X at *;refine rS_ Tryz.func68 ?_;simp only [go_sem,seval,hltc,d9 hci,z8];refine AW.lp [1,6,13,14,15,16,17,62,63,64,81,82,83] (fun u:Nat×List RV=>[(18,.d (.int .i64 (u.1:Int))),(11,.own 2 u.2.length)]) (fun _ y=>[.box (p.enc.map .d),.grow p.rels.length 1 100 (p.rels.map bw7),.grow y.2.length 6 132 (y.2.map rvE),.box (x.enc.map .d)]) (fun y=>y.1<=W/\GN=y.2++(aJ0 u x (ci:Int) c y.1 (W - y.1)++X)/\y.2.length<=2000) (fun y=>W - y.1) (0,L) ⟨q_ _,i1,i2⟩ A8 ?_;rintro ⟨w,L1⟩ ⟨j1,j2,j3⟩ hnw;dsimp only at j1 j2 j3 hnw |-;have hnw:=fun w' L' s' h=>hnw (w',L') s' h;clear i1 i2;by_cases hwW:w<W
    ·have n1:(w:Int)<(W:Int):=by omega
     have hvl:=R4 u n w;have hvm:=X7 hup n w;rw [show W - w=(W - (w+1))+1 by omega,aY6] at j2;have hrk:rvK u x (ci:Int) c w=if Z4 u c (G6 u n w)=true then some (aL0 x (ci:Int) c (G6 u n w)) else none:=by unfold rvK;rw [hnn]
     rw [hrk,a_] at j2;have hng:¬(n:Int)<0:=by omega
     obtain ⟨G,hG⟩:∃G,G6 u n w=G:=⟨_,rfl⟩;rw [hG] at j2 hvl hvm;clear hrk;refine rS_ Tryz.func68 ?_;simp only [go_sem,seval,n1,hng]
     repeat' (first
      | ((refine ⟨sd,?_⟩)<;>(try simp only [go_sem,seval,n1,hng]))
      | fail)
     refine AW.lp [1,6,11,13,14,15,16,17,18,19,62,63,64,81,82,83] (fun v:List V×Nat=>[(21,.d (.int .i64 (v.1.length:Int))),(20,.d (.int .i64 (v.2:Int)))]) (fun _ v=>[.box (p.enc.map .d),.grow p.rels.length 1 100 (p.rels.map bw7),.grow L1.length 6 132 (L1.map rvE),.box (x.enc.map .d),.row 4 60 (v.1.map V.enc++List.replicate (n - v.1.length) [.int .i64 0,.int .i64 0,.str [],.sl []])]) (fun v=>v.1++G6 u (n - v.1.length) v.2=G/\v.1.length<=n/\v.2<=w) (fun v=>n - v.1.length) ([],w) ⟨hG,q_ _,b_ _⟩ A8 ?_;rintro ⟨vs,y⟩ ⟨k1,k2,k3⟩ hnv;dsimp only at k1 k2 k3 hnv |-;have hnv:=fun v' y' s' h=>hnv (v',y') s' h;by_cases hvn:vs.length<n
     ·have n2:(vs.length:Int)<(n:Int):=by omega
      have hm1:y % u.length<u.length:=Nat.mod_lt _ (by omega);obtain ⟨v,hv⟩:∃v,u[y % u.length]? = some v:=⟨_,m_ hm1⟩;have hve:u.getD (y % u.length) .nil=v:=by rw [J_,hv];rfl
      have hvd:(u.map V.enc)[y % u.length]? = some v.enc:=by rw [v_,hv];rfl
      have hml:(u.map V.enc).length=u.length:=i_ _;have hdv:y / u.length<=y:=Nat.div_le_self _ _;have hrm:=bR7 y u.length;have hqd:=bR8 y u.length;have h0:¬(u.length:Int)=0:=by omega
      rw [show n - vs.length=(n - (vs.length+1))+1 by omega] at k1;have hre:G6 u (n - (vs.length+1)+1) y=v :: G6 u (n - (vs.length+1)) (y / u.length):=by rw [<-hve];rfl
      rw [hre] at k1;clear hve hre;generalize y % u.length=ym at *;generalize y / u.length=yq at *;have w1:IntKind.i64.wrap (yq:Int)=(yq:Int):=l6 (by omega) (by omega);have w2:IntKind.i64.wrap ((vs.length:Int)+1)=(vs.length:Int)+1:=l6 (by omega) (by omega);have n3:(ym:Int)<(u.length:Int):=by omega
      refine rS_ Tryz.func68 ?_;simp only [go_sem,seval,n2,d9 hvd,hrm,hqd,h0,w1,w2,n3,hml]
      repeat' (first
       | ((refine ⟨sd,?_⟩)<;>(try simp only [go_sem,seval,n2,d9 hvd,hrm,hqd,h0,w1,w2,n3,hml]))
       | fail)
      rw [bL2 vs v hvn];refine hnv (vs++[v]) yq _ ⟨by rw [<-k1];simp,by simp;omega,by omega⟩ (by simp;omega) A8
     ·have n2:¬(vs.length:Int)<(n:Int):=by omega
      rw [show n - vs.length=0 by omega] at k1 |-;have e0:G6 u 0 y=[]:=rfl;rw [e0,d_] at k1;subst k1;clear hnv;refine l7 Tryz.func68 mixed 6 _ _ (by kernel_rfl) ?_;simp only [go_sem,seval,run.eq_1,n2];refine AW.freeze 19 4 rfl rfl (by simp;omega) ?_;try rw [List.replicate_zero,d_]
      refine AW.drawA mixed #[true,true,true,true,true,true,true,true,true,true,true,false] [(3,.box (x.enc.map .d))] [] [0,1,2,3,4,7,8,10,5,6,9] [11] (some (10,22,132,[.string ⟨#[]⟩,.slice none 0 0,.int .i64 0,.slice none 0 0,.slice none 0 0,.slice none 0 0])) (by kernel_rfl) aD8 (by simp [x9]) ?_;simp only [go_sem,seval];refine ⟨z1,by omega,?_⟩;refine AW.adoptGB 5 4 2 34 (by decide) rfl rfl ?_;refine AW.adoptGB 5 5 2 34 (by decide) rfl rfl ?_;refine rS_ Tryz.func68 ?_;simp only [go_sem,seval];have hfa:=aA2 u vs c;clear hvm;refine AW.rng c [1,6,11,13,14,15,16,17,18,19,22,62,63,64,81,82,83,125,126] 127 125 (fun a:Bool×List FcV×List FcV=>[(23,.d (.bool a.1))]) (fun _ a=>[.box (p.enc.map .d),.grow p.rels.length 1 100 (p.rels.map bw7),.grow L1.length 6 132 (L1.map rvE),.box (x.enc.map .d),.dead,.box [.d (.str x.name),.d (.sl ((vs.take x.arity.toNat).map V.enc)),.d (.int .i64 ci),.d (.sl (vs.map V.enc)),.own 6 a.2.1.length,.own 7 a.2.2.length],.grow a.2.1.length 2 34 (a.2.1.map fcE),.grow a.2.2.length 2 34 (a.2.2.map fcE)]) (fun s a=>∃d,c=d++s/\a.2.1.length<=d.length/\a.2.2.length<=d.length/\(a.1=true->a.2.1=u7 (o6 vs) d/\a.2.2=r9 (o6 vs) d/\d.all (okG u vs)=true)/\(a.1=false->c.all (okG u vs)=false)) (true,[],[]) rfl (by simp) ⟨[],rfl,by simp,by simp,fun _=>⟨rfl,rfl,rfl⟩,fun h=>by cases h⟩ A8 (fun gi g s a hgi hdg hltg hmg hinv hng2=>?_) (fun a hinv=>?_)
      ·obtain ⟨fine,P,N⟩:=a
       obtain ⟨d,d1,d2,d3,d4,d5⟩:=hinv;dsimp only at d2 d3 d4 d5 hng2 |-;have hng2:=fun b P N s' h=>hng2 (b,P,N) s' h;cases fine with
       | false =>
        have hff:=d5 rfl;rw [hfa,hff,if_neg (by simp),Option.toList_none,s_] at j2;have hn5:¬(2000:Int)<(L1.length:Int):=by omega
        have w7:IntKind.i64.wrap ((w:Int)+1)=((w+1:Nat):Int):=by rw [l6 (by omega) (by omega)];omega
        refine rS_ Tryz.func68 ?_;simp only [go_sem,seval,hn5,w7,hltg,d9 hgi];refine hnw (w+1) L1 _ ⟨by omega,j2,j3⟩ (by dsimp only;omega) A8
       | true =>
        obtain ⟨e1,e2,e3⟩:=d4 rfl;clear d4 d5;have hgm:=c_ hgi;have hgn:=hcs g hgm;rw [<-hvl] at hgn;have hok:(d++[g]).all (okG u vs)=okG u vs g:=by rw [x_,e3];simp
        have hbad:okG u vs g=false->c.all (okG u vs)=false:=fun h=>by rw [d1,x_,e_,h];simp
        have hd60:d.length<=60:=by have:=congrArg List.length d1;simp at this;omega
        have hP60:P.length<=60:=by omega
        have hN60:N.length<=60:=by omega
        have hps:=aw6 (o6 vs) d g;have hns:=aw7 (o6 vs) d g;by_cases h9:g.kind=9
        ·have hcf:=ag4 g vs hgn
         have hog:okG u vs g=aH0 u (g.callV (o6 vs)):=by unfold okG;rw [if_pos h9]
         have hin:=aj3 u (g.callV (o6 vs)).2 (by omega);rw [show ((g.callV (o6 vs)).2.all fun t=>decide (t∈u))=okG u vs g from hog.symm] at hin;have hFe:=o8 (g.callV (o6 vs));rw [if_pos h9,<-e1] at hps;rw [if_neg (by omega),d_,<-e2] at hns;change Gives _ _ _ (.d (.agg (fcE (g.callV (o6 vs))))) at hcf
         generalize g.callV (o6 vs)=F at *;generalize okG u vs g=ok at *;refine rS_ Tryz.func68 ?_;simp only [go_sem,seval,hltg,d9 hgi,h9]
         repeat' (first
          | (simp (disch:=omega) only [l6])
          | ((first
           | (refine hcf.calls rfl ?_)
           | (refine hin.calls rfl ?_)
           | (refine ⟨sd,?_⟩))<;>(try simp only [go_sem,seval,hltg,d9 hgi,h9,hFe]))
          | fail)
         refine hng2 ok (P++[F]) N _ ⟨d++[g],by rw [d1];simp,by simp;omega,by simp;omega,fun h=>⟨hps.symm,hns.symm,hok.trans h⟩,hbad⟩ (by refine ⟨by simp [mkS,hFe],by simp [mkS,hFe],by simp only [mkS,e_,g_,O.refsLt,C.refsLt,C.refsLt1,o5];first | done | rfl | (simp;done),?_⟩;simp [mkS,Abs.get,C.refsLtT,C.refsLt,C.refsLt1,hFe])
        ·rw [if_neg h9,d_,<-e1] at hps
         by_cases h10:g.kind=10
         ·obtain ⟨y,hy⟩:=Gl.shape_not hgn.1 h10
          have hcf:=ag4 y vs (Gl.inst_sub hgn y (bJ1 hy));have hog:okG u vs g=aH0 u (y.callV (o6 vs)):=by unfold okG;rw [if_neg h9,if_pos h10,hy];rfl
          have hin:=aj3 u (y.callV (o6 vs)).2 (by omega);rw [show ((y.callV (o6 vs)).2.all fun t=>decide (t∈u))=okG u vs g from hog.symm] at hin;have hFe:=o8 (y.callV (o6 vs));rw [if_pos h10,hy,<-e2] at hns;change Gives _ _ _ (.d (.agg (fcE (y.callV (o6 vs))))) at hcf
          change r9 (o6 vs) (d++[g])=N++[y.callV (o6 vs)] at hns
          generalize y.callV (o6 vs)=F at *;generalize okG u vs g=ok at *;have hy0:g.goals[0]? = some y:=by rw [hy];rfl
          have hy1:(0:Int)<(g.goals.length:Int):=by rw [hy];simp
          refine rS_ Tryz.func68 ?_;simp only [go_sem,seval,hltg,d9 hgi,h9,h10,d9 hy0,hy1]
          repeat' (first
           | (simp (disch:=omega) only [l6])
           | ((first
            | (refine hcf.calls rfl ?_)
            | (refine hin.calls rfl ?_)
            | (refine ⟨sd,?_⟩))<;>(try simp only [go_sem,seval,hltg,d9 hgi,h9,h10,hFe,d9 hy0,hy1]))
           | fail)
          refine hng2 ok P (N++[F]) _ ⟨d++[g],by rw [d1];simp,by simp;omega,by simp;omega,fun h=>⟨hps.symm,hns.symm,hok.trans h⟩,hbad⟩ (by refine ⟨by simp [mkS,hFe],by simp [mkS,hFe],by simp only [mkS,e_,g_,O.refsLt,C.refsLt,C.refsLt1,o5];first | done | rfl | (simp;done),?_⟩;simp [mkS,Abs.get,C.refsLtT,C.refsLt,C.refsLt1,hFe])
         ·have htw:=ar0 g vs hgn
          have hog:okG u vs g=g.testV (o6 vs):=by unfold okG;rw [if_neg h9,if_neg h10]
          rw [<-hog] at htw;rw [if_neg h10,d_,<-e2] at hns;generalize okG u vs g=ok at *;refine rS_ Tryz.func68 ?_;simp only [go_sem,seval,hltg,d9 hgi,h9,h10]
          repeat' (first
           | (simp (disch:=omega) only [l6])
           | ((refine htw.calls rfl ?_)<;>(try simp only [go_sem,seval,hltg,d9 hgi,h9,h10]))
           | fail)
          refine hng2 ok P N _ ⟨d++[g],by rw [d1];simp,by simp;omega,by simp;omega,fun h=>⟨hps.symm,hns.symm,hok.trans h⟩,hbad⟩ A8
      ·obtain ⟨fine,P,N⟩:=a
       obtain ⟨d,d1,d2,d3,d4,d5⟩:=hinv;dsimp only at d2 d3 d4 d5 |-;rw [d_] at d1;subst d1;cases fine with
       | false =>
        have hff:=d5 rfl;rw [hfa,hff,if_neg (by simp),Option.toList_none,s_] at j2;have hn5:¬(2000:Int)<(L1.length:Int):=by omega
        have w7:IntKind.i64.wrap ((w:Int)+1)=((w+1:Nat):Int):=by rw [l6 (by omega) (by omega)];omega
        refine rS_ Tryz.func68 ?_;simp only [go_sem,seval,hn5,w7,e0];refine hnw (w+1) L1 _ ⟨by omega,j2,j3⟩ (by dsimp only;omega) A8
       | true =>
        obtain ⟨e1,e2,e3⟩:=d4 rfl;subst e1 e2;rw [hfa,e3,if_pos rfl,Option.toList_some] at j2;have hrE:=L9 (aL0 x (ci:Int) c vs);unfold aL0 at hrE;dsimp only at hrE;have hrF:aL0 x (ci:Int) c vs=⟨(x.name,vs.take x.arity.toNat),(ci:Int),vs,u7 (o6 vs) c,r9 (o6 vs) c⟩:=rfl;rw [hrF] at j2;generalize u7 (o6 vs) c=P at *;generalize r9 (o6 vs) c=N at *;generalize (RV.mk (x.name,vs.take x.arity.toNat) (ci:Int) vs P N)=RR at *;have w7:IntKind.i64.wrap ((w:Int)+1)=((w+1:Nat):Int):=by rw [l6 (by omega) (by omega)];omega
        have hrl:(L1.map rvE).length=L1.length:=i_ _;have hj2:GN=(L1++[RR])++(aJ0 u x (ci:Int) c (w+1) (W - (w+1))++X):=by rw [j2];simp
        by_cases h20:L1.length<2000
        ·have hn5:¬(2000:Int)<(L1.length:Int)+1:=by omega
         refine rS_ Tryz.func68 ?_;simp only [go_sem,seval,hn5,w7,hrl]
         repeat' (first
          | ((refine ⟨sd,?_⟩)<;>(try simp only [go_sem,seval,hn5,w7,hrl]))
          | fail)
         refine hnw (w+1) (L1++[RR]) _ ⟨by omega,hj2,by simp;omega⟩ (by dsimp only;omega) (by refine ⟨by simp [mkS,hrE],by simp [mkS,hrE],by simp only [mkS,e_,g_,O.refsLt,C.refsLt,C.refsLt1,o5];first | done | rfl | (simp;done),?_⟩;simp [mkS,Abs.get,C.refsLtT,C.refsLt,C.refsLt1,hrE])
        ·have hn5:(2000:Int)<(L1.length:Int)+1:=by omega
         rw [Pg.gr_none (hGN.trans hj2) (by simp;omega),J3] at hRES;rw [<-hRES];refine rS_ Tryz.func68 ?_;simp only [go_sem,seval,hn5,w7,hrl]
         repeat' (first
          | ((refine ⟨sd,?_⟩)<;>(try simp only [go_sem,seval,hn5,w7,hrl]))
          | fail)
         all_goals omega
    ·have n1:¬(w:Int)<(W:Int):=by omega
     rw [show W - w=0 by omega] at j2;have e0:aJ0 u x (ci:Int) c w 0=[]:=rfl;rw [e0,s_] at j2;refine rS_ Tryz.func68 ?_;simp only [go_sem,seval,n1]
     repeat' (first
      | (simp (disch:=omega) only [l6])
      | (refine hnc L1 _ j3 j2 A8)
      | fail)
     all_goals refine hnc L1 _ j3 (by rw [hX];exact j2) A8
   ·obtain ⟨i1,i2⟩:=hinv
    have e0:as1 u x W ((CS.length - ([]:List (List Gl)).length:Nat):Int) []=[]:=rfl;rw [e0,s_] at i1;refine rS_ Tryz.func68 ?_;simp only [go_sem,seval]
    repeat' (first
     | (simp (disch:=omega) only [l6])
     | fail)
    all_goals refine hnext L _ ⟨i1,i2⟩ A8
  ·obtain ⟨i1,i2⟩:=hinv
   have e0:Pg.gnd u []=[]:=rfl;rw [e0,d_] at i1;subst i1;rw [hgr i2,aj5] at hRES;rw [<-hRES];refine rS_ Tryz.func68 ?_;simp only [go_sem,seval]
end Go.Proofs.YtmfkcdelddmfpaaGreat
