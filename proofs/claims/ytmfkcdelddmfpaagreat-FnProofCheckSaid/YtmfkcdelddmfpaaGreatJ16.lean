import Derived.Test.YtmfkcdelddmfpaaGreatJ15
open Bool renaming and_eq_true->a_,true_and->g_,false_and->j_,not_eq_true->l_
open List renaming getElem?_eq_some_iff->b_,length_map->c_,mem_of_getElem?->d_,all_cons->e_,all_nil->f_,getElem?_eq_getElem->h_,append_nil->i_,map_drop->k_,map_take->m_,length_cons->n_,all_eq_true->o_,getElem?_eq_none_iff->p_,map_cons->q_,mem_of_mem_take->r_,mem_map->w_,length_filter_le->x_,getElem?_eq_none->y_,append_assoc->z_,length_take->A_,eq_nil_of_length_eq_zero->B_,mem_append->C_,all_append->D_,take_of_length_le->E_,getElem?_set_self->F_,drop_eq_nil_of_le->G_
open Nat renaming zero_le->s_,le_refl->v_,lt_or_ge->H_,le_trans->I_
open Option renaming isSome_some->t_,getD_some->u_
namespace Go.Proofs.YtmfkcdelddmfpaaGreat
open Go.Abs
set_option maxRecDepth 100000
set_option maxHeartbeats 8000000
set_option linter.unusedSimpArgs false
set_option linter.unusedVariables false
theorem aG5 (l:List Tm) (hw:wtR (l.map Tm.enc)<=2000000):Gives Tryz.prog 55 [.sl (l.map Tm.enc)] (.d (.sl (l.map Tm.enc))):=by
 have h:=U4 l hw;refine l8.frozen (ds:=[.sl (l.map Tm.enc)]) (m:=1) h (fun c H' ⟨h1,e,B,h2⟩ _=>?_);subst h1 h2;rfl
theorem aa8 (l:List V) (hw:wtR (l.map V.enc)<=2000000):Gives Tryz.prog 55 [.sl (l.map V.enc)] (.d (.sl (l.map V.enc))):=by
 have h:=aG5 (l.map V.tm) (by rw [D6];exact hw);rw [D6] at h;exact h
theorem au3 (l:List FcV) (hl:l.length<=2000000) (hw:∀x,x∈l->wtR (x.2.map V.enc)<=2000000):Gives Tryz.prog 29 [.sl (l.map fcE)] (.d (.sl (l.map fcE))):=by
 have hmx:maxLen=9223372036854775807:=rfl;refine aE_ Tryz.func29 ?_;refine rS_ Tryz.func29 ?_;simp only [go_sem,seval];refine AW.adopt 3 2 34 (by decide) rfl ?_;refine AW.rng l [7,8] 9 7 (fun p:List FcV=>[(3,.own 0 p.length)]) (fun _ p=>[.grow p.length 2 34 (p.map fcE)]) (fun r p=>p++r=l) [] rfl (by simp) rfl A8 (fun i x r p hxi hdr hlt hm hinv hnext=>?_) (fun p hinv=>?_)
 ·have hxm:=d_ hxi
  have hc:=aa8 x.2 (hw x hxm);have hpl:p.length+(r.length+1)=l.length:=by rw [<-hinv];simp
  have hxe:=o8 x;generalize hX:fcE x=X at *;subst hxe;refine l7 Tryz.func29 mixed 9 _ _ (by kernel_rfl) ?_;simp only [go_sem,seval,run.eq_1,hlt,d9 hxi,hX];refine AW.drawA mixed #[true,true,true,true,true,true,true,true,true,false] [(1,.box [.d (.str x.1),.d (.sl (x.2.map V.enc))])] [] [0,1,2,3,4,5,6,7,8] [9] none (by kernel_rfl) trivial (by simp [x9]) ?_;simp only [go_sem,seval]
  repeat' (first
   | ((first
    | (refine hc.calls rfl ?_)
    | (refine ⟨sd,?_⟩))<;>(try simp only [go_sem,seval]))
   | fail)
  refine rS_ Tryz.func29 ?_;simp only [go_sem,seval]
  repeat' (first
   | (simp (disch:=omega) only [l6])
   | fail)
  refine hnext (p++[x]) _ (by simp [<-hinv]) (by refine ⟨by simp [mkS,hX],by simp [mkS,hX],by simp only [mkS,e_,f_,O.refsLt,C.refsLt,C.refsLt1,o5];first | done | rfl | (simp;done),?_⟩;simp [mkS,Abs.get,C.refsLtT,C.refsLt,C.refsLt1])
 ·simp only [i_] at hinv
  subst hinv;refine rS_ Tryz.func29 ?_;simp only [go_sem,seval]
theorem bS9 {c:List Gl} {n:Nat} (h:∀g,g∈c->g.inst n) (f:Int->V):∀x,x∈u7 f c->x.2.length<=4:=fun x hx=>by
 unfold u7 at hx;obtain ⟨g,hg,rfl⟩:=w_.1 hx;rw [List.mem_filter] at hg;have:=(Gl.shape_len (h g hg.1).1).1;simp [Gl.callV];exact this
theorem bT3 {c:List Gl} {n:Nat} (h:∀g,g∈c->g.inst n) (f:Int->V):∀x,x∈r9 f c->x.2.length<=4:=fun x hx=>by
 unfold r9 at hx;obtain ⟨y,hy,rfl⟩:=w_.1 hx;obtain ⟨g,hg,hgy⟩:=List.mem_filterMap.1 hy;rw [List.mem_filter] at hg;have hym:y∈g.goals:=by cases hq:g.goals with | nil=>rw [hq] at hgy;cases hgy | cons a b=>rw [hq] at hgy;cases hgy;simp
 have:=(Gl.shape_len (Gl.inst_goals (h g hg.1) y hym).1).1;simp [Gl.callV];exact this
theorem uniwts {u:List V} (hu:Uni u) (l:List V) (hl:∀v,v∈l->v∈u) (hn:l.length<=12):wtR (l.map V.enc)<=2000000:=by
 have:=bK4 l (o_.2 fun v hv=>hu.ok v (hl v hv))
 omega
theorem br9 {u:List V} (hu:Uni u) {fs:List FcV} (h:fs.all (aH0 u)=true) (hl:∀x,x∈fs->x.2.length<=4):∀x,x∈fs->wtR (x.2.map V.enc)<=2000000:=fun x hx=>by
 have h1:=o_.1 h x hx;unfold aH0 at h1;have h2:=hl x hx;exact uniwts hu _ (fun v hv=>by simpa using o_.1 h1 v hv) (by omega)
def Over (G L R:List RV):Prop:=(L.length<=2000/\G=L++R)\/(L.length=2001/\∃X,G=L++X)
theorem Over.le {G L R:List RV} (h:Over G L R):L.length<=2001:=by rcases h with h | h<;>omega
theorem Over.full {G L R R':List RV} (h:Over G L R) (hl:¬L.length<=2000):Over G L R':=by
 rcases h with h | h
 ·omega
 ·exact Or.inr h
theorem Over.step {G L R R':List RV} {o:Option RV} (h:Over G L R) (hl:L.length<=2000) (hr:R=o.toList++R'):Over G (L++o.toList) R':=by
 rcases h with ⟨h1,h2⟩ | h
 ·subst hr
  have e:G=(L++o.toList)++R':=by rw [h2,z_]
  have h3:(L++o.toList).length<=2001:=by cases o<;>simp<;>omega
  by_cases h4:(L++o.toList).length<=2000
  ·exact Or.inl ⟨h4,e⟩
  ·exact Or.inr ⟨by omega,_,e⟩
 ·omega
def vrs (n:Nat):List (List D):=C8 ((List.range n).map fun i:Nat=>(i:Int))
theorem bQ8:vrs 0=[]:=rfl
theorem bQ7 (n:Nat):vrs (n+1)=vrs n++[[.int .i64 (n:Int)]]:=by simp [vrs,C8,List.range_succ]
@[go_sem] theorem ca9 (n:Nat):(vrs n).length=n:=by simp [vrs,C8]
theorem ay2 (p:Pg) (u:List V) (hp:N9 p=true) (hw:wtL p.enc<=1048576) (hu:Uni u) (hua:Gives Tryz.prog 129 [.sl (u.map V.enc)] (.d (.bool true))):Gives Tryz.prog 88 [.agg p.enc,.sl (u.map V.enc)] (grC (p.gr u)):=by
 have hmx:maxLen=9223372036854775807:=rfl;have hul:=hu.le;have hup:=hu.pos;have ha:=F5 p (by omega);rw [hp] at ha;have hml:(u.map V.enc).length=u.length:=c_ _;obtain ⟨RES,hRES⟩:∃RES,grC (p.gr u)=RES:=⟨_,rfl⟩;rw [hRES];have hpl:p.rels.length<=8:=by
  unfold N9 at hp;rw [a_,decide_eq_true_eq] at hp;exact hp.1
 refine aE_ Tryz.func88 ?_;refine rS_ Tryz.func88 ?_;simp only [go_sem,seval]
 repeat' (first
  | ((first
   | (refine ha.calls rfl ?_)
   | (refine hua.calls rfl ?_))<;>(try simp only [go_sem,seval]))
  | fail)
 obtain ⟨GN,hGN⟩:∃GN,Pg.gnd u p.rels=GN:=⟨_,rfl⟩;refine AW.adopt 6 6 132 (by decide) rfl ?_;refine AW.rng p.rels [1,29,30] 31 29 (fun L:List RV=>[(6,.own 1 L.length)]) (fun _ L=>[.box (p.enc.map .d),.grow L.length 6 132 (L.map rvE)]) (fun r L=>(∃d,p.rels=d++r/\d.all (Rl.gOk u)=true)/\Over GN L (Pg.gnd u r)) [] rfl (by simp) ⟨⟨[],rfl,rfl⟩,Or.inl ⟨by simp,hGN.symm⟩⟩ A8 (fun i x r L hxi hdr hlt hm hinv hnext=>?_) (fun L hinv=>?_)
 ·obtain ⟨⟨dn,i0,i1⟩,i2⟩:=hinv
  have hxm:=d_ hxi;obtain ⟨z1,z2,z3,z4⟩:=Pg.dims hp hxm;obtain ⟨n,hn⟩:∃n:Nat,x.arity+x.locals=(n:Int):=⟨(x.arity+x.locals).toNat,by omega⟩;have hnn:(x.arity+x.locals).toNat=n:=by omega
  have hn12:n<=12:=by omega
  have hL1:=i2.le;have hwr:IntKind.i64.wrap (x.arity+x.locals)=(n:Int):=by rw [hn];exact l6 (by omega) (by omega)
  obtain ⟨hbi,_,_,_,_,hbc⟩:=Pg.body_inst hp hxm (m:=n) hn.symm;have hbg:ak5 x.body=true:=by simp only [ak5,a_,decide_eq_true_eq,ak5];exact ⟨by omega,hbi.1⟩
  have hcl:=ah7 x.body (by have:=Pg.wt_rels hxm;have:=Rl.wt_body x;omega);have hwy:=bh3 u.length n 4096 hul (by omega) (by omega);have hsw:=aR9 (b:=u.length) (L:=4096) (n:=n) hup;have hgo:x.gOk u=(decide (x.body.clsS.length<=64) && decide (u.length ^ n<=4096)):=by unfold Rl.gOk Rl.ways;rw [hnn]
  have hW:x.ways u=u.length ^ n:=by unfold Rl.ways;rw [hnn]
  have hxar:x.enc=[.str x.name,.int .i64 x.arity,.int .i64 x.locals]++x.body.enc:=by unfold Rl.enc;simp
  refine l7 Tryz.func88 mixed 12 _ _ (by kernel_rfl) ?_;simp only [go_sem,seval,run.eq_1,hlt,d9 hxi];refine AW.adopt 9 1 3 (by decide) rfl ?_;refine l7 Tryz.func88 mixed 3 _ _ (by kernel_rfl) ?_;simp only [go_sem,seval,run.eq_1];refine AW.lp [1,6,8,29,30,31] (fun y:Nat=>[(10,.d (.int .i64 (y:Int))),(9,.own 3 y)]) (fun _ y=>[.box (p.enc.map .d),.grow L.length 6 132 (L.map rvE),.box (x.enc.map .d),.grow y 1 3 (vrs y)]) (fun y=>y<=n) (fun y=>n - y) 0 (s_ _) (by refine ⟨by simp [mkS,bQ8],by simp [mkS,bQ8],by simp only [mkS,e_,f_,O.refsLt,C.refsLt,C.refsLt1,o5];first | done | rfl | (simp;done),?_⟩;simp [mkS,Abs.get,C.refsLtT,C.refsLt,C.refsLt1]) ?_;intro y hy hny;by_cases hyn:y<n
  ·have n1:(y:Int)<(n:Int):=by omega
   have w1:IntKind.i64.wrap ((y:Int)+1)=((y+1:Nat):Int):=by rw [l6 (by omega) (by omega)];omega
   refine rS_ Tryz.func88 ?_;simp only [go_sem,seval,hwr,n1,w1]
   repeat' (first
    | ((refine ⟨sd,?_⟩)<;>(try simp only [go_sem,seval,hwr,n1,w1]))
    | fail)
   refine hny (y+1) _ (by omega) (by omega) (by refine ⟨by simp [mkS,bQ7],by simp [mkS,bQ7],by simp only [mkS,e_,f_,O.refsLt,C.refsLt,C.refsLt1,o5];first | done | rfl | (simp;done),?_⟩;simp [mkS,Abs.get,C.refsLtT,C.refsLt,C.refsLt1])
  have hyy:y=n:=by omega
  subst hyy;clear hny;have n1:¬(y:Int)<(y:Int):=by omega
  refine l7 Tryz.func88 mixed 6 _ _ (by kernel_rfl) ?_;simp only [go_sem,seval,run.eq_1,hwr,n1];refine AW.readG 9 3 rfl rfl ?_;by_cases h64:x.body.clsS.length<=64
  ·rw [if_pos ⟨hbg,h64⟩] at hcl
   unfold ay8 at hcl;rw [u_,t_] at hcl;by_cases h4:u.length ^ y<=4096
   ·have hg : x.gOk u=true:=by rw [hgo,decide_eq_true h64,decide_eq_true h4];rfl
    rw [hsw.2 h4,<-hW] at hwy;rw [<-hW] at h4;have hcs:∀c,c∈x.body.clsS->∀g,g∈c->g.inst y:=fun c hc g hg=>Gl.inst_sub hbi g (aI3 hc hg);have hcn:∀c,c∈x.body.clsS->c.length<=60:=fun c hc=>I_ (Gl.clsS_row x.body c hc).1 hbc;have hgn:Pg.gnd u (x :: r)=as1 u x (x.ways u) 0 x.body.clsS++Pg.gnd u r:=rfl;rw [hgn] at i2;clear hgn hsw hgo hW hbg;have hnext:=fun (L:List RV) s' (h:Over GN L (Pg.gnd u r))=>hnext L s' ⟨⟨dn++[x],by rw [i0];simp,by rw [D_,i1];simp [hg]⟩,h⟩;generalize hCS:x.body.clsS=CS at *;generalize hWW:x.ways u=W at *;have n2:¬(4096:Int)<(W:Int):=by omega
    refine rS_ Tryz.func88 ?_;simp only [go_sem,seval,n2]
    repeat' (first
     | ((first
      | (refine hcl.calls rfl ?_)
      | (refine hwy.calls rfl ?_))<;>(try simp only [go_sem,seval,n2]))
     | fail)
    refine AW.rng CS [1,8,9,13,29,30,31,66,67] 68 66 (fun L:List RV=>[(6,.own 1 L.length)]) (fun _ L=>[.box (p.enc.map .d),.grow L.length 6 132 (L.map rvE),.box (x.enc.map .d),.grow y 1 3 (vrs y)]) (fun cs L=>Over GN L (as1 u x W ((CS.length - cs.length:Nat):Int) cs++Pg.gnd u r)) L rfl (by simp) (by rw [Nat.sub_self];exact i2) A8 (fun ci c cs L hci hdc hltc hmc hinv hnc=>?_) (fun L hinv=>?_)
    ·have hcm:=d_ hci
     have hdl:=congrArg List.length hdc;simp only [List.length_drop,n_] at hdl;have hcs:=hcs c hcm;have hcn:=hcn c hcm;have hcil:ci<CS.length:=(b_.1 hci).1;rw [n_,show CS.length - (cs.length+1)=ci by omega,aK9,z_] at hinv;have hnc:=fun (L:List RV) s' (h1:Over GN L (as1 u x W ((ci+1:Nat):Int) cs++Pg.gnd u r))=>hnc L s' (by rw [show CS.length - cs.length=ci+1 by omega];exact h1);rw [show ((ci:Int)+1)=((ci+1:Nat):Int) by omega] at hinv;generalize hX:as1 u x W ((ci+1:Nat):Int) cs++Pg.gnd u r=X at *;refine rS_ Tryz.func88 ?_;simp only [go_sem,seval,hltc,d9 hci,z8];refine AW.lp [1,8,9,13,14,15,29,30,31,66,67,68] (fun q:Nat×List RV=>[(16,.d (.int .i64 (q.1:Int))),(6,.own 1 q.2.length)]) (fun _ q=>[.box (p.enc.map .d),.grow q.2.length 6 132 (q.2.map rvE),.box (x.enc.map .d),.grow y 1 3 (vrs y)]) (fun q=>q.1<=W/\Over GN q.2 (aJ0 u x (ci:Int) c q.1 (W - q.1)++X)) (fun q=>W - q.1) (0,L) ⟨s_ _,hinv⟩ A8 ?_;rintro ⟨w,L1⟩ ⟨j1,j2⟩ hnw;dsimp only at j1 j2 hnw |-;have hnw:=fun w' L' s' h=>hnw (w',L') s' h;have hL2:=j2.le;by_cases hwW:w<W
     ·have n3:(w:Int)<(W:Int):=by omega
      by_cases hw2:L1.length<=2000
      ·have n4:(L1.length:Int)<=2000:=by omega
       have hvl:=R4 u y w;have hvm:=X7 hup y w;rw [show W - w=(W - (w+1))+1 by omega,aY6,z_] at j2;have hrk:rvK u x (ci:Int) c w=if Z4 u c (G6 u y w)=true then some (aL0 x (ci:Int) c (G6 u y w)) else none:=by unfold rvK;rw [hnn]
       have hva:Gives Tryz.prog 131 [.sl (vrs y),.sl (u.map V.enc),.int .i64 w] (.d (.sl (bdD (G6 u y w)))):=aN6 u y w hup (by omega) (by omega) (by omega);have w7:IntKind.i64.wrap ((w:Int)+1)=((w+1:Nat):Int):=by rw [l6 (by omega) (by omega)];omega
       generalize G6 u y w=vs at *;have hru:=aB3 x (ci:Int) c vs (by rw [hvl];exact hcs) (by omega) z1 z3 (by omega) (by omega);rw [<-bJ6] at hru;have hre:∀d,(aL0 x (ci:Int) d vs).ru.enc=rvE (aL0 x (ci:Int) d vs):=fun d=>rfl;rw [hre,L9] at hru;unfold Z4 at hrk;cases hh:q8 (o6 vs) c with
       | false =>
        rw [hh] at hru hrk;rw [hrk] at j2;refine l7 Tryz.func88 mixed 8 _ _ (by kernel_rfl) ?_;simp only [go_sem,seval,run.eq_1,n3,n4];refine AW.drawA mixed #[true,true,true,true,true,true,true,true,true,true,true,true,false,false] [(2,.box (x.enc.map .d))] [] [0,1,2,3,4,5,11,6,7,8,9,10] [12,13] (some (11,17,132,[.string ⟨#[]⟩,.slice none 0 0,.int .i64 0,.slice none 0 0,.slice none 0 0,.slice none 0 0])) (by kernel_rfl) aD8 (by simp [x9]) ?_;simp only [go_sem,seval]
        repeat' (first
         | ((first
          | (refine hva.calls rfl ?_)
          | (refine hru.calls rfl ?_))<;>(try simp only [go_sem,seval]))
         | fail)
        refine rS_ Tryz.func88 ?_;simp only [go_sem,seval]
        repeat' (first
         | (simp (disch:=omega) only [l6])
         | fail)
        refine hnw (w+1) L1 _ ⟨by omega,j2⟩ (by dsimp only;omega) A8
       | true =>
        have hpre:=(am7 hh).1;rw [hh,hpre] at hru;rw [hh,g_] at hrk;have hiP:=an8 (u7 (o6 vs) c) u (by omega);have hiN:=an8 (r9 (o6 vs) c) u (by omega);have hrF:aL0 x (ci:Int) c vs=⟨(x.name,vs.take x.arity.toNat),(ci:Int),vs,u7 (o6 vs) c,r9 (o6 vs) c⟩:=rfl;have hpl:=bS9 hcs (o6 vs);have hnl:=bT3 hcs (o6 vs);rw [hrF] at hru hrk;dsimp only at hru;have hP1:=ad3 (o6 vs) c;have hN1:=am8 (o6 vs) c;generalize u7 (o6 vs) c=P at *;generalize r9 (o6 vs) c=N at *;by_cases hin:(P.all (aH0 u) && N.all (aH0 u))=true
        ·rw [hin,if_pos rfl] at hrk
         rw [hrk] at j2;rw [a_] at hin;rw [hin.1] at hiP;rw [hin.2] at hiN;have hcP:=au3 P (by omega) (br9 hu hin.1 hpl);have hcN:=au3 N (by omega) (br9 hu hin.2 hnl);have hcV:=aa8 vs (uniwts hu vs hvm (by omega));have hcA:=aa8 (vs.take x.arity.toNat) (uniwts hu _ (fun v hv=>hvm v (r_ hv)) (by simp;omega));have hrE:=L9 (RV.mk (x.name,vs.take x.arity.toNat) (ci:Int) vs P N);dsimp only at hrE;have hj2:Over GN (L1++[RV.mk (x.name,vs.take x.arity.toNat) (ci:Int) vs P N]) (aJ0 u x (ci:Int) c (w+1) (W - (w+1))++X):=j2.step (o:=some _) hw2 rfl;generalize (RV.mk (x.name,vs.take x.arity.toNat) (ci:Int) vs P N)=RR at *;refine l7 Tryz.func88 mixed 8 _ _ (by kernel_rfl) ?_;simp only [go_sem,seval,run.eq_1,n3,n4];refine AW.drawA mixed #[true,true,true,true,true,true,true,true,true,true,true,true,false,false] [(2,.box (x.enc.map .d))] [] [0,1,2,3,4,5,11,6,7,8,9,10] [12,13] (some (11,17,132,[.string ⟨#[]⟩,.slice none 0 0,.int .i64 0,.slice none 0 0,.slice none 0 0,.slice none 0 0])) (by kernel_rfl) aD8 (by simp [x9]) ?_;simp only [go_sem,seval]
         repeat' (first
          | ((first
           | (refine hva.calls rfl ?_)
           | (refine hru.calls rfl ?_))<;>(try simp only [go_sem,seval]))
          | fail)
         refine rS_ Tryz.func88 ?_;simp only [go_sem,seval]
         repeat' (first
          | ((first
           | (refine hiP.calls rfl ?_)
           | (refine hiN.calls rfl ?_)
           | (refine hcP.calls rfl ?_)
           | (refine hcN.calls rfl ?_)
           | (refine hcV.calls rfl ?_)
           | (refine hcA.calls rfl ?_)
           | (refine ⟨sd,?_⟩))<;>(try simp only [go_sem,seval,w7]))
          | fail)
         refine hnw (w+1) (L1++[RR]) _ ⟨by omega,hj2⟩ (by dsimp only;omega) (by refine ⟨by simp [mkS,hrE],by simp [mkS,hrE],by simp only [mkS,e_,f_,O.refsLt,C.refsLt,C.refsLt1,o5];first | done | rfl | (simp;done),?_⟩;simp [mkS,Abs.get,C.refsLtT,C.refsLt,C.refsLt1,hrE])
        ·rw [if_neg hin] at hrk
         rw [hrk] at j2;cases hp1:P.all (aH0 u) with
         | false =>
          rw [hp1] at hiP;refine l7 Tryz.func88 mixed 8 _ _ (by kernel_rfl) ?_;simp only [go_sem,seval,run.eq_1,n3,n4];refine AW.drawA mixed #[true,true,true,true,true,true,true,true,true,true,true,true,false,false] [(2,.box (x.enc.map .d))] [] [0,1,2,3,4,5,11,6,7,8,9,10] [12,13] (some (11,17,132,[.string ⟨#[]⟩,.slice none 0 0,.int .i64 0,.slice none 0 0,.slice none 0 0,.slice none 0 0])) (by kernel_rfl) aD8 (by simp [x9]) ?_;simp only [go_sem,seval]
          repeat' (first
           | ((first
            | (refine hva.calls rfl ?_)
            | (refine hru.calls rfl ?_))<;>(try simp only [go_sem,seval]))
           | fail)
          refine rS_ Tryz.func88 ?_;simp only [go_sem,seval]
          repeat' (first
           | ((refine hiP.calls rfl ?_)<;>(try simp only [go_sem,seval,w7]))
           | fail)
          refine hnw (w+1) L1 _ ⟨by omega,j2⟩ (by dsimp only;omega) A8
         | true =>
          rw [hp1] at hiP;have hp2:N.all (aH0 u)=false:=by rw [hp1,g_] at hin;simpa using hin
          rw [hp2] at hiN;refine l7 Tryz.func88 mixed 8 _ _ (by kernel_rfl) ?_;simp only [go_sem,seval,run.eq_1,n3,n4];refine AW.drawA mixed #[true,true,true,true,true,true,true,true,true,true,true,true,false,false] [(2,.box (x.enc.map .d))] [] [0,1,2,3,4,5,11,6,7,8,9,10] [12,13] (some (11,17,132,[.string ⟨#[]⟩,.slice none 0 0,.int .i64 0,.slice none 0 0,.slice none 0 0,.slice none 0 0])) (by kernel_rfl) aD8 (by simp [x9]) ?_;simp only [go_sem,seval]
          repeat' (first
           | ((first
            | (refine hva.calls rfl ?_)
            | (refine hru.calls rfl ?_))<;>(try simp only [go_sem,seval]))
           | fail)
          refine rS_ Tryz.func88 ?_;simp only [go_sem,seval]
          repeat' (first
           | ((first
            | (refine hiP.calls rfl ?_)
            | (refine hiN.calls rfl ?_))<;>(try simp only [go_sem,seval,w7]))
           | fail)
          refine hnw (w+1) L1 _ ⟨by omega,j2⟩ (by dsimp only;omega) A8
      ·have n4:¬(L1.length:Int)<=2000:=by omega
       refine rS_ Tryz.func88 ?_;simp only [go_sem,seval,n3,n4]
       repeat' (first
        | (simp (disch:=omega) only [l6])
        | fail)
       all_goals refine hnc L1 _ (j2.full hw2) A8
     ·have n3:¬(w:Int)<(W:Int):=by omega
      rw [show W - w=0 by omega] at j2;have e0:aJ0 u x (ci:Int) c w 0=[]:=rfl;rw [e0,List.nil_append] at j2;refine rS_ Tryz.func88 ?_;simp only [go_sem,seval,n3]
      repeat' (first
       | (simp (disch:=omega) only [l6])
       | fail)
      all_goals refine hnc L1 _ j2 A8
    ·have e0:as1 u x W ((CS.length - ([]:List (List Gl)).length:Nat):Int) []=[]:=rfl
     rw [e0,List.nil_append] at hinv;refine rS_ Tryz.func88 ?_;simp only [go_sem,seval]
     repeat' (first
      | (simp (disch:=omega) only [l6])
      | fail)
     all_goals refine hnext L _ hinv A8
   ·have hg:x.gOk u=false:=by rw [hgo,decide_eq_false h4,Bool.and_false]
    have h41:¬I7 u.length 4096 y 1<=4096:=fun h=>h4 (hsw.1.2 h);have n2:(4096:Int)<(I7 u.length 4096 y 1:Int):=by omega
    rw [Pg.gr_bad hxm hg,J3] at hRES;rw [<-hRES];generalize I7 u.length 4096 y 1=W at *;refine rS_ Tryz.func88 ?_;simp only [go_sem,seval,n2]
    repeat' (first
     | ((first
      | (refine hcl.calls rfl ?_)
      | (refine hwy.calls rfl ?_))<;>(try simp only [go_sem,seval,n2]))
     | fail)
  ·have hg:x.gOk u=false:=by rw [hgo,decide_eq_false h64,j_]
   rw [if_neg (fun h=>h64 h.2)] at hcl;unfold ay8 at hcl;rw [Option.getD_none,Option.isSome_none] at hcl;rw [Pg.gr_bad hxm hg,J3] at hRES;rw [<-hRES];generalize I7 u.length 4096 y 1=W at *;refine rS_ Tryz.func88 ?_;simp only [go_sem,seval]
   repeat' (first
    | ((first
     | (refine hcl.calls rfl ?_)
     | (refine hwy.calls rfl ?_))<;>(try simp only [go_sem,seval]))
    | fail)
 ·obtain ⟨⟨dn,i0,i1⟩,i2⟩:=hinv
  rw [i_] at i0;subst i0;have e0:Pg.gnd u []=[]:=rfl;rw [e0] at i2;rcases i2 with ⟨h1,h2⟩ | ⟨h1,X,h2⟩
  ·rw [i_] at h2
   rw [Pg.gr_some i1 (by rw [hGN,h2];exact h1),hGN,h2,aj5] at hRES;rw [<-hRES];have n5:¬(2000:Int)<(L.length:Int):=by omega
   refine rS_ Tryz.func88 ?_;simp only [go_sem,seval,n5]
  ·rw [Pg.gr_none (hGN.trans h2) (by omega),J3] at hRES
   rw [<-hRES];have n5:(2000:Int)<(L.length:Int):=by omega
   refine rS_ Tryz.func88 ?_;simp only [go_sem,seval,n5]
def Pg.grO (p:Pg) (u:List Tm):Option (List RV):=if N9 p=true/\U7 u=true then p.gr (u.map Tm.V) else none
theorem ar9 (p:Pg) (u:List Tm) (hw:wtL p.enc<=1048576) (hwu:∀t,t∈u->wtL t.enc<=1048576) (hlu:u.length<=9000000):Gives Tryz.prog 88 [.agg p.enc,.sl (u.map Tm.enc)] (grC (Pg.grO p u)):=by
 have ha:=F5 p (by omega);have hb:=ay1 u hwu hlu;unfold Pg.grO;by_cases h1:N9 p=true
 ·by_cases h2:U7 u=true
  ·rw [if_pos ⟨h1,h2⟩]
   obtain ⟨hu,he⟩:=Uni.of h2;rw [h2] at hb;have hee:u.map Tm.enc=(u.map Tm.V).map V.enc:=by rw [<-D6,<-he]
   rw [hee] at hb |-;exact ay2 p _ h1 hw hu hb
  ·rw [if_neg (fun h=>h2 h.2),J3]
   rw [h1] at ha;simp only [l_] at h2;rw [h2] at hb;refine aE_ Tryz.func88 ?_;refine rS_ Tryz.func88 ?_;simp only [go_sem,seval]
   repeat' (first
    | ((first
     | (refine ha.calls rfl ?_)
     | (refine hb.calls rfl ?_))<;>(try simp only [go_sem,seval]))
    | fail)
 ·rw [if_neg (fun h=>h1 h.1),J3]
  simp only [l_] at h1;rw [h1] at ha;refine aE_ Tryz.func88 ?_;refine rS_ Tryz.func88 ?_;simp only [go_sem,seval]
  repeat' (first
   | ((refine ha.calls rfl ?_)<;>(try simp only [go_sem,seval]))
   | fail)
theorem aw5 (rs:List RV) (F:List FcV) (hF:ak1 FcV.cmp F) (hl:F.length<=9000000) (hr:rs.length<=2000000):Gives Tryz.prog 69 [.sl (rs.map rvE),.sl (F.map fcE)] (.d (.sl ((R7 rs F F).map fcE))):=by
 have hmx:maxLen=9223372036854775807:=rfl;have hhf:∀f:FcV,Gives Tryz.prog 115 [.sl (F.map fcE),.agg [.str f.1,.sl (f.2.map V.enc)]] (.d (.bool (decide (f∈F)))):=fun f=>by
  have h:=bi2 F f hl hF;rw [o8] at h;exact h
 obtain ⟨RES,hRES⟩:∃RES,R7 rs F F=RES:=⟨_,rfl⟩;rw [hRES];refine aE_ Tryz.func69 ?_;refine rS_ Tryz.func69 ?_;simp only [go_sem,seval];refine AW.adopt 5 2 34 (by decide) rfl ?_;refine AW.rng rs [1,14,15] 16 14 (fun L:List FcV=>[(5,.own 0 L.length)]) (fun _ L=>[.grow L.length 2 34 (L.map fcE)]) (fun r L=>∃d,rs=d++r/\L=(d.filter (RV.fires F F)).map RV.head) [] rfl (by simp) ⟨[],rfl,rfl⟩ A8 (fun i x r L hxi hdr hlt hm hinv hnext=>?_) (fun L hinv=>?_)
 ·obtain ⟨d,d1,d2⟩:=hinv
  have hLl:L.length<=2000000:=by
   rw [d2,c_];have h1:=x_ (RV.fires F F) d;have h2:=congrArg List.length d1;simp at h2;omega
  have hfi:x.fires F F=(x.pos.all (fun f=>decide (f∈F)) && x.neg.all (fun f=>!decide (f∈F))):=by
   unfold RV.fires;simp
  have hnext:=fun (L':List FcV) s' (h:L'=L++(if x.fires F F=true then [x.head] else []))=>hnext L' s' ⟨d++[x],by rw [d1];simp,by rw [h,d2,List.filter_append,List.map_append];congr 1;cases hq:x.fires F F<;>simp [hq]⟩;clear d1 d2;refine rS_ Tryz.func69 ?_;simp only [go_sem,seval,hlt,d9 hxi,L9];refine AW.rng x.pos [1,5,7,14,15,16,21,22] 23 21 (fun b:Bool=>[(8,.d (.bool b))]) (fun _ b=>[.grow L.length 2 34 (L.map fcE),.box [.d (.str x.head.1),.d (.sl (x.head.2.map V.enc)),.d (.int .i64 x.clause),.d (.sl (x.values.map V.enc)),.d (.sl (x.pos.map fcE)),.d (.sl (x.neg.map fcE))]]) (fun r b=>∃d,x.pos=d++r/\b=d.all (fun f=>decide (f∈F))) true rfl (by simp) ⟨[],rfl,rfl⟩ A8 (fun j f r1 b hfj hdj hltj hmj hinv hnj=>?_) (fun b hinv=>?_)
  ·obtain ⟨d,d1,d2⟩:=hinv
   have hh:=hhf f;have hnj:=fun (b':Bool) s' (h:b'=(b && decide (f∈F)))=>hnj b' s' ⟨d++[f],by rw [d1];simp,by rw [h,d2,D_];simp⟩;clear d1 d2;generalize decide (f∈F)=q at *;cases b<;>· (
    refine rS_ Tryz.func69 ?_;simp only [go_sem,seval,hltj,d9 hfj,o8]
    repeat' (first
     | (simp (disch:=omega) only [l6])
     | ((refine hh.calls rfl ?_)<;>(try simp only [go_sem,seval,hltj,d9 hfj,o8]))
     | fail)
    refine hnj _ _ rfl A8)
  obtain ⟨d,d1,d2⟩:=hinv;rw [i_] at d1;subst d1;refine rS_ Tryz.func69 ?_;simp only [go_sem,seval];refine AW.rng x.neg [1,5,7,14,15,16,35,36] 37 35 (fun b:Bool=>[(8,.d (.bool b))]) (fun _ b=>[.grow L.length 2 34 (L.map fcE),.box [.d (.str x.head.1),.d (.sl (x.head.2.map V.enc)),.d (.int .i64 x.clause),.d (.sl (x.values.map V.enc)),.d (.sl (x.pos.map fcE)),.d (.sl (x.neg.map fcE))]]) (fun r b=>∃d,x.neg=d++r/\b=(x.pos.all (fun f=>decide (f∈F)) && d.all (fun f=>!decide (f∈F)))) b rfl (by simp) ⟨[],rfl,by rw [d2];simp⟩ A8 (fun j f r1 b hfj hdj hltj hmj hinv hnj=>?_) (fun b hinv=>?_)
  ·obtain ⟨d,d1,d3⟩:=hinv
   have hh:=hhf f;have hnj:=fun (b':Bool) s' (h:b'=(b && !decide (f∈F)))=>hnj b' s' ⟨d++[f],by rw [d1];simp,by rw [h,d3,D_,Bool.and_assoc];simp⟩;clear d1 d3 d2;generalize decide (f∈F)=q at *;cases b<;>· (
    refine rS_ Tryz.func69 ?_;simp only [go_sem,seval,hltj,d9 hfj,o8]
    repeat' (first
     | (simp (disch:=omega) only [l6])
     | ((refine hh.calls rfl ?_)<;>(try simp only [go_sem,seval,hltj,d9 hfj,o8]))
     | fail)
    refine hnj _ _ rfl A8)
  obtain ⟨d,d1,d3⟩:=hinv;rw [i_] at d1;subst d1;rw [<-hfi] at d3;clear hfi d2;cases b with
  | false =>
   refine rS_ Tryz.func69 ?_;simp only [go_sem,seval]
   repeat' (first
    | (simp (disch:=omega) only [l6])
    | fail)
   refine hnext L _ (by rw [<-d3];simp) A8
  | true =>
   have hFe:=o8 x.head;refine rS_ Tryz.func69 ?_;simp only [go_sem,seval]
   repeat' (first
    | (simp (disch:=omega) only [l6])
    | ((refine ⟨sd,?_⟩)<;>(try simp only [go_sem,seval]))
    | fail)
   refine hnext (L++[x.head]) _ (by rw [<-d3];simp) (by refine ⟨by simp [mkS,hFe],by simp [mkS,hFe],by simp only [mkS,e_,f_,O.refsLt,C.refsLt,C.refsLt1,o5];first | done | rfl | (simp;done),?_⟩;simp [mkS,Abs.get,C.refsLtT,C.refsLt,C.refsLt1,hFe])
 ·obtain ⟨d,d1,d2⟩:=hinv
  rw [i_] at d1;subst d1;have hLl:L.length<=2000000:=by
   rw [d2,c_];exact I_ (x_ _ _) hr
  have hs:=aK5 L hLl;rw [show al2 FcV.cmp L=RES from by rw [<-hRES,d2];rfl] at hs;refine AW.readG 5 0 rfl rfl ?_;refine rS_ Tryz.func69 ?_;simp only [go_sem,seval]
  repeat' (first
   | ((refine hs.calls rfl ?_)<;>(try simp only [go_sem,seval]))
   | fail)
theorem aK7 (a b:List FcV) (ha:a.length<=9000000) (hb:b.length<=9000000):Gives Tryz.prog 70 [.sl (a.map fcE),.sl (b.map fcE)] (.d (.bool (decide (a=b)))):=by
 have hmx:maxLen=9223372036854775807:=rfl;have hmap:∀x:List FcV,(x.map fcE).length=x.length:=fun x=>c_ _;by_cases hlen:a.length=b.length
 ·obtain ⟨RES,hRES⟩:∃RES,decide (a=b)=RES:=⟨_,rfl⟩
  rw [hRES];have n1:(a.length:Int)=(b.length:Int):=by omega
  refine aE_ Tryz.func70 ?_;refine rS_ Tryz.func70 ?_;simp only [go_sem,seval,hmap,n1];refine AW.lp [0,1,12] (fun i:Nat=>[(13,.d (.int .i64 (i:Int)))]) (fun H _=>H) (fun i=>i<=a.length/\a.take i=b.take i) (fun i=>a.length - i) 0 ⟨s_ _,rfl⟩ A8 ?_;intro i hi hni;obtain ⟨h1,h2⟩:=hi;by_cases hia:i<a.length
  ·have n2:(i:Int)<(b.length:Int):=by omega
   have n3:(i:Int)<(a.length:Int):=by omega
   obtain ⟨x,hx⟩:∃x,a[i]? = some x:=⟨_,h_ hia⟩;obtain ⟨y,hy⟩:∃y,b[i]? = some y:=⟨_,h_ (hlen ▸ hia)⟩;have ho:=aa2 x y;have w1:IntKind.i64.wrap ((i:Int)+1)=((i+1:Nat):Int):=by rw [l6 (by omega) (by omega)];omega
   by_cases hxy:x.cmp y=0
   ·have he:=(FcV.cmp_lin.zero _ _).1 hxy
    rw [hxy] at ho;refine l7 Tryz.func70 mixed 10 _ _ (by kernel_rfl) ?_;simp only [go_sem,seval,run.eq_1,n2,n3,hmap];refine AW.drawA mixed #[true,true,true,true,true,true,true,true,true,false] [] [] [0,1,2,3,4,5,6,7,8] [9] none (by kernel_rfl) trivial (by simp [x9]) ?_;simp only [go_sem,seval,hmap,n2,n3,d9 hx,d9 hy]
    repeat' (first
     | ((refine ho.calls rfl ?_)<;>(try simp only [go_sem,seval,w1]))
     | fail)
    refine rS_ Tryz.func70 ?_;simp only [go_sem,seval]
    repeat' (first
     | (simp (disch:=omega) only [l6])
     | fail)
    refine hni (i+1) _ ⟨by omega,by rw [List.take_add_one,List.take_add_one,h2,hx,hy,he]⟩ (by omega) A8
   ·have he:a≠b:=fun e=>hxy (by rw [e,hy] at hx;cases hx;exact (FcV.cmp_lin.zero _ _).2 rfl)
    rw [decide_eq_false he] at hRES;subst hRES;refine l7 Tryz.func70 mixed 10 _ _ (by kernel_rfl) ?_;simp only [go_sem,seval,run.eq_1,n2,n3,hmap];refine AW.drawA mixed #[true,true,true,true,true,true,true,true,true,false] [] [] [0,1,2,3,4,5,6,7,8] [9] none (by kernel_rfl) trivial (by simp [x9]) ?_;simp only [go_sem,seval,hmap,n2,n3,d9 hx,d9 hy]
    repeat' (first
     | ((refine ho.calls rfl ?_)<;>(try simp only [go_sem,seval,w1,hxy]))
     | fail)
    refine rS_ Tryz.func70 ?_;simp only [go_sem,seval,hxy]
    repeat' (first
     | ((refine C9 (fun hq=>?_) (fun hq=>?_))<;>(try simp only [go_sem,seval,w1,hxy,hq]))
     | fail)
    all_goals exact absurd (by assumption) hxy
  ·have n2:¬(i:Int)<(b.length:Int):=by omega
   have n3:¬(i:Int)<(a.length:Int):=by omega
   have he:a=b:=by rw [E_ (by omega),E_ (by omega)] at h2;exact h2
   rw [decide_eq_true he] at hRES;subst hRES;refine rS_ Tryz.func70 ?_;simp only [go_sem,seval,n2,n3]
 ·have n1:¬(a.length:Int)=(b.length:Int):=by omega
  rw [decide_eq_false (fun e=>hlen (by rw [e]))];refine aE_ Tryz.func70 ?_;refine rS_ Tryz.func70 ?_;simp only [go_sem,seval,hmap,n1]
  repeat' (first
   | ((refine C9 (fun hq=>?_) (fun hq=>?_))<;>(try simp only [go_sem,seval,hmap,n1,hq]))
   | fail)
  all_goals (exfalso;omega)
def aX1 (P:Program) (s:St) (o:Oper) (K:C->List O->Prop):Prop:=
 match o.op with
 | .buildSlice _ 0 _=>Q3 P s o K
 | _=>bd1 P s o K
theorem aJ8 {P:Program} {s:St} {o:Oper} {K:C->List O->Prop} (h:aX1 P s o K):G9 P s o K:=by
 unfold aX1 at h;split at h
 ·exact G7 h
 ·exact aR5 h
def bc8 (P:Program) (n:Nat) (K:St->Prop):List Oper->St->Prop
 | [],⟨σ,H⟩=>K ⟨σ,H⟩
 | o :: rest,⟨σ,H⟩=>I4 n o=true/\o.guard=none/\aX1 P ⟨σ,H⟩ o (kR (bc8 P n K rest) ⟨σ,H⟩ o.dst)
theorem aq2 {P:Program} {n:Nat} {K:St->Prop} {ops:Array Oper} {E0:Env}:∀(os:List Oper) (l:List Nat) (s:St) (E:Env) (a:Act),l.map (ops[·]?)=os.map some->RepSt E n s a->Le E0 E->bc8 P n K os s ->
  wpOps P ops (Behind n E0 K) l a E.w
 | [],l,s,E,a,hl,hst,hle,h=>by
  have:l=[]:=by simpa using hl
  subst this;exact ⟨rfl,E,s,rfl,hst,hle,h⟩
 | o :: os,l,s,E,a,hl,hst,hle,h=>by
  cases l with
  | nil=>simp at hl
  | cons i l =>
   simp only [q_,List.cons.injEq] at hl;obtain ⟨ho,hl⟩:=hl;unfold bc8 at h;obtain ⟨hd,hg,h⟩:=h;have hdst:∀d,o.dst=some d->d<n:=fun d hd'=>by
    unfold I4 at hd;rw [hd'] at hd;simpa using hd
   rw [Go.wpOps_cons];refine ak7 (n:=n) ho hg ((aJ8 h).run hst (fun v E' c H' h1 h2 h3 h4=>?_));exact aq2 os l _ E' _ hl (hst.put h3 h2 hdst h1) (hle.trans h3) h4
theorem bv8 {P:Program} {n:Nat} {f:FuncId} {n0:Nat} {R:C->List O->Prop} {id:Nat} {ops:Array Oper} {k:List Item} {s:St} (h:bc8 P n (AW P f n n0 R k) ops.toList s):AW P f n n0 R (.code (.region id ops false) :: k) s:=by
 refine AW.of_behind (k':=k) fun _ E a b cs hst=>?_;have hw:=aq2 (ops:=ops) ops.toList (List.range ops.size) s E a (by
  apply List.ext_getElem?;intro j;simp only [List.getElem?_map];by_cases hj:j<ops.size
  ·rw [List.getElem?_range hj]
   simp [hj]
  ·rw [y_ (by simpa using hj),y_ (by simpa using hj)]
   rfl) hst (Le.refl E) h
 obtain ⟨e,a',w',⟨rfl,E',s',rfl,h1,h2,h3⟩,harr⟩:=wp_region (id:=id) hw b k cs;exact ⟨a',E',s',harr,h1,h2,h3⟩
attribute [go_sem] aX1.eq_def bc8.eq_1 bc8.eq_2
theorem bH3 {P:Program} {f:FuncId} {n n0:Nat} {R:C->List O->Prop} {k:List Item} {s:St} (r:Nat) {q z e:Nat} {xs:List (List D)} (hr:s.H[r]? = some (.buf q z e xs))
  (h:AW P f n n0 R k ⟨s.σ,s.H.set r (.grow q z e xs)⟩):AW P f n n0 R k s:=by
 refine AW.recast (s':=⟨s.σ,s.H.set r (.grow q z e xs)⟩) (fun h0 E a hst=>?_);obtain ⟨h1,h2,h3,h4⟩:=hst.heap.obj r _ hr;have hrl:=(b_.1 hr).1;rcases h4 with ⟨ad,h5,rfl⟩ | ⟨b0,cap,arr,h5,h6,h7,h8,h9,h10,h11,h12⟩
 ·refine ⟨E,rfl,Le.refl E,⟨hst.size,hst.defers,?_,hst.slot⟩,h⟩
  refine hst.heap.turn (r0:=r) (o0:=.grow q z e []) (Le.refl E) (by simp [hst.heap.N]) (fun r' hr'=>?_) (fun o' ho'=>?_) (fun _ _ _=>rfl) (fun r' o' b hr' ho' hb=>⟨rfl,fun i hs=>hs⟩) (fun _ hb=>hb) (fun b i hs=>hst.heap.Slt b i hs) ⟨h1,h2,h3,.inl ⟨ad,h5,rfl⟩⟩ (fun b hb=>by have hb':ownB (E.τ r).2=some b:=hb;rw [h5] at hb';cases ad<;>simp [ownB] at hb')
  ·rw [List.getElem?_set_ne (fun e=>hr' e.symm)]
  ·rw [F_ hrl] at ho'
   exact (Option.some.inj ho').symm
 ·have hx:=List.length_pos_iff.2 h7
  have hblk:(O.buf q z e xs).block E r b0:=by simp [O.block,h5,ownB];omega
  have hpv:=hst.heap.pv r _ _ hr hblk;have hlb:=hst.heap.lt r _ _ hr hblk;let E1:Env:={ E with S:=fun b i=>E.S b i\/(b=b0/\i<xs.length * z) }
  have hl:Le E E1:=by
   refine ⟨rfl,rfl,rfl,v_ _,v_ _,fun _ _=>rfl,fun _ _=>⟨v_ _,fun _=>rfl⟩,fun _ _ hs=>.inl hs,fun _ _ _=>rfl,fun _ _ _=>rfl,fun b i hs=>?_,fun _ hp=>.inl hp,fun _ _ _ _ _ hh=>hh⟩;rcases hs with hs | ⟨rfl,_⟩
   ·exact .inl hs
   ·exact .inr (.inr hpv)
  refine ⟨E1,rfl,hl,⟨hst.size,hst.defers,?_,fun t=>(hst.slot t).le hl⟩,h⟩;refine hst.heap.turn (r0:=r) (o0:=.grow q z e xs) hl (by simp [E1,hst.heap.N]) (fun r' hr'=>?_) (fun o' ho'=>?_) (fun _ _ _=>rfl) (fun r' o' b hr' ho' hb=>⟨rfl,fun i hs=>?_⟩) (fun _ hb=>hb) (fun b i hs=>?_) ⟨h1,h2,h3,.inr ⟨b0,cap,arr,h5,h6,by omega,h8,h9,h10,fun i j x c hi hj=>?_,fun i hi hS=>?_⟩⟩ (fun b hb=>⟨?_,?_,?_⟩)
  ·rw [List.getElem?_set_ne (fun e=>hr' e.symm)]
  ·rw [F_ hrl] at ho'
   exact (Option.some.inj ho').symm
  ·rcases hs with hs | ⟨rfl,_⟩
   ·exact hs
   ·exact absurd (hst.heap.apart r' r o' _ _ ho' hr hb hblk) hr'
  ·rcases hs with hs | ⟨rfl,_⟩
   ·exact hst.heap.Slt b i hs
   ·exact hlb
  ·obtain ⟨v,k2,k3,k4⟩:=h11 i j x c hi hj
   have hil:i<xs.length:=(b_.1 hi).1;have hjl:j<z:=by rw [<-h2 x (d_ hi)];exact (b_.1 hj).1
   have hm:(i+1) * z<=xs.length * z:=Nat.mul_le_mul_right z (by omega);rw [Nat.add_mul] at hm;exact ⟨.inr ⟨rfl,by omega⟩,v,k2,k3,k4.le hl⟩
  ·rcases hS with hS | ⟨_,hlt⟩
   ·exact h12 i hS
   ·omega
  ·have hb':(O.buf q z e xs).block E r b:=hb
   exact hst.heap.pv r _ _ hr hb'
  ·have hb':(O.buf q z e xs).block E r b:=hb
   exact hst.heap.lt r _ _ hr hb'
  ·have hb':(O.buf q z e xs).block E r b:=hb
   exact fun r' o' hr' ho' hb2=>hr' (hst.heap.apart r' r o' _ b ho' hr hb2 hb')
def ax8 (rs:List RV) (m:Nat):List (List D):=(List.range m).map fun i=>[.sl ((stg rs i).map fcE)]
theorem aY1 (rs:List RV) (m:Nat):ax8 rs (m+1)=ax8 rs m++[[.sl ((stg rs m).map fcE)]]:=by simp [ax8,List.range_succ]
theorem aY3 (rs:List RV):ax8 rs 1=[[.sl []]]:=rfl
@[go_sem] theorem aY2 (rs:List RV) (m:Nat):(ax8 rs m).length=m:=by simp [ax8]
theorem al1 (rs:List RV) {i m:Nat} (h:i<m):(ax8 rs m)[i]? = some [.sl ((stg rs i).map fcE)]:=by
 unfold ax8;rw [List.getElem?_map,List.getElem?_range h];rfl
def bZ9 (rs:List RV):Prop:=∀r,r∈rs->r.neg=[]
theorem bp0 {rs:List RV} (h:bZ9 rs) (F:List FcV):R7 rs F F=R7 rs F []:=by
 unfold R7;congr 2;refine List.filter_congr fun r hr=>?_;unfold RV.fires;rw [h r hr];rfl
theorem bn1 (rs:List RV) (hr:rs.length<=2000000) (hp:bZ9 rs):Gives Tryz.prog 35 [.sl (rs.map rvE)] (.d (.sl (ax8 rs (top rs+1)))):=by
 have hmx:maxLen=9223372036854775807:=rfl;obtain ⟨t1,t2,t3⟩:=O8 rs;obtain ⟨RES,hRES⟩:∃RES,ax8 rs (top rs+1)=RES:=⟨_,rfl⟩;rw [hRES];refine aE_ Tryz.func35 ?_;refine l7 Tryz.func35 mixed 3 _ _ (by kernel_rfl) ?_;simp only [go_sem,seval,run.eq_1];refine bv8 ?_;simp only [go_sem,seval]
 repeat' (first
  | ((refine L6 (fun Bz=>?_))<;>(try simp only [go_sem,seval]))
  | fail)
 refine AW.treeB 0 rfl (by simp [D.flat]) ?_;refine bH3 0 rfl ?_;refine rS_ Tryz.func35 ?_;simp only [go_sem,seval];refine AW.lp [0] (fun k:Nat=>[(3,.own 0 k)]) (fun _ k=>[.grow k 1 39 (ax8 rs (k+1))]) (fun k=>k<=top rs) (fun k=>top rs - k) 0 (s_ _) (by refine ⟨by simp [mkS,aY3],by simp [mkS,aY3],by simp only [mkS,e_,f_,O.refsLt,C.refsLt,C.refsLt1,o5];first | done | rfl | (simp;done),?_⟩;simp [mkS,Abs.get,C.refsLtT,C.refsLt,C.refsLt1]) ?_;intro k hk hnk;have w1:IntKind.i64.wrap ((k:Int)+1 - 1)=(k:Int):=by rw [l6 (by omega) (by omega)];omega
 have n1:(k:Int)<(k:Int)+1:=by omega
 have hat:=al1 rs (i:=k) (m:=k+1) (by omega);have hl1:=U9 rs k;have hl2:=U9 rs (k+1);have hc:=aw5 rs (stg rs k) (al0 rs k) (by omega) hr;rw [bp0 hp,show R7 rs (stg rs k) []=stg rs (k+1) from rfl] at hc;have hsf:=aK7 (stg rs (k+1)) (stg rs k) (by omega) (by omega);by_cases hs:stg rs (k+1)=stg rs k
 ·rw [decide_eq_true hs] at hsf
  have hkt:k=top rs:=bF4 hs (fun j hj=>t3 j (by omega));rw [<-hkt] at hRES;rw [<-hRES];refine rS_ Tryz.func35 ?_;simp only [go_sem,seval,w1,n1,d9 hat]
  repeat' (first
   | ((first
    | (refine hc.calls rfl ?_)
    | (refine hsf.calls rfl ?_))<;>(try simp only [go_sem,seval,w1,n1,d9 hat]))
   | fail)
 ·rw [decide_eq_false hs] at hsf
  have hkt:k<top rs:=by
   rcases H_ k (top rs) with h | h
   ·exact h
   ·rw [show k=top rs by omega] at hs;exact absurd t2 hs
  refine rS_ Tryz.func35 ?_;simp only [go_sem,seval,w1,n1,d9 hat]
  repeat' (first
   | ((first
    | (refine hc.calls rfl ?_)
    | (refine hsf.calls rfl ?_)
    | (refine ⟨sd,?_⟩))<;>(try simp only [go_sem,seval,w1,n1,d9 hat]))
   | fail)
  refine hnk (k+1) _ (by omega) (by omega) (by refine ⟨by simp [mkS,aY1],by simp [mkS,aY1],by simp only [mkS,e_,f_,O.refsLt,C.refsLt,C.refsLt1,o5];first | done | rfl | (simp;done),?_⟩;simp [mkS,Abs.get,C.refsLtT,C.refsLt,C.refsLt1])
theorem X3 (a b:FcV):Gives Tryz.prog 93 [.agg [.str a.1,.sl (a.2.map V.enc)],.agg [.str b.1,.sl (b.2.map V.enc)]] (.d (.int .i64 (a.cmp b))):=by
 have h:Gives Tryz.prog 93 [.agg (fcE a),.agg (fcE b)] (.d (.int .i64 (a.cmp b))):=aN3 a.1 b.1 a.2 b.2;rw [o8,o8] at h;exact h
theorem ai9 (l:List FcV) (f:FcV) (hl:l.length<=9000000):Gives Tryz.prog 136 [.sl (l.map fcE),.agg (fcE f)] (.d (.bool (decide (f∈l)))):=by
 obtain ⟨K,hK⟩:∃K,decide (f∈l)=K:=⟨_,rfl⟩;rw [hK,o8];refine aE_ Tryz.func136 ?_;refine rS_ Tryz.func136 ?_;simp only [go_sem,seval];refine AW.rng l [3,7,8] 9 7 (fun _:Unit=>[]) (fun H _=>H) (fun r _=>decide (f∈r)=K) () rfl (by simp) hK A8 (fun j y q b hyj hdr2 hlt2 hm2 hinv2 hnext2=>?_) (fun b hinv2=>?_)
 ·have he:=X3 y f
  by_cases hc:y.cmp f=0
  ·have hyf:=(FcV.cmp_lin.zero _ _).1 hc
   rw [hc] at he;subst hyf;simp only [List.mem_cons,true_or,decide_true] at hinv2;rw [<-hinv2];refine rS_ Tryz.func136 ?_;simp only [go_sem,seval,hlt2,d9 hyj,o8]
   repeat' (first
    | ((refine he.calls rfl ?_)<;>(try simp only [go_sem,seval,hlt2,d9 hyj,o8]))
    | fail)
  ·have hyf:¬f=y:=fun e=>hc ((FcV.cmp_lin.zero _ _).2 e.symm)
   simp only [List.mem_cons,hyf,false_or] at hinv2;refine rS_ Tryz.func136 ?_;simp only [go_sem,seval,hlt2,d9 hyj,o8,hc]
   repeat' (first
    | (simp (disch:=omega) only [l6])
    | (refine hnext2 () _ hinv2 A8)
    | ((refine he.calls rfl ?_)<;>(try simp only [go_sem,seval,hlt2,d9 hyj,o8,hc]))
    | fail)
   all_goals exact absurd (by assumption) hc
 ·simp only [List.not_mem_nil,decide_false] at hinv2
  rw [<-hinv2];refine rS_ Tryz.func136 ?_;simp only [go_sem,seval]
theorem aN2 (l:List FcV) (f:FcV) (ha:ak1 FcV.cmp l) (hl:l.length<=1000000):Gives Tryz.prog 160 [.sl (l.map fcE),.agg (fcE f)] (.d (.sl ((ae0 FcV.cmp l f).map fcE))):=by
 have hmx:maxLen=9223372036854775807:=rfl;have hmap:∀x:List FcV,(x.map fcE).length=x.length:=fun x=>c_ _;obtain ⟨RES,hRES⟩:∃RES,ae0 FcV.cmp l f=RES:=⟨_,rfl⟩;have hFe:=o8 f;rw [hRES,hFe];refine aE_ Tryz.func160 ?_;refine rS_ Tryz.func160 ?_;simp only [go_sem,seval,hmap];refine AW.lp [0,3] (fun k:Nat=>[(5,.d (.int .i64 (k:Int)))]) (fun H _=>H) (fun k=>k<=l.length/\∀i y,k<=i->l[i]? = some y->¬y.cmp f<0) (fun k=>k) l.length ⟨v_ _,fun i y hi hy=>by have:=(b_.1 hy).1;omega⟩ A8 ?_;intro k hk hnk;obtain ⟨k1,k2⟩:=hk;have stop:(∀i y,i<k->l[i]? = some y->y.cmp f<0)->ae0 FcV.cmp l f=if ae2 FcV.cmp l k f then l else l.take k++f :: l.drop k:=fun h=>aU7 FcV.cmp_lin l f k ha k1 h k2
 by_cases hkz:k=0
 ·have n1:¬(0:Int)<(k:Int):=by omega
  have hst:=stop (fun i y hi=>by omega);clear stop hnk;rw [hRES] at hst;have hks:(0:Int)<=(k:Int):=by omega
  cases hlk:l[k]? with
  | none =>
   have hkl:k=l.length:=by have:=p_.1 hlk;omega
   have m1:¬(k:Int)<(l.length:Int):=by omega
   have hq:ae2 FcV.cmp l k f=false:=by unfold ae2;rw [hlk]
   rw [hq,if_neg (by simp)] at hst;rw [hst];refine rS_ Tryz.func160 ?_;simp only [go_sem,seval,n1,hmap,m1,hks];skip
   repeat' (first
    | ((refine ⟨sd,?_⟩)<;>(try simp only [go_sem,seval,n1,hmap,m1,hks]))
    | fail)
   all_goals simp [hFe,m_,k_]
  | some z =>
   have m1:(k:Int)<(l.length:Int):=by have:=(b_.1 hlk).1;omega
   have hz:=X3 z f;by_cases hzf:z.cmp f=0
   ·have hq:ae2 FcV.cmp l k f=true:=by unfold ae2;rw [hlk];simp [hzf]
    rw [hq,if_pos rfl] at hst;rw [hzf] at hz;rw [hst];refine rS_ Tryz.func160 ?_;simp only [go_sem,seval,n1,hmap,m1,hks,d9 hlk,o8];skip
    repeat' (first
     | ((refine hz.callQ rfl ?_)<;>(try simp only [go_sem,seval,n1,hmap,m1,hks,d9 hlk,o8]))
     | fail)
   ·have hq:ae2 FcV.cmp l k f=false:=by unfold ae2;rw [hlk];simp [hzf]
    rw [hq,if_neg (by simp)] at hst;rw [hst];refine rS_ Tryz.func160 ?_;simp only [go_sem,seval,n1,hmap,m1,hks,d9 hlk,o8,hzf];skip
    repeat' (first
     | ((first
      | (refine hz.callQ rfl ?_)
      | (refine ⟨sd,?_⟩))<;>(try simp only [go_sem,seval,n1,hmap,m1,hks,d9 hlk,o8,hzf]))
     | fail)
    all_goals first | (exact absurd (by assumption) hzf) | skip
    all_goals simp [hFe,m_,k_]
 ·obtain ⟨y,hy⟩:∃y,l[k - 1]? = some y:=⟨_,h_ (by omega)⟩
  have n1:(0:Int)<(k:Int):=by omega
  have w1:IntKind.i64.wrap ((k:Int) - 1)=((k - 1:Nat):Int):=by rw [l6 (by omega) (by omega)];omega
  have n2:((k - 1:Nat):Int)<(l.length:Int):=by omega
  have he:=X3 y f;by_cases hc:y.cmp f<0
  ·have hc':¬(0:Int)<=y.cmp f:=by omega
   have hst:=stop (fun i z hi hz=>by
    by_cases e:i=k - 1
    ·subst e;rw [hz] at hy;cases hy;exact hc
    ·exact FcV.cmp_lin.tr _ _ _ (aI6 ha (show i<k - 1 by omega) hz hy) hc)
   clear stop hnk;rw [hRES] at hst;have hks:(0:Int)<=(k:Int):=by omega
   cases hlk:l[k]? with
   | none =>
    have hkl:k=l.length:=by have:=p_.1 hlk;omega
    have m1:¬(k:Int)<(l.length:Int):=by omega
    have hq:ae2 FcV.cmp l k f=false:=by unfold ae2;rw [hlk]
    rw [hq,if_neg (by simp)] at hst;rw [hst];refine rS_ Tryz.func160 ?_;simp only [go_sem,seval,n1,w1,n2,d9 hy,hmap,o8,hc,hc',m1,hks]
    repeat' (first
     | ((first
      | (refine he.callQ rfl ?_)
      | (refine ⟨sd,?_⟩))<;>(try simp only [go_sem,seval,n1,w1,n2,d9 hy,hmap,o8,hc,hc',m1,hks]))
     | fail)
    all_goals simp [hFe,m_,k_]
   | some z =>
    have m1:(k:Int)<(l.length:Int):=by have:=(b_.1 hlk).1;omega
    have hz:=X3 z f;by_cases hzf:z.cmp f=0
    ·have hq:ae2 FcV.cmp l k f=true:=by unfold ae2;rw [hlk];simp [hzf]
     rw [hq,if_pos rfl] at hst;rw [hzf] at hz;rw [hst];refine rS_ Tryz.func160 ?_;simp only [go_sem,seval,n1,w1,n2,d9 hy,hmap,o8,hc,hc',m1,hks,d9 hlk,o8]
     repeat' (first
      | ((first
       | (refine he.callQ rfl ?_)
       | (refine hz.callQ rfl ?_))<;>(try simp only [go_sem,seval,n1,w1,n2,d9 hy,hmap,o8,hc,hc',m1,hks,d9 hlk,o8]))
      | fail)
    ·have hq:ae2 FcV.cmp l k f=false:=by unfold ae2;rw [hlk];simp [hzf]
     rw [hq,if_neg (by simp)] at hst;rw [hst];refine rS_ Tryz.func160 ?_;simp only [go_sem,seval,n1,w1,n2,d9 hy,hmap,o8,hc,hc',m1,hks,d9 hlk,o8,hzf]
     repeat' (first
      | ((first
       | (refine he.callQ rfl ?_)
       | (refine hz.callQ rfl ?_)
       | (refine ⟨sd,?_⟩))<;>(try simp only [go_sem,seval,n1,w1,n2,d9 hy,hmap,o8,hc,hc',m1,hks,d9 hlk,o8,hzf]))
      | fail)
     all_goals first | (exact absurd (by assumption) hzf) | skip
     all_goals simp [hFe,m_,k_]
  ·have hc':(0:Int)<=y.cmp f:=by omega
   refine rS_ Tryz.func160 ?_;simp only [go_sem,seval,n1,w1,n2,d9 hy,hmap,o8,hc,hc']
   repeat' (first
    | ((refine he.callQ rfl ?_)<;>(try simp only [go_sem,seval,n1,w1,n2,d9 hy,hmap,o8,hc,hc']))
    | fail)
   refine hnk (k - 1) _ ⟨by omega,fun i z hi hz=>?_⟩ (by omega) A8;by_cases e:i=k - 1
   ·subst e;rw [hz] at hy;cases hy;exact hc
   ·exact k2 i z (by omega) hz
theorem au2 (r:RV) (F G:List FcV) (hF:F.length<=9000000) (hG:G.length<=9000000):Gives Tryz.prog 94 [.agg (rvE r),.sl (F.map fcE),.sl (G.map fcE)] (.d (.bool (r.fires F G))):=by
 obtain ⟨K,hK⟩:∃K,r.fires F G=K:=⟨_,rfl⟩;rw [hK,L9];unfold RV.fires at hK;refine aE_ Tryz.func94 ?_;refine rS_ Tryz.func94 ?_;simp only [go_sem,seval];refine AW.rng r.pos [1,2,3,12,13] 14 12 (fun _:Unit=>[]) (fun H _=>H) (fun q _=>((q.all fun f=>decide (f∈F)) && r.neg.all fun f=>!decide (f∈G))=K) () rfl (by simp) hK A8 (fun j y q b hyj hdr2 hlt2 hm2 hinv2 hnext2=>?_) (fun b hinv2=>?_)
 ·have he:=ai9 F y hF
  rw [o8] at he;rw [e_] at hinv2;generalize decide (y∈F)=b2 at he hinv2;cases b2 with
  | true =>
   rw [g_] at hinv2;refine rS_ Tryz.func94 ?_;simp only [go_sem,seval,hlt2,d9 hyj,o8]
   repeat' (first
    | (simp (disch:=omega) only [l6])
    | (refine hnext2 () _ hinv2 A8)
    | ((refine he.calls rfl ?_)<;>(try simp only [go_sem,seval,hlt2,d9 hyj,o8]))
    | fail)
  | false =>
   simp only [j_] at hinv2;rw [<-hinv2];refine rS_ Tryz.func94 ?_;simp only [go_sem,seval,hlt2,d9 hyj,o8]
   repeat' (first
    | ((refine he.calls rfl ?_)<;>(try simp only [go_sem,seval,hlt2,d9 hyj,o8]))
    | fail)
 ·rw [f_,g_] at hinv2
  refine rS_ Tryz.func94 ?_;simp only [go_sem,seval];refine AW.rng r.neg [2,24,25] 26 24 (fun _:Unit=>[]) (fun H _=>H) (fun q _=>(q.all fun f=>!decide (f∈G))=K) () rfl (by simp) hinv2 A8 (fun j y q b hyj hdr2 hlt2 hm2 hinv3 hnext2=>?_) (fun b hinv3=>?_)
  ·have he:=ai9 G y hG
   rw [o8] at he;rw [e_] at hinv3;generalize decide (y∈G)=b2 at he hinv3;cases b2 with
   | false =>
    rw [Bool.not_false,g_] at hinv3;refine rS_ Tryz.func94 ?_;simp only [go_sem,seval,hlt2,d9 hyj,o8]
    repeat' (first
     | (simp (disch:=omega) only [l6])
     | (refine hnext2 () _ hinv3 A8)
     | ((refine he.calls rfl ?_)<;>(try simp only [go_sem,seval,hlt2,d9 hyj,o8]))
     | fail)
   | true =>
    simp only [Bool.not_true,j_] at hinv3;rw [<-hinv3];refine rS_ Tryz.func94 ?_;simp only [go_sem,seval,hlt2,d9 hyj,o8]
    repeat' (first
     | ((refine he.calls rfl ?_)<;>(try simp only [go_sem,seval,hlt2,d9 hyj,o8]))
     | fail)
  ·rw [f_] at hinv3
   rw [<-hinv3];refine rS_ Tryz.func94 ?_;simp only [go_sem,seval]
theorem bg4 (rs:List RV) (F G:List FcV) (hF:F.length<=9000000) (hG:G.length<=9000000) (hr:rs.length<=1000000):Gives Tryz.prog 133 [.sl (rs.map rvE),.sl (F.map fcE),.sl (G.map fcE)] (.d (.sl ((R7 rs F G).map fcE))):=by
 obtain ⟨RES,hRES⟩:∃RES,R7 rs F G=RES:=⟨_,rfl⟩;rw [hRES];refine aE_ Tryz.func133 ?_;refine rS_ Tryz.func133 ?_;simp only [go_sem,seval];refine AW.nilG 7 rfl ?_;refine AW.rng rs [1,2,11,12] 13 11 (fun L:List FcV=>[(7,.d (.sl (L.map fcE)))]) (fun H _=>H) (fun r L=>∃d,rs=d++r/\L=al2 FcV.cmp ((d.filter (RV.fires F G)).map RV.head)) [] rfl (by simp) ⟨[],rfl,rfl⟩ A8 (fun i x r L hxi hdr hlt hm hinv hnext=>?_) (fun L hinv=>?_)
 ·obtain ⟨d,d1,d2⟩:=hinv
  have hLl:L.length<=1000000:=by
   have h0:=ar6 (c:=FcV.cmp) ((d.filter (RV.fires F G)).map RV.head);rw [<-d2,c_] at h0;have h1:=x_ (RV.fires F G) d;have h2:=congrArg List.length d1;simp at h2;omega
  have hLa:ak1 FcV.cmp L:=by rw [d2];exact ah6 FcV.cmp_lin _
  have hfr:=au2 x F G hF hG;have hin:=aN2 L x.head hLa hLl;rw [o8] at hin;rw [L9] at hfr;have hnext:=fun (L':List FcV) s' (h:L'=(if x.fires F G=true then ae0 FcV.cmp L x.head else L))=>hnext L' s' ⟨d++[x],by rw [d1];simp,by rw [h,d2,List.filter_append,List.map_append];unfold al2;rw [List.foldl_append];cases hq:x.fires F G<;>simp [hq]⟩;clear d1 d2;generalize x.fires F G=b at *;cases b with
  | true =>
   refine rS_ Tryz.func133 ?_;simp only [go_sem,seval,hlt,d9 hxi,L9]
   repeat' (first
    | (simp (disch:=omega) only [l6])
    | ((first
     | (refine hfr.calls rfl ?_)
     | (refine hin.calls rfl ?_))<;>(try simp only [go_sem,seval,hlt,d9 hxi,L9]))
    | fail)
   refine hnext (ae0 FcV.cmp L x.head) _ rfl A8
  | false =>
   refine rS_ Tryz.func133 ?_;simp only [go_sem,seval,hlt,d9 hxi,L9]
   repeat' (first
    | (simp (disch:=omega) only [l6])
    | ((refine hfr.calls rfl ?_)<;>(try simp only [go_sem,seval,hlt,d9 hxi,L9]))
    | fail)
   refine hnext L _ rfl A8
 ·obtain ⟨d,d1,d2⟩:=hinv
  rw [i_] at d1;subst d1;rw [show RES=L from by rw [<-hRES,d2];rfl];refine rS_ Tryz.func133 ?_;simp only [go_sem,seval]
theorem bk3 (rel:List UInt8) (vs:List V) (hl:vs.length<=100000000):l8 Tryz.prog 25 [.d (.agg [.str rel,.sl (vs.map V.enc)])] [.hole] (fun c H'=>c=.agg [.d (.str rel),.own 0 1]/\∃e B,H'=[.tree 1 4 e (vs.map V.enc) B none]):=by
 have hct:=aw4 vs hl;unfold ca5 at hct;refine aE_ Tryz.func25 ?_;refine l7 Tryz.func25 mixed 3 _ _ (by kernel_rfl) ?_;simp only [go_sem,seval,run.eq_1];refine AW.drawA mixed #[true,true,true,true,true,true,false] [(1,.box [.d (.str rel),.d (.sl (vs.map V.enc))])] [] [0,1,2,3,4,5] [6] none (by kernel_rfl) trivial (by simp [x9]) ?_;simp only [go_sem,seval]
 repeat' (first
  | ((refine l8.fresh (ds:=[.sl (vs.map V.enc)]) (m:=1) hct [0] rfl rfl (by simp) (by simp) ?_<;>(rintro c H' ⟨rfl,e1,B1,rfl⟩ _;refine ⟨rfl,rfl,?_⟩))<;>(try simp only [go_sem,seval]))
  | fail)
 refine rS_ Tryz.func25 ?_;simp only [go_sem,seval]
 repeat' (first
  | (exact ⟨_,_,rfl⟩)
  | fail)
theorem aY7 {u:List V} {x:Rl} {i:Int} {c:List Gl} {r:RV}:∀m k,r∈aJ0 u x i c k m->∃w,Z4 u c (G6 u (x.arity+x.locals).toNat w)=true/\r=aL0 x i c (G6 u (x.arity+x.locals).toNat w)
 | 0,k,h=>by simp [aJ0] at h
 | m+1,k,h=>by
  rw [aY6] at h;rcases C_.1 h with h | h
  ·unfold rvK at h
   split at h
   ·rename_i hf
    simp at h;exact ⟨k,hf,h⟩
   ·simp at h
  ·exact aY7 m (k+1) h
theorem aZ0 {u:List V} {x:Rl} {n:Nat} {r:RV}:∀(cs:List (List Gl)) (i:Int),r∈as1 u x n i cs->∃c,c∈cs/\∃j w,Z4 u c (G6 u (x.arity+x.locals).toNat w)=true/\r=aL0 x j c (G6 u (x.arity+x.locals).toNat w)
 | [],i,h=>by simp [as1] at h
 | c :: cs,i,h=>by
  rw [aK9] at h;rcases C_.1 h with h | h
  ·obtain ⟨w,h1,h2⟩:=aY7 _ _ h
   exact ⟨c,by simp,i,w,h1,h2⟩
  ·obtain ⟨c',h1,h2⟩:=aZ0 cs (i+1) h
   exact ⟨c',by simp [h1],h2⟩
theorem av3 {u:List V} {r:RV}:∀rels:List Rl,r∈Pg.gnd u rels->∃x,x∈rels/\∃c,c∈x.body.clsS/\∃j w,Z4 u c (G6 u (x.arity+x.locals).toNat w)=true/\r=aL0 x j c (G6 u (x.arity+x.locals).toNat w)
 | [],h=>by simp [Pg.gnd] at h
 | x :: xs,h=>by
  rw [show Pg.gnd u (x :: xs)=as1 u x (x.ways u) 0 x.body.clsS++Pg.gnd u xs from rfl] at h;rcases C_.1 h with h | h
  ·obtain ⟨c,h1,h2⟩:=aZ0 _ _ h
   exact ⟨x,by simp,c,h1,h2⟩
  ·obtain ⟨y,h1,h2⟩:=av3 xs h
   exact ⟨y,by simp [h1],h2⟩
theorem aC1 {p:Pg} {u:List V} {rs:List RV} (h:p.gr u=some rs):rs=Pg.gnd u p.rels/\rs.length<=2000:=by
 unfold Pg.gr at h;split at h
 ·rename_i h2
  obtain rfl:=Option.some.inj h;exact ⟨rfl,h2.2⟩
 ·cases h
theorem bM8 {p:Pg} {u:List V} {rs:List RV} (hp:N9 p=true) (hu:Uni u) (h:p.gr u=some rs):∀r,r∈rs->(∀v,v∈r.head.2->v∈u)/\r.head.2.length<=12:=fun r hr=>by
 obtain ⟨rfl,_⟩:=aC1 h;obtain ⟨x,hx,c,_,j,w,_,rfl⟩:=av3 _ hr;obtain ⟨z1,z2,z3,z4⟩:=Pg.dims hp hx;have hvl:=R4 u (x.arity+x.locals).toNat w;refine ⟨fun v hv=>X7 hu.pos _ _ v (r_ hv),?_⟩;simp only [aL0,A_];omega
theorem bp2 {p:Pg} {u:List V} {rs:List RV} (hp:N9 p=true) (hu:Uni u) (h:p.gr u=some rs) (F G:List FcV):∀f,f∈R7 rs F G->(∀v,v∈f.2->v∈u)/\f.2.length<=12:=fun f hf=>by
 obtain ⟨r,h1,_,rfl⟩:=aa4.1 hf;exact bM8 hp hu h r h1
def Fc.toV (f:Fc):FcV:=(f.rel,f.args.map Tm.V)
theorem bl0 {l:List (List D)} {x:List D} (h:x∈l):wtL x<=wtR l:=by
 have:=ad6 l x h;omega
theorem bH4 (l:List (List D)):l.length<=wtR l:=by
 have:=U8 l 0;simp [bd3] at this;omega
theorem bK5 {u:List V} (hu:Uni u) {l:List FcV} (h:∀f,f∈l->(∀v,v∈f.2->v∈u)/\f.2.length<=12):∀f,f∈l->wtR (f.2.map V.enc)<=2000000:=fun f hf=>uniwts hu f.2 (h f hf).1 (h f hf).2
theorem at6 {u:List Tm} (h:wtR (u.map Tm.enc)<=1048576):(∀t,t∈u->wtL t.enc<=1048576)/\u.length<=9000000:=
 ⟨fun t ht=>I_ (bl0 (w_.2 ⟨t,ht,rfl⟩)) h,by have:=bH4 (u.map Tm.enc);simp at this;omega⟩
theorem ba1 {p:Pg}:∀{l:List Rl},p.okL l=true->∀j x,l[j]? = some x->p.relOk (p.rels.length - (l.length - j)) x=true
 | [],_,j,x,h=>by simp at h
 | r :: q,ho,0,x,h=>by
  simp only [Pg.okL,a_] at ho;simp at h;subst h;exact ho.1
 | r :: q,ho,j+1,x,h=>by
  simp only [Pg.okL,a_] at ho;have:=ba1 ho.2 j x (by simpa using h);simpa using this
theorem bt0 {p:Pg} (hp:N9 p=true) {i:Nat} {x:Rl} (h:p.rels[i]? = some x):p.find x.name=(i:Int):=by
 unfold N9 at hp;rw [a_] at hp;have h1:=ba1 hp.2 i x h;have hi:=(b_.1 h).1;rw [show p.rels.length - (p.rels.length - i)=i by omega] at h1;unfold Pg.relOk at h1;simp only [a_,decide_eq_true_eq] at h1;exact h1.1.1.1.1.1.1.1
theorem bK2 {p:Pg} {u:List V} {rs:List RV} (h:p.all false=true) (hg:p.gr u=some rs):bZ9 rs:=fun r hr=>by
 obtain ⟨rfl,_⟩:=aC1 hg;obtain ⟨x,hx,c,hc,j,w,_,rfl⟩:=av3 _ hr;unfold Pg.all at h;rw [a_] at h;have ho:=o_.1 h.2 x hx;unfold Gl.only at ho;show r9 _ c=[];unfold r9;have:c.filter (fun g=>decide (g.kind=10))=[]:=List.filter_eq_nil_iff.2 fun g hgc=>by
  have h1:=o_.1 ho g (aI3 hc hgc);unfold Gl.onlyK at h1;simp only [a_,decide_eq_true_eq] at h1;simpa using h1.1
 rw [this];rfl
theorem bW2 {rs:List RV} {f:FcV} {i:Nat} (h1:i<=top rs) (h2:f∈stg rs i) (h3:∀j,j<i->f∉stg rs j):hgt rs f=(i:Int):=by
 unfold hgt;rw [if_pos (bn0 rs h1 f h2)];obtain ⟨k1,k2,k3⟩:=ah4 (p:=fun k=>decide (f∈stg rs k)) (n:=top rs+1);generalize aK4 (fun k=>decide (f∈stg rs k)) (top rs+1)=k at k1 k2 k3;rcases Nat.lt_trichotomy k i with e | e | e
 ·exact absurd (of_decide_eq_true (k3 (by omega))) (h3 k e)
 ·rw [e]
 ·have:=k2 i e;simp [h2] at this
theorem bW1 {rs:List RV} {f:FcV} (h:f∉stg rs (top rs)):hgt rs f=-1:=by unfold hgt;rw [if_neg h]
def be8 (p:Pg) (u:List Tm):Option (List RV):=if p.all false=true/\U7 u=true then p.gr (u.map Tm.V) else none
theorem ap3 (p:Pg) (u:List Tm) (hw:wtL p.enc<=1048576) (hwu:∀t,t∈u->wtL t.enc<=1048576) (hlu:u.length<=9000000):Gives Tryz.prog 34 [.agg p.enc,.sl (u.map Tm.enc)] (grC (be8 p u)):=by
 have ha:=ay5 p hw;have hb:=ay4 u hwu hlu;unfold be8;by_cases h1:p.all false=true
 ·by_cases h2:U7 u=true
  ·rw [h1] at ha
   rw [h2] at hb;rw [if_pos ⟨h1,h2⟩];obtain ⟨hu,he⟩:=Uni.of h2;have hp:N9 p=true:=by unfold Pg.all at h1;rw [a_] at h1;exact h1.1
   have hee:u.map Tm.enc=(u.map Tm.V).map V.enc:=by rw [<-D6,<-he]
   have hgr:=ay6 p (u.map Tm.V) hp hw hu;rw [hee] at hb |-;generalize p.gr (u.map Tm.V)=O at *;cases O<;>· (
    first | rw [J3] at hgr |- | rw [aj5] at hgr |-
    refine aE_ Tryz.func34 ?_;refine rS_ Tryz.func34 ?_;simp only [go_sem,seval]
    repeat' (first
     | ((first
      | (refine ha.calls rfl ?_)
      | (refine hb.calls rfl ?_)
      | (refine hgr.calls rfl ?_))<;>(try simp only [go_sem,seval]))
     | fail)
    skip)
  ·rw [if_neg (fun h=>h2 h.2),J3]
   simp only [l_] at h2;rw [h1] at ha;rw [h2] at hb;refine aE_ Tryz.func34 ?_;refine rS_ Tryz.func34 ?_;simp only [go_sem,seval]
   repeat' (first
    | ((first
     | (refine ha.calls rfl ?_)
     | (refine hb.calls rfl ?_))<;>(try simp only [go_sem,seval]))
    | fail)
 ·rw [if_neg (fun h=>h1 h.1),J3]
  simp only [l_] at h1;rw [h1] at ha;refine aE_ Tryz.func34 ?_;refine rS_ Tryz.func34 ?_;simp only [go_sem,seval]
  repeat' (first
   | ((refine ha.calls rfl ?_)<;>(try simp only [go_sem,seval]))
   | fail)
theorem an7 (rs:List RV) (f:FcV) (hr:rs.length<=2000000):Gives Tryz.prog 92 [.sl (ax8 rs (top rs+1)),.agg (fcE f)] (.d (.int .i64 (hgt rs f))):=by
 obtain ⟨K,hK⟩:∃K,hgt rs f=K:=⟨_,rfl⟩;rw [hK,o8];obtain ⟨t1,_,_⟩:=O8 rs;refine aE_ Tryz.func92 ?_;refine rS_ Tryz.func92 ?_;simp only [go_sem,seval];refine AW.lp [3,7,8] (fun i:Nat=>[(9,.d (.int .i64 (i:Int)))]) (fun H _=>H) (fun i=>i<=top rs+1/\∀j,j<i->f∉stg rs j) (fun i=>top rs+1 - i) 0 ⟨s_ _,fun j hj=>by omega⟩ A8 ?_;intro i hi hni;obtain ⟨i1,i2⟩:=hi;by_cases hit:i<top rs+1
 ·have n1:(i:Int)<(top rs:Int)+1:=by omega
  have hat:=al1 rs hit;have hsl:=U9 rs i;have w1:IntKind.i64.wrap ((i:Int)+1)=(i:Int)+1:=l6 (by omega) (by omega);by_cases hf:f∈stg rs i
  ·rw [bW2 (by omega) hf i2] at hK
   subst hK;have he:=ai9 (stg rs i) f (by omega);rw [decide_eq_true hf,o8] at he;refine rS_ Tryz.func92 ?_;simp only [go_sem,seval,n1,d9 hat]
   repeat' (first
    | ((refine he.calls rfl ?_)<;>(try simp only [go_sem,seval,n1,d9 hat]))
    | fail)
  ·have he:=ai9 (stg rs i) f (by omega)
   rw [decide_eq_false hf,o8] at he;refine rS_ Tryz.func92 ?_;simp only [go_sem,seval,n1,d9 hat]
   repeat' (first
    | ((refine he.calls rfl ?_)<;>(try simp only [go_sem,seval,n1,d9 hat,w1]))
    | fail)
   refine hni (i+1) _ ⟨by omega,fun j hj=>?_⟩ (by omega) A8;rcases H_ j i with e | e
   ·exact i2 j e
   ·rw [show j=i by omega];exact hf
 ·have n1:¬(i:Int)<(top rs:Int)+1:=by omega
  rw [bW1 (i2 _ (by omega))] at hK;subst hK;refine rS_ Tryz.func92 ?_;simp only [go_sem,seval,n1]
theorem aN0 (rs:List RV) (hr:rs.length<=1000000):Gives Tryz.prog 89 [.sl (rs.map rvE)] (.d (.sl (ax8 rs (top rs+1)))):=by
 have hmx:maxLen=9223372036854775807:=rfl;obtain ⟨t1,t2,t3⟩:=O8 rs;obtain ⟨RES,hRES⟩:∃RES,ax8 rs (top rs+1)=RES:=⟨_,rfl⟩;rw [hRES];refine aE_ Tryz.func89 ?_;refine l7 Tryz.func89 mixed 3 _ _ (by kernel_rfl) ?_;simp only [go_sem,seval,run.eq_1];refine bv8 ?_;simp only [go_sem,seval]
 repeat' (first
  | ((refine L6 (fun Bz=>?_))<;>(try simp only [go_sem,seval]))
  | fail)
 refine AW.treeB 0 rfl (by simp [D.flat]) ?_;refine bH3 0 rfl ?_;refine rS_ Tryz.func89 ?_;simp only [go_sem,seval];refine AW.lp [0] (fun k:Nat=>[(3,.own 0 k)]) (fun _ k=>[.grow k 1 39 (ax8 rs (k+1))]) (fun k=>k<=top rs) (fun k=>top rs - k) 0 (s_ _) (by refine ⟨by simp [mkS,aY3],by simp [mkS,aY3],by simp only [mkS,e_,f_,O.refsLt,C.refsLt,C.refsLt1,o5];first | done | rfl | (simp;done),?_⟩;simp [mkS,Abs.get,C.refsLtT,C.refsLt,C.refsLt1]) ?_;intro k hk hnk;have w1:IntKind.i64.wrap ((k:Int)+1 - 1)=(k:Int):=by rw [l6 (by omega) (by omega)];omega
 have n1:(k:Int)<(k:Int)+1:=by omega
 have hat:=al1 rs (i:=k) (m:=k+1) (by omega);have hl1:=U9 rs k;have hl2:=U9 rs (k+1);have hc:Gives Tryz.prog 133 [.sl (rs.map rvE),.sl ((stg rs k).map fcE),.sl []] (.d (.sl ((stg rs (k+1)).map fcE))):=bg4 rs (stg rs k) [] (by omega) (by simp) hr;have hmap:∀x:List FcV,(x.map fcE).length=x.length:=fun x=>c_ _;have heq:=aA1 (rs:=rs) (k:=k);by_cases hs:stg rs (k+1)=stg rs k
 ·have hkt:k=top rs:=bF4 hs (fun j hj=>t3 j (by omega))
  have n2:((stg rs (k+1)).length:Int)=((stg rs k).length:Int):=by rw [heq.2 hs]
  rw [<-hkt] at hRES;rw [<-hRES];refine rS_ Tryz.func89 ?_;simp only [go_sem,seval,w1,n1,d9 hat,hmap]
  repeat' (first
   | ((refine hc.calls rfl ?_)<;>(try simp only [go_sem,seval,w1,n1,d9 hat,n2,hmap]))
   | fail)
 ·have n2:¬((stg rs (k+1)).length:Int)=((stg rs k).length:Int):=fun h=>hs (heq.1 (by omega))
  have hkt:k<top rs:=by
   rcases H_ k (top rs) with h | h
   ·exact h
   ·rw [show k=top rs by omega] at hs;exact absurd t2 hs
  refine rS_ Tryz.func89 ?_;simp only [go_sem,seval,w1,n1,d9 hat,hmap]
  repeat' (first
   | ((first
    | (refine hc.calls rfl ?_)
    | (refine ⟨sd,?_⟩))<;>(try simp only [go_sem,seval,w1,n1,d9 hat,n2,hmap]))
   | fail)
  all_goals first | (exact absurd (by assumption) n2) | skip
  refine hnk (k+1) _ (by omega) (by omega) (by refine ⟨by simp [mkS,aY1],by simp [mkS,aY1],by simp only [mkS,e_,f_,O.refsLt,C.refsLt,C.refsLt1,o5];first | done | rfl | (simp;done),?_⟩;simp [mkS,Abs.get,C.refsLtT,C.refsLt,C.refsLt1])
def ci0 (o:Option (List RV)):C:=match o with | some rs=>.tup [.d (.sl (rs.map rvE)),.d (.sl (ax8 rs (top rs+1))),.d (.bool true)] | none=>.tup [.d (.sl []),.d (.sl []),.d (.bool false)]
theorem ax1 (rs:List RV):ci0 (some rs)=.tup [.d (.sl (rs.map rvE)),.d (.sl (ax8 rs (top rs+1))),.d (.bool true)]:=rfl
theorem ax2:ci0 none=.tup [.d (.sl []),.d (.sl []),.d (.bool false)]:=rfl
theorem bv7 {p:Pg} (h:p.all false=true):N9 p=true:=by unfold Pg.all at h;rw [a_] at h;exact h.1
theorem aN1 (p:Pg) (u:List Tm) (hw:wtL p.enc<=1048576) (hwu:∀t,t∈u->wtL t.enc<=1048576) (hlu:u.length<=9000000):Gives Tryz.prog 48 [.agg p.enc,.sl (u.map Tm.enc)] (ci0 (be8 p u)):=by
 have ha:=ad8 p hw;have hgr:=ar9 p u hw hwu hlu;have hpo:be8 p u=if p.all false=true then Pg.grO p u else none:=by
  unfold be8 Pg.grO;by_cases h1:p.all false=true
  ·by_cases h2:U7 u=true
   ·rw [if_pos ⟨h1,h2⟩,if_pos h1,if_pos ⟨bv7 h1,h2⟩]
   ·rw [if_neg (fun h=>h2 h.2),if_pos h1,if_neg (fun h=>h2 h.2)]
  ·rw [if_neg (fun h=>h1 h.1),if_neg h1]
 rw [hpo];by_cases h1:p.all false=true
 ·rw [if_pos h1]
  rw [h1] at ha;have hrl:∀rs,Pg.grO p u=some rs->rs.length<=2000:=fun rs h=>by
   unfold Pg.grO at h;split at h
   ·exact (aC1 h).2
   ·cases h
  generalize Pg.grO p u=O at *;cases O with
  | none =>
   rw [J3] at hgr;rw [ax2];refine aE_ Tryz.func48 ?_;refine rS_ Tryz.func48 ?_;simp only [go_sem,seval]
   repeat' (first
    | ((first
     | (refine ha.calls rfl ?_)
     | (refine hgr.calls rfl ?_))<;>(try simp only [go_sem,seval]))
    | fail)
  | some rs =>
   have hst:=aN0 rs (by have:=hrl rs rfl;omega);rw [aj5] at hgr;rw [ax1];generalize ax8 rs (top rs+1)=SD at *;refine aE_ Tryz.func48 ?_;refine rS_ Tryz.func48 ?_;simp only [go_sem,seval]
   repeat' (first
    | ((first
     | (refine ha.calls rfl ?_)
     | (refine hgr.calls rfl ?_)
     | (refine hst.calls rfl ?_))<;>(try simp only [go_sem,seval]))
    | fail)
 ·rw [if_neg h1,ax2]
  simp only [l_] at h1;rw [h1] at ha;refine aE_ Tryz.func48 ?_;refine rS_ Tryz.func48 ?_;simp only [go_sem,seval]
  repeat' (first
   | ((refine ha.calls rfl ?_)<;>(try simp only [go_sem,seval]))
   | fail)
theorem aW0 (l:List FcV) (hl:l.length<=2000000) (hw:∀x,x∈l->x.2.length<=100000000):l8 Tryz.prog 36 [.d (.sl (l.map fcE))] [.hole] (fun c H'=>c=.own 0 1/\∃e B,H'=[.tree 1 2 e (l.map fcE) B none]):=by
 have hmx:maxLen=9223372036854775807:=rfl;refine aE_ Tryz.func36 ?_;refine l7 Tryz.func36 mixed 5 _ _ (by kernel_rfl) ?_;simp only [go_sem,seval,run.eq_1];refine AW.adoptT 3 2 34 (by decide) rfl ?_;refine rS_ Tryz.func36 ?_;simp only [go_sem,seval];refine AW.rng l [7,8] 9 7 (fun p:List FcV×(Nat->Prop)=>[(3,.own 1 p.1.length)]) (fun _ p=>[.hole,.tree p.1.length 2 34 (p.1.map fcE) p.2 none]) (fun r p=>p.1++r=l) ([],fun _=>False) rfl (by simp) rfl A8 (fun i x r p hxi hdr hlt hm hinv hnext=>?_) (fun p hinv=>?_)
 ·have hpl:p.1.length+(r.length+1)=l.length:=by rw [<-hinv];simp
  have hx:=bk3 x.1 x.2 (hw x (d_ hxi));have hX:=o8 x;refine AW.hole ?_;refine l7 Tryz.func36 mixed 9 _ _ (by kernel_rfl) ?_;simp only [go_sem,seval,run.eq_1,hlt,d9 hxi,o8];refine AW.regT ?_;simp only [go_sem,seval]
  repeat' (first
   | ((first
    | (refine l8.fresh (ds:=[.agg [.str x.1,.sl (x.2.map V.enc)]]) (m:=1) hx [2] rfl rfl (by simp) (by simp) ?_<;>(rintro c H' ⟨rfl,e1,B1,rfl⟩ _;refine ⟨rfl,rfl,?_⟩))
    | (refine L6 (fun Bz=>?_))
    | (refine ⟨sd,?_⟩))<;>(try simp only [go_sem,seval,hlt,d9 hxi]))
   | fail)
  refine rS_ Tryz.func36 ?_;simp only [go_sem,seval];try simp (disch:=omega) only [l6]
  refine hnext (p.1++[x],Bz) _ (by simp [<-hinv]) (by refine ⟨by simp [mkS,hX],by simp [mkS,hX],by simp only [mkS,e_,f_,O.refsLt,C.refsLt,C.refsLt1,o5];first | done | rfl | (simp;done),?_⟩;simp [mkS,Abs.get,C.refsLtT,C.refsLt,C.refsLt1,hX])
 ·simp only [i_] at hinv
  subst hinv;refine l7 Tryz.func36 mixed 7 _ _ (by kernel_rfl) ?_;simp only [go_sem,seval,run.eq_1];refine AW.place 2 1 0 rfl rfl rfl (by decide) ?_;refine rS_ Tryz.func36 ?_;simp only [go_sem,seval];all_goals exact ⟨_,_,rfl⟩
def csR (o:Option (List FcV)) (c:C) (H:List O):Prop:=match o with
 | some l=>c=.tup [.own 0 1,.d (.bool true)]/\∃e B,H=[.tree 1 2 e (l.map fcE) B none]
 | none=>c=.tup [.d (.sl []),.d (.bool false)]/\H=[.hole]
theorem aX9 {p:Pg} {u:List V} {rs:List RV} (hp:N9 p=true) (hu:Uni u) (h:p.gr u=some rs) (k:Nat):∀f,f∈stg rs k->(∀v,v∈f.2->v∈u)/\f.2.length<=12:=fun f hf=>by
 cases k with
 | zero=>simp [stg] at hf
 | succ k=>exact bp2 hp hu h _ _ f hf
theorem aL6 {p:Pg} {u:List Tm} {rs:List RV} (h:be8 p u=some rs):rs.length<=2000/\bZ9 rs/\∀k f,f∈stg rs k->wtR (f.2.map V.enc)<=2000000/\f.2.length<=12:=by
 unfold be8 at h;split at h
 ·rename_i h12
  obtain ⟨hu,_⟩:=Uni.of h12.2;exact ⟨(aC1 h).2,bK2 h12.1 h,fun k f hf=>⟨bK5 hu (aX9 (bv7 h12.1) hu h k) f hf,(aX9 (bv7 h12.1) hu h k f hf).2⟩⟩
 ·cases h
def Pg.stgF (p:Pg) (u:List Tm) (n:Int):Option (List FcV):=if 0<=n/\n<=100 then (be8 p u).map (fun rs=>stg rs n.toNat) else none
theorem aH2 (p:Pg) (u:List Tm) (n:Int) (hw:wtL p.enc<=1048576) (hwu:wtR (u.map Tm.enc)<=1048576):l8 Tryz.prog 11 [.d (.agg p.enc),.d (.sl (u.map Tm.enc)),.d (.int .i64 n)] [.hole] (csR (Pg.stgF p u n)):=by
 have hmx:maxLen=9223372036854775807:=rfl;have hpr:=ap3 p u hw (at6 hwu).1 (at6 hwu).2;obtain ⟨RES,hRES⟩:∃RES,Pg.stgF p u n=RES:=⟨_,rfl⟩;rw [hRES];unfold Pg.stgF at hRES;cases hg:be8 p u with
 | none =>
  rw [hg] at hRES;have hR:RES=none:=by rw [<-hRES];simp
  subst hR;unfold csR;dsimp only;rw [hg,J3] at hpr;refine aE_ Tryz.func11 ?_;refine rS_ Tryz.func11 ?_;simp only [go_sem,seval]
  repeat' (first
   | ((refine hpr.calls rfl ?_)<;>(try simp only [go_sem,seval]))
   | fail)
 | some rs =>
  rw [hg,aj5] at hpr;obtain ⟨hrl,hpo,hst⟩:=aL6 hg;rw [hg,Option.map_some] at hRES;by_cases h0:n<0
  ·rw [if_neg (by omega)] at hRES
   subst hRES;unfold csR;dsimp only;refine aE_ Tryz.func11 ?_;refine rS_ Tryz.func11 ?_;simp only [go_sem,seval,h0]
   repeat' (first
    | ((refine hpr.calls rfl ?_)<;>(try simp only [go_sem,seval,h0]))
    | fail)
  ·by_cases h1:100<n
   ·rw [if_neg (by omega)] at hRES
    subst hRES;unfold csR;dsimp only;refine aE_ Tryz.func11 ?_;refine rS_ Tryz.func11 ?_;simp only [go_sem,seval,h0,h1]
    repeat' (first
     | ((refine hpr.calls rfl ?_)<;>(try simp only [go_sem,seval,h0,h1]))
     | fail)
   ·rw [if_pos (by omega)] at hRES
    subst hRES;unfold csR;dsimp only;have hss:=bn1 rs (by omega) hpo;have ht:=(O8 rs).1;obtain ⟨k,hk⟩:∃k:Nat,n=(k:Int):=⟨n.toNat,by omega⟩;subst hk;rw [show ((k:Int)).toNat=k by omega,<-bm9 rs k];have hsl:=U9 rs (min k (top rs));have hcf:=aW0 (stg rs (min k (top rs))) (by omega) (fun x hx=>by have:=(hst _ x hx).2;omega);have hat:=al1 rs (i:=min k (top rs)) (m:=top rs+1) (by omega);have w1:IntKind.i64.wrap ((top rs:Int)+1 - 1)=(top rs:Int):=by rw [l6 (by omega) (by omega)];omega
    have m1:(if (top rs:Int)<(k:Int) then (top rs:Int) else (k:Int))=((min k (top rs):Nat):Int):=by split<;>omega
    have n1:((min k (top rs):Nat):Int)<(top rs:Int)+1:=by omega
    have hdl:=aY2 rs (top rs+1);generalize stg rs (min k (top rs))=R2 at *;generalize ax8 rs (top rs+1)=SD at *;generalize min k (top rs)=j at *;refine aE_ Tryz.func11 ?_;refine rS_ Tryz.func11 ?_;simp only [go_sem,seval,h0,h1]
    repeat' (first
     | (exact ⟨_,_,rfl⟩)
     | ((first
      | (refine hpr.calls rfl ?_)
      | (refine hss.calls rfl ?_)
      | (refine l8.fresh (ds:=[.sl (R2.map fcE)]) (m:=1) hcf [0] rfl rfl (by simp) (by simp) ?_<;>(rintro c H' ⟨rfl,e1,B1,rfl⟩ _;refine ⟨rfl,rfl,?_⟩)))<;>(try simp only [go_sem,seval,h0,h1,w1,m1,n1,hdl,d9 hat]))
     | fail)
def lmR (o:Option (List RV)) (c:C) (H:List O):Prop:=match o with
 | some rs=>c=.tup [.own 0 1,.d (.int .i64 (top rs:Int)),.d (.bool true)]/\∃e B,H=[.tree 1 2 e ((stg rs (top rs)).map fcE) B none]
 | none=>c=.tup [.d (.sl []),.d (.int .i64 0),.d (.bool false)]/\H=[.hole]
def lmC (o:Option (List RV)):C:=match o with
 | some rs=>.tup [.d (.sl ((stg rs (top rs)).map fcE)),.d (.int .i64 (top rs:Int)),.d (.bool true)]
 | none=>.tup [.d (.sl []),.d (.int .i64 0),.d (.bool false)]
theorem aF1 (p:Pg) (u:List Tm) (hw:wtL p.enc<=1048576) (hwu:wtR (u.map Tm.enc)<=1048576):Gives Tryz.prog 22 [.agg p.enc,.sl (u.map Tm.enc)] (lmC (be8 p u)):=by
 have hmx:maxLen=9223372036854775807:=rfl;have hpr:=aN1 p u hw (at6 hwu).1 (at6 hwu).2;cases hg:be8 p u with
 | none =>
  unfold lmC;dsimp only;rw [hg,ax2] at hpr;refine aE_ Tryz.func22 ?_;refine rS_ Tryz.func22 ?_;simp only [go_sem,seval]
  repeat' (first
   | ((refine hpr.calls rfl ?_)<;>(try simp only [go_sem,seval]))
   | fail)
 | some rs =>
  unfold lmC;dsimp only;rw [hg,ax1] at hpr;obtain ⟨hrl,hpo,hst⟩:=aL6 hg;have hsl:=U9 rs (top rs);have ht:=(O8 rs).1;have hcf:=au3 (stg rs (top rs)) (by omega) (fun x hx=>(hst _ x hx).1);have hat:=al1 rs (i:=top rs) (m:=top rs+1) (by omega);have w1:IntKind.i64.wrap ((top rs:Int)+1 - 1)=(top rs:Int):=by rw [l6 (by omega) (by omega)];omega
  have n1:(top rs:Int)<(top rs:Int)+1:=by omega
  have hdl:=aY2 rs (top rs+1);generalize stg rs (top rs)=R2 at *;generalize ax8 rs (top rs+1)=SD at *;generalize top rs=j at *;refine aE_ Tryz.func22 ?_;refine rS_ Tryz.func22 ?_;simp only [go_sem,seval]
  repeat' (first
   | ((first
    | (refine hpr.calls rfl ?_)
    | (refine hcf.calls rfl ?_))<;>(try simp only [go_sem,seval,w1,n1,hdl,d9 hat]))
   | fail)
theorem bh7 (a b:V):Gives Tryz.prog 83 [.agg [.int .i64 a.kind,.int .i64 a.int,.str a.name,.sl (a.kids.map V.enc)],.agg [.int .i64 b.kind,.int .i64 b.int,.str b.name,.sl (b.kids.map V.enc)]] (.d (.int .i64 (a.cmp b))):=by
 have h:=X6 _ a b (v_ _);rw [V.enc_eq a,V.enc_eq b] at h;exact h
theorem au8 (a b:V):Gives Tryz.prog 84 [.agg [.int .i64 a.kind,.int .i64 a.int,.str a.name,.sl (a.kids.map V.enc)],.agg [.int .i64 b.kind,.int .i64 b.int,.str b.name,.sl (b.kids.map V.enc)]] (.d (.bool (decide (a.cmp b=0)))):=by
 have h:=X5 a b;rw [V.enc_eq a,V.enc_eq b] at h;exact h
theorem aN7 (l:List V) (f:V) (ha:ak1 V.cmp l) (hl:l.length<=2000000):Gives Tryz.prog 46 [.sl (l.map V.enc),.agg f.enc] (.d (.sl ((ae0 V.cmp l f).map V.enc))):=by
 have hmx:maxLen=9223372036854775807:=rfl;have hmap:∀x:List V,(x.map V.enc).length=x.length:=fun x=>c_ _;obtain ⟨RES,hRES⟩:∃RES,ae0 V.cmp l f=RES:=⟨_,rfl⟩;have hFe:=V.enc_eq f;rw [hRES,hFe];refine aE_ Tryz.func46 ?_;refine rS_ Tryz.func46 ?_;simp only [go_sem,seval,hmap];refine AW.lp [0,3] (fun k:Nat=>[(5,.d (.int .i64 (k:Int)))]) (fun H _=>H) (fun k=>k<=l.length/\∀i y,k<=i->l[i]? = some y->¬y.cmp f<0) (fun k=>k) l.length ⟨v_ _,fun i y hi hy=>by have:=(b_.1 hy).1;omega⟩ A8 ?_;intro k hk hnk;obtain ⟨k1,k2⟩:=hk;have stop:(∀i y,i<k->l[i]? = some y->y.cmp f<0)->ae0 V.cmp l f=if ae2 V.cmp l k f then l else l.take k++f :: l.drop k:=fun h=>aU7 V.cmp_lin l f k ha k1 h k2
 by_cases hkz:k=0
 ·have n1:¬(0:Int)<(k:Int):=by omega
  have hst:=stop (fun i y hi=>by omega);clear stop hnk;rw [hRES] at hst;have hks:(0:Int)<=(k:Int):=by omega
  cases hlk:l[k]? with
  | none =>
   have hkl:k=l.length:=by have:=p_.1 hlk;omega
   have m1:¬(k:Int)<(l.length:Int):=by omega
   have hq:ae2 V.cmp l k f=false:=by unfold ae2;rw [hlk]
   rw [hq,if_neg (by simp)] at hst;rw [hst];refine rS_ Tryz.func46 ?_;simp only [go_sem,seval,n1,hmap,m1,hks];skip
   repeat' (first
    | ((refine ⟨sd,?_⟩)<;>(try simp only [go_sem,seval,n1,hmap,m1,hks]))
    | fail)
   all_goals simp [hFe,m_,k_]
  | some z =>
   have m1:(k:Int)<(l.length:Int):=by have:=(b_.1 hlk).1;omega
   have hz:=au8 z f;by_cases hzf:z.cmp f=0
   ·have hq:ae2 V.cmp l k f=true:=by unfold ae2;rw [hlk];simp [hzf]
    rw [hq,if_pos rfl] at hst;rw [hzf] at hz;rw [hst];refine rS_ Tryz.func46 ?_;simp only [go_sem,seval,n1,hmap,m1,hks,d9 hlk,V.enc_eq];skip
    repeat' (first
     | ((refine hz.callQ rfl ?_)<;>(try simp only [go_sem,seval,n1,hmap,m1,hks,d9 hlk,V.enc_eq]))
     | fail)
   ·have hq:ae2 V.cmp l k f=false:=by unfold ae2;rw [hlk];simp [hzf]
    rw [hq,if_neg (by simp)] at hst;rw [decide_eq_false hzf] at hz;rw [hst];refine rS_ Tryz.func46 ?_;simp only [go_sem,seval,n1,hmap,m1,hks,d9 hlk,V.enc_eq,hzf];skip
    repeat' (first
     | ((first
      | (refine hz.callQ rfl ?_)
      | (refine ⟨sd,?_⟩))<;>(try simp only [go_sem,seval,n1,hmap,m1,hks,d9 hlk,V.enc_eq,hzf]))
     | fail)
    all_goals first | (exact absurd (by assumption) hzf) | skip
    all_goals simp [hFe,m_,k_]
 ·obtain ⟨y,hy⟩:∃y,l[k - 1]? = some y:=⟨_,h_ (by omega)⟩
  have n1:(0:Int)<(k:Int):=by omega
  have w1:IntKind.i64.wrap ((k:Int) - 1)=((k - 1:Nat):Int):=by rw [l6 (by omega) (by omega)];omega
  have n2:((k - 1:Nat):Int)<(l.length:Int):=by omega
  have he:=bh7 y f;by_cases hc:y.cmp f<0
  ·have hc':¬(0:Int)<=y.cmp f:=by omega
   have hst:=stop (fun i z hi hz=>by
    by_cases e:i=k - 1
    ·subst e;rw [hz] at hy;cases hy;exact hc
    ·exact V.cmp_lin.tr _ _ _ (aI6 ha (show i<k - 1 by omega) hz hy) hc)
   clear stop hnk;rw [hRES] at hst;have hks:(0:Int)<=(k:Int):=by omega
   cases hlk:l[k]? with
   | none =>
    have hkl:k=l.length:=by have:=p_.1 hlk;omega
    have m1:¬(k:Int)<(l.length:Int):=by omega
    have hq:ae2 V.cmp l k f=false:=by unfold ae2;rw [hlk]
    rw [hq,if_neg (by simp)] at hst;rw [hst];refine rS_ Tryz.func46 ?_;simp only [go_sem,seval,n1,w1,n2,d9 hy,hmap,V.enc_eq,hc,hc',m1,hks]
    repeat' (first
     | ((first
      | (refine he.callQ rfl ?_)
      | (refine ⟨sd,?_⟩))<;>(try simp only [go_sem,seval,n1,w1,n2,d9 hy,hmap,V.enc_eq,hc,hc',m1,hks]))
     | fail)
    all_goals simp [hFe,m_,k_]
   | some z =>
    have m1:(k:Int)<(l.length:Int):=by have:=(b_.1 hlk).1;omega
    have hz:=au8 z f;by_cases hzf:z.cmp f=0
    ·have hq:ae2 V.cmp l k f=true:=by unfold ae2;rw [hlk];simp [hzf]
     rw [hq,if_pos rfl] at hst;rw [hzf] at hz;rw [hst];refine rS_ Tryz.func46 ?_;simp only [go_sem,seval,n1,w1,n2,d9 hy,hmap,V.enc_eq,hc,hc',m1,hks,d9 hlk,V.enc_eq]
     repeat' (first
      | ((first
       | (refine he.callQ rfl ?_)
       | (refine hz.callQ rfl ?_))<;>(try simp only [go_sem,seval,n1,w1,n2,d9 hy,hmap,V.enc_eq,hc,hc',m1,hks,d9 hlk,V.enc_eq]))
      | fail)
    ·have hq:ae2 V.cmp l k f=false:=by unfold ae2;rw [hlk];simp [hzf]
     rw [hq,if_neg (by simp)] at hst;rw [decide_eq_false hzf] at hz;rw [hst];refine rS_ Tryz.func46 ?_;simp only [go_sem,seval,n1,w1,n2,d9 hy,hmap,V.enc_eq,hc,hc',m1,hks,d9 hlk,V.enc_eq,hzf]
     repeat' (first
      | ((first
       | (refine he.callQ rfl ?_)
       | (refine hz.callQ rfl ?_)
       | (refine ⟨sd,?_⟩))<;>(try simp only [go_sem,seval,n1,w1,n2,d9 hy,hmap,V.enc_eq,hc,hc',m1,hks,d9 hlk,V.enc_eq,hzf]))
      | fail)
     all_goals first | (exact absurd (by assumption) hzf) | skip
     all_goals simp [hFe,m_,k_]
  ·have hc':(0:Int)<=y.cmp f:=by omega
   refine rS_ Tryz.func46 ?_;simp only [go_sem,seval,n1,w1,n2,d9 hy,hmap,V.enc_eq,hc,hc']
   repeat' (first
    | ((refine he.callQ rfl ?_)<;>(try simp only [go_sem,seval,n1,w1,n2,d9 hy,hmap,V.enc_eq,hc,hc']))
    | fail)
   refine hnk (k - 1) _ ⟨by omega,fun i z hi hz=>?_⟩ (by omega) A8;by_cases e:i=k - 1
   ·subst e;rw [hz] at hy;cases hy;exact hc
   ·exact k2 i z (by omega) hz
theorem bI2:∀v:V,v.vbelow 0=true->v.vars=[]:=by
 intro v;induction v with
 | pair a b iha ihb =>
  intro h;simp only [V.vbelow,a_] at h;simp [V.vars,iha h.1,ihb h.2]
 | var n=>intro h;simp [V.vbelow] at h;omega
 | _=>intro _;rfl
theorem bD2 {m:Nat} {v:V} (h:drawn m 0 v):v.vars=[]:=bI2 v h.2.2
theorem bM1 {l:List V} {x:V}:(ae0 V.cmp l x).length<=l.length+1:=by
 induction l with
 | nil=>simp [ae0]
 | cons y q ih =>
  unfold ae0;split
  ·simp only [n_];omega
  ·split<;>simp only [n_]<;>omega
theorem bB4 {l:List V} {x:V}:1<=(ae0 V.cmp l x).length:=List.length_pos_of_mem ((aj2 V.cmp_lin l x x).2 (.inl rfl))
theorem aG4 (B:List UInt8) (hB:B.length<=1048576) (m:Nat) (hm1:1<=m) (hm:m<=8) (i h:Int) (h0:0<=i) (h1:i<=B.length):l8 Tryz.prog 21 [.ptr 0 0,.d (.int .i64 m)] [cuO B i h] (fun c H'=>∃(u:List V) (i' h':Int),c=.d (.sl (u.map V.enc))/\H'=[cuO B i' h']/\Uni u/\u.length<=m/\(∀v,v∈u->drawn 7 0 v)/\0<=i'/\i'<=B.length):=by
 have hmx:maxLen=9223372036854775807:=rfl;have hb:=y9 B i h hB h0 h1 (m:Int);refine aE_ Tryz.func21 ?_;refine rS_ Tryz.func21 ?_;simp only [go_sem,seval]
 repeat' (first
  | (simp (disch:=omega) only [l6])
  | ((refine (l8.emb hb [0] rfl rfl rfl (by decide) rfl ?_)<;>(rintro c H' ⟨x,i2,h2,rfl,rfl,⟨b1,b2⟩,b3,b4⟩ _;refine ⟨rfl,rfl,?_⟩))<;>(try simp only [go_sem,seval]))
  | fail)
 refine AW.nilG 5 rfl ?_;obtain ⟨k0,hk0,hk1,hkm⟩:∃k0:Nat,1+x=(k0:Int)/\1<=k0/\k0<=m:=⟨(1+x).toNat,by omega,by omega,by omega⟩;refine AW.lp [0] (fun u:Nat×List V×Int×Int=>[(6,.d (.int .i64 (u.1:Int))),(5,.d (.sl (u.2.1.map V.enc)))]) (fun _ u=>[cuO B u.2.2.1 u.2.2.2]) (fun u=>ak1 V.cmp u.2.1/\(∀v,v∈u.2.1->drawn 7 0 v)/\u.1+u.2.1.length<=m/\(1<=u.1\/1<=u.2.1.length)/\0<=u.2.2.1/\u.2.2.1<=B.length) (fun u=>u.1) (k0,[],i2,h2) ⟨List.Pairwise.nil,(fun v hv=>by cases hv),by simp;omega,.inl hk1,b3,b4⟩ (by refine ⟨by simp [mkS,A9,hk0],by simp [mkS,A9,hk0],by simp only [mkS,e_,f_,O.refsLt,C.refsLt,C.refsLt1,o5];first | done | rfl | (simp;done),?_⟩;simp [mkS,Abs.get,C.refsLtT,C.refsLt,C.refsLt1,A9,hk0]) ?_;rintro ⟨k,u,i3,h3⟩ ⟨u1,u2,u3,u4,u5,u6⟩ hnext;dsimp only at u1 u2 u3 u4 u5 u6 hnext |-;by_cases hk:k=0
 ·subst hk
  have hu1:1<=u.length:=by omega
  refine rS_ Tryz.func21 ?_;simp only [go_sem,seval]
  repeat' (first
   | (exact ⟨u,_,_,rfl,rfl,⟨hu1,by omega,fun v hv=>bD1 (u2 v hv) (by decide),fun v hv=>bD2 (u2 v hv),u1⟩,by omega,u2,u5,u6⟩)
   | fail)
 ·obtain ⟨k,rfl⟩:∃k',k=k'+1:=⟨k - 1,by omega⟩
  have e1:(0:Int)<(k:Int)+1:=by omega
  have wk:IntKind.i64.wrap ((k:Int)+1 - 1)=(k:Int):=by rw [l6 (by omega) (by omega)];omega
  have hb2:=y9 B i3 h3 hB u5 u6 2;refine rS_ Tryz.func21 ?_;simp only [go_sem,seval,e1,wk]
  repeat' (first
   | (simp (disch:=omega) only [l6])
   | ((first
    | (refine (l8.emb hb2 [0] rfl rfl rfl (by decide) rfl ?_)<;>(rintro c H' ⟨y,i4,h4,rfl,rfl,⟨c1,c2⟩,c3,c4⟩ _;rcases (show y=0\/y=1 by omega) with rfl | rfl<;>refine ⟨rfl,rfl,?_⟩))
    | (refine (l8.emb (aa7 B hB 0 (by decide) 1 i4 h4 (by decide) c3 c4) [0] rfl rfl rfl (by decide) rfl ?_)<;>(rintro c H' ⟨v,i5,h5,rfl,rfl,k1,k2,k3⟩ _;refine ⟨rfl,rfl,?_⟩))
    | (refine (l8.emb (aa7 B hB 0 (by decide) 3 i4 h4 (by decide) c3 c4) [0] rfl rfl rfl (by decide) rfl ?_)<;>(rintro c H' ⟨v,i5,h5,rfl,rfl,k1,k2,k3⟩ _;refine ⟨rfl,rfl,?_⟩))
    | (refine (aN7 u v u1 (by omega)).calls rfl ?_))<;>(try simp only [go_sem,seval,e1,wk]))
   | fail)
  all_goals refine hnext (k,ae0 V.cmp u v,i5,h5) _ ⟨aG8 V.cmp_lin u v u1,fun z hz=>by
   rcases (aj2 V.cmp_lin u v z).1 hz with rfl | hz
   ·exact ad2 k1 (by decide)
   ·exact u2 z hz,by have:=bM1 (l:=u) (x:=v);dsimp only;omega,.inr bB4,k2,k3⟩ (by dsimp only;omega) (by refine ⟨by simp [mkS,A9],by simp [mkS,A9],by simp only [mkS,e_,f_,O.refsLt,C.refsLt,C.refsLt1,o5];first | done | rfl | (simp;done),?_⟩;simp [mkS,Abs.get,C.refsLtT,C.refsLt,C.refsLt1])
theorem az0 (B:List UInt8) (hB:B.length<=1048576) (n m:Nat) (hn:n<=1000) (hm1:1<=m) (hm:m<=8):l8 Tryz.prog 5 [.d (.sl (bytesD B)),.d (.int .i64 n),.d (.int .i64 m)] [] (fun c H'=>∃u:List V,c=.d (.sl (u.map V.enc))/\H'=[]/\Uni u/\u.length<=m/\∀v,v∈u->drawn 7 0 v):=by
 have hw:=aG2 B hB n (by omega);refine aE_ Tryz.func5 ?_;refine AW.hole ?_;refine l7 Tryz.func5 mixed 4 _ _ (by kernel_rfl) ?_;simp only [go_sem,seval,run.eq_1]
 repeat' (first
  | ((refine (l8.emb hw [0] rfl rfl rfl (by decide) rfl ?_)<;>(rintro c H' ⟨rfl,i,h,rfl,e1,e2⟩ _;refine ⟨rfl,rfl,?_⟩))<;>(try simp only [go_sem,seval,run.eq_1]))
  | fail)
 refine l8.emb (l8.unpb (ds:=[.int .i64 m]) (cs:=cuD B i h) (aG4 B hB m hm1 hm i h e1 e2) (K:=fun c H'=>∃u:List V,c=.d (.sl (u.map V.enc))/\H'=[.dead]/\Uni u/\u.length<=m/\∀v,v∈u->drawn 7 0 v) (fun c H' ⟨u,i',h',c1,c2,c3,c4,c5,_⟩=>⟨_,c1,u,c1,rfl,c3,c4,c5⟩)) [0] rfl rfl rfl (by decide) rfl ?_;rintro c H' ⟨u,rfl,rfl,c3,c4,c5⟩ _;refine ⟨rfl,rfl,?_⟩;simp only [go_sem,seval,run.eq_1];refine rS_ Tryz.func5 ?_;simp only [go_sem,seval]
 repeat' (first
  | ((first
   | (refine ⟨sd,?_⟩)
   | (refine ⟨by assumption,?_⟩))<;>(try simp only [go_sem,seval]))
  | assumption)
theorem bX6 {v:V} (h:v.ok=true):v.tm.V=v:=by
 unfold V.ok at h;rw [a_] at h;simp [Tm.V,V.v?_tm v h.1]
theorem cp3 {u:List V} (h:∀v,v∈u->v.ok=true):(u.map V.tm).map Tm.V=u:=by
 rw [List.map_map];conv=>rhs;rw [<-List.map_id u]
 exact List.map_congr_left fun v hv=>bX6 (h v hv)
theorem aO5 {v:V} (h:v.ok=true) (hg:v.vars=[]):v.tm.ground=true:=by
 unfold Tm.ground;rw [bm4,h,V.vars_tm,hg];rfl
theorem bl7:∀(u:List V) (p:Option V),ak1 V.cmp u->(∀v,v∈u->v.ok=true/\v.vars=[])->(∀q,p=some q->∀v,v∈u->q.cmp v<0)->ap0 p (u.map V.tm)=true
 | [],_,_,_,_=>rfl
 | v :: r,p,ha,ho,hp=>by
  obtain ⟨h1,h2⟩:=List.pairwise_cons.1 ha;obtain ⟨o1,o2⟩:=ho v (by simp);simp only [q_,ap0,aO5 o1 o2,bX6 o1,g_,a_];refine ⟨?_,bl7 r (some v) h2 (fun x hx=>ho x (by simp [hx])) (fun q hq x hx=>by cases hq;exact h1 x hx)⟩;cases p with
  | none=>rfl
  | some q=>exact decide_eq_true (hp q rfl v (by simp))
theorem bR6 {u:List V} (h:Uni u):U7 (u.map V.tm)=true:=by
 unfold U7;rw [bl7 u none h.asc (fun v hv=>⟨h.ok v hv,h.gr v hv⟩) (fun q hq=>by cases hq),c_,decide_eq_true h.pos,decide_eq_true h.le];rfl
structure Made (p:Pg) (u:List V):Prop where
 ok:N9 p=true
 wt:wtL p.enc<=1048576
 gr:p.gr u=some (Pg.gnd u p.rels)
 uni:Uni u
 uw:∀v,v∈u->wtL v.enc<=112
theorem Made.of {p:Pg} {u:List V} {m:Int} (hf:p.fine m) (hg:Pg.gszL p.rels<=2000) (hu:Uni u) (hl:u.length<=2) (hd:∀v,v∈u->drawn 7 0 v):Made p u:=
 ⟨hf.ok,by have:=hf.wt;omega,Pg.gr_small hf.ok (fun r hr=>by have:=hf.cls r hr;omega) hl hg,hu,fun v hv=>(aq0 (hd v hv)).2.1⟩
section
variable {p:Pg} {u:List V}
theorem aR1:∀l:List V,(∀v,v∈l->wtL v.enc<=112)->wtR (l.map V.enc)<=113 * l.length
 | [],_=>by simp [wtR]
 | v :: r,hv=>by
  have h1:=aR1 r (fun x hx=>hv x (by simp [hx]));have h2:=hv v (by simp);simp only [q_,wtR,n_];omega
theorem Made.wu (h:Made p u):wtR ((u.map V.tm).map Tm.enc)<=1048576:=by
 rw [D6];have:=aR1 u h.uw;have:=h.uni.le;omega
theorem Made.mem (h:Made p u):∀t,t∈u.map V.tm->wtL t.enc<=1048576:=(at6 h.wu).1
theorem Made.wp (h:Made p u):wtL p.enc<=1048576:=h.wt
def cq1 (p:Pg) (u:List V) (f:FcV):Prop:=∃x,x∈p.rels/\f.1=x.name/\(f.2.length:Int)=x.arity/\∀v,v∈f.2->v∈u
theorem Made.fit (h:Made p u) {f:FcV} (hf:cq1 p u f):f.fc.args.all Q5=true/\p.factFits f.fc=true/\Fc.toV f.fc=f/\wtL (fcE f)+1<=500:=by
 obtain ⟨x,hx,e1,hfl,hm⟩:=hf;obtain ⟨z1,z2,z3,z4⟩:=Pg.dims h.ok hx;obtain ⟨i,hi⟩:=List.getElem?_of_mem hx;have hfs:=bt0 h.ok hi;have e3:p.find f.1=(i:Int):=by rw [e1];exact hfs
 refine ⟨o_.2 fun t ht=>?_,?_,Prod.ext rfl (cp3 fun v hv=>h.uni.ok v (hm v hv)),?_⟩
 ·obtain ⟨v,hv,rfl⟩:=w_.1 ht
  rw [bm4];exact h.uni.ok v (hm v hv)
 ·rw [Pg.factFits_at (f:=f.fc) (r:=x) (by show 0<=p.find f.1;rw [e3];omega) (by show p.rels[(p.find f.1).toNat]? = some x;rw [e3];simpa using hi),a_,decide_eq_true_eq,o_]
  refine ⟨by show x.arity=((f.2.map V.tm).length:Int);rw [c_];omega,fun t ht=>?_⟩;obtain ⟨v,hv,rfl⟩:=w_.1 ht;exact aO5 (h.uni.ok v (hm v hv)) (h.uni.gr v (hm v hv))
 ·have hn:f.1.length<=12:=by
   have h0:=h.ok;unfold N9 at h0;rw [a_] at h0;obtain ⟨k,hk⟩:=af0 h0.2 x hx;unfold Pg.relOk at hk;simp only [a_] at hk;have hr:P5 x.name=true:=by simp only [decide_eq_true_eq] at hk;exact hk.1.1.1.1.1.1.2
   unfold P5 at hr;rw [a_] at hr;rw [e1];exact (ac8 hr.2).2
  have h5:=aR1 f.2 fun v hv=>h.uw v (hm v hv);rw [o8];simp only [wtL,D.wt];omega
theorem Made.fitH (h:Made p u) {F G:List FcV} {f:FcV} (hf:f∈R7 (Pg.gnd u p.rels) F G):cq1 p u f:=by
 obtain ⟨r,h1,_,h3⟩:=aa4.1 hf;obtain ⟨x,hx,c,_,j,w,_,rfl⟩:=av3 _ h1;obtain ⟨z1,z2,z3,z4⟩:=Pg.dims h.ok hx;have hvl:=R4 u (x.arity+x.locals).toNat w;have hvm:=X7 h.uni.pos (x.arity+x.locals).toNat w;have e1:x.name=f.1:=congrArg Prod.fst h3;have e2:(G6 u (x.arity+x.locals).toNat w).take x.arity.toNat=f.2:=congrArg Prod.snd h3;exact ⟨x,hx,e1.symm,by rw [<-e2,A_,hvl];omega,fun v hv=>by rw [<-e2] at hv;exact hvm v (r_ hv)⟩
theorem Made.head (h:Made p u) {F G:List FcV} {f:FcV} (hf:f∈R7 (Pg.gnd u p.rels) F G):f.fc.args.all Q5=true/\p.factFits f.fc=true/\Fc.toV f.fc=f/\wtL (fcE f)+1<=500:=h.fit (h.fitH hf)
theorem as8 (h:Made p u) (ha:p.all false=true):be8 p (u.map V.tm)=some (Pg.gnd u p.rels):=by
 unfold be8;rw [if_pos ⟨ha,bR6 h.uni⟩,cp3 h.uni.ok,h.gr]
end
theorem bJ2 {p:Pg} {u:List V} (h:Made p u) (ha:p.all false=true) (n:Nat) (hn:n<=100):Gives Tryz.prog 11 [.agg p.enc,.sl (u.map V.enc),.int .i64 n] (.tup [.d (.sl ((stg (Pg.gnd u p.rels) n).map fcE)),.d (.bool true)]):=by
 have hs:Pg.stgF p (u.map V.tm) n=some (stg (Pg.gnd u p.rels) n):=by
  unfold Pg.stgF;rw [if_pos ⟨by omega,by omega⟩,as8 h ha];rfl
 have h1:=aH2 p (u.map V.tm) n h.wp h.wu;rw [hs,D6] at h1;refine l8.frozen (ds:=[.agg p.enc,.sl (u.map V.enc),.int .i64 n]) (m:=1) h1 (fun c H' hh _=>?_);obtain ⟨h1,e,B,h2⟩:=hh;subst h1 h2;rfl
def bdR (o:Option Pf) (c:C) (H:List O):Prop:=match o with
 | some t=>∃e B e' B',c=.tup [.agg [.d (.str t.rel),.d (.int .i64 t.clause),.own 0 1,.own 1 1],.d (.bool true)]/\H=[.tree 1 4 e (t.values.map Tm.enc) B none,.tree 1 4 e' (t.kids.map Pf.enc) B' none]
 | none=>c=.tup [.d (.agg [.str [],.int .i64 0,.sl [],.sl []]),.d (.bool false)]/\H=[.hole,.hole]
theorem bg3 (rs:List RV) (hr:rs.length<=2000) (hv:bZ8 rs):∀(n:Nat) (f:FcV) (m:Int),(f∈stg rs (top rs)->hN rs f<=n)->-1000000<=m->m<=200->l8 Tryz.prog 50 [.d (.sl (rs.map rvE)),.d (.sl (ax8 rs (top rs+1))),.d (.agg (fcE f)),.d (.int .i64 m)] [.hole,.hole] (bdR (bb9 rs n f m)):=by
 intro n;induction n with
 | zero =>
  intro f m hf hm0 hm1;have hno:f∉stg rs (top rs):=fun h=>by obtain ⟨j,_,h2,_⟩:=M6 h;have:=hf h;omega
  have hh:=an7 rs f (by omega);rw [aH6 hno,o8] at hh;rw [bb9,o8];refine aE_ Tryz.func50 ?_;refine rS_ Tryz.func50 ?_;simp only [go_sem,seval]
  repeat' (first
   | (exact ⟨rfl,rfl⟩)
   | ((refine hh.calls rfl ?_)<;>(try simp only [go_sem,seval]))
   | fail)
 | succ n ih =>
  intro f m hf hm0 hm1;have hmx:maxLen=9223372036854775807:=rfl;have t1:=(O8 rs).1;have hh:=an7 rs f (by omega);by_cases hin:f∈stg rs (top rs)
  ·obtain ⟨j,h1,h2,h3,h4,h5⟩:=M6 hin
   obtain ⟨r,r1,r2,r3,r4⟩:=ah9 hin;have hj1:((j+1:Nat):Int)=(j:Int)+1:=by omega
   rw [h1,hj1,o8] at hh;by_cases hm:m<1
   ·rw [bb9,if_pos (.inr hm),o8]
    have n1:¬(j:Int)+1<1:=by omega
    refine aE_ Tryz.func50 ?_;refine rS_ Tryz.func50 ?_;simp only [go_sem,seval,n1,hm]
    repeat' (first
     | (exact ⟨rfl,rfl⟩)
     | ((refine hh.calls rfl ?_)<;>(try simp only [go_sem,seval,n1,hm]))
     | fail)
   ·obtain ⟨RES,hRES⟩:∃x,bb9 rs (n+1) f m=x:=⟨_,rfl⟩
    rw [hRES];rw [bb9,if_neg (by rw [h1];omega),r1] at hRES;dsimp only at hRES;rw [bS6] at r1;have hN1:hN rs f - 1=j:=by omega
    have n1:¬(j:Int)+1<1:=by omega
    have hat:=al1 rs (i:=j) (m:=top rs+1) (by omega);have hsl:=U9 rs j;have w1:IntKind.i64.wrap ((j:Int)+1 - 1)=(j:Int):=by rw [l6 (by omega) (by omega)];omega
    have n2:(j:Int)<(top rs:Int)+1:=by omega
    rw [o8];refine aE_ Tryz.func50 ?_;refine rS_ Tryz.func50 ?_;simp only [go_sem,seval,n1,hm]
    repeat' (first
     | ((refine hh.calls rfl ?_)<;>(try simp only [go_sem,seval,n1,hm]))
     | fail)
    refine AW.rng rs [0,1,3,6,8,10,29,30] 31 29 (fun _:Unit=>[]) (fun H _=>H) (fun q _=>q.find? (rlP rs f)=some r) () rfl (by simp) r1 A8 (fun i x q b hxi hdr hlt hml hinv hnext=>?_) (fun b hinv=>by cases hinv);have hcm:Gives Tryz.prog 93 [.agg [.str x.head.1,.sl (x.head.2.map V.enc)],.agg [.str f.1,.sl (f.2.map V.enc)]] (.d (.int .i64 (x.head.cmp f))):=X3 x.head f;have hfi:=au2 x (stg rs j) [] (by omega) (by simp);rw [aP4,L9] at hfi;rw [List.find?_cons] at hinv;by_cases hc:x.head.cmp f=0
    ·have hxf:=(FcV.cmp_lin.zero _ _).1 hc
     rw [hc] at hcm;cases hfp:(x.pos.all fun k=>decide (k∈stg rs j)) with
     | true =>
      have hP:rlP rs f x=true:=by unfold rlP;rw [hN1,hfp,hxf];simp
      rw [hP] at hinv;obtain rfl:=Option.some.inj hinv;rw [hfp] at hfi;have hvx:=hv x r2;have hpl:=hvx.2.2.1;have hfn:=hf hin;have hvm:(x.values.map V.tm).map Tm.enc=x.values.map V.enc:=by rw [List.map_map];rfl
      have hcp:=U4 (x.values.map V.tm) (by rw [hvm];exact hvx.1);rw [hvm] at hcp;refine AW.hole ?_;refine l7 Tryz.func50 mixed 15 _ _ (by kernel_rfl) ?_;simp only [go_sem,seval,run.eq_1,hlt,d9 hxi,L9,w1,n2,d9 hat]
      repeat' (first
       | ((first
        | (refine hcm.callQ rfl ?_)
        | (refine hfi.callQ rfl ?_))<;>(try simp only [go_sem,seval,hlt,d9 hxi,L9,w1,n2,d9 hat,run.eq_1]))
       | fail)
      obtain ⟨KB,hKB⟩:∃y,aG7 (bb9 rs n) x.pos (m - 1) []=y:=⟨_,rfl⟩;have hwm:IntKind.i64.wrap (m - 1)=m - 1:=l6 (by omega) (by omega);refine AW.drawA mixed #[true,true,true,true,true,true,true,true,true,false] [(2,.box [.d (.str f.1),.d (.sl (f.2.map V.enc))]),(5,.box [.d (.str x.head.1),.d (.sl (x.head.2.map V.enc)),.d (.int .i64 x.clause),.d (.sl (x.values.map V.enc)),.d (.sl (x.pos.map fcE)),.d (.sl (x.neg.map fcE))])] [] [0,1,2,3,4,5,8,6,7] [9] (some (8,13,31,[.string ⟨#[]⟩,.int .i64 0,.slice none 0 0,.slice none 0 0])) (by kernel_rfl) ci5 (by simp [x9]) ?_;simp only [go_sem,seval]
      repeat' (first
       | ((refine l8.fresh (ds:=[.sl (x.values.map V.enc)]) (m:=1) hcp [4] rfl rfl (by simp) (by simp) ?_<;>(rintro c H' ⟨rfl,e1,B1,rfl⟩ _;refine ⟨rfl,rfl,?_⟩))<;>(try simp only [go_sem,seval]))
       | fail)
      refine AW.adoptTB 6 3 4 31 (by decide) rfl rfl ?_;refine rS_ Tryz.func50 ?_;simp only [go_sem,seval,hwm];have hmapP:∀x:List Pf,(x.map Pf.enc).length=x.length:=fun x=>c_ _;refine AW.rng x.pos [0,1,8,13,61,62] 63 61 (fun u:Int×Nat×List Pf×(Nat->Prop)=>[(14,.d (.int .i64 u.1))]) (fun _ u=>[.hole,.hole,.box [.d (.str f.1),.d (.sl (f.2.map V.enc))],.box [.d (.str []),.d (.int .i64 0),.nil0,.nil0],.tree 1 4 e1 (x.values.map V.enc) B1 none,.box [.d (.str x.head.1),.d (.sl (x.head.2.map V.enc)),.d (.int .i64 x.clause),.d (.sl (x.values.map V.enc)),.d (.sl (x.pos.map fcE)),.d (.sl (x.neg.map fcE))],.box [.d (.str f.1),.d (.int .i64 x.clause),.own 4 1,.own 7 u.2.1],.tree u.2.1 4 31 (u.2.2.1.map Pf.enc) u.2.2.2 none]) (fun s u=>0<=u.1/\u.1<=200/\u.2.2.1.length+s.length=x.pos.length/\aG7 (bb9 rs n) s u.1 u.2.2.1=KB/\∀k,k∈s->k∈x.pos) (m - 1,0,[],fun _=>False) rfl (by simp) ⟨by dsimp only;omega,by dsimp only;omega,by simp,hKB,fun k h=>h⟩ A8 (fun i2 y s u hyi hds hl2 hm2 hinv2 hnext2=>?_) (fun u hinv2=>?_)
      ·obtain ⟨left,q0,K,B0⟩:=u
       obtain ⟨q1,q2,q3,q4,q5⟩:=hinv2;dsimp only at q1 q2 q3 q4 hnext2 |-;simp only [n_] at q3;have hy:=r4 y (q5 y (by simp));have hrec:=ih y left (fun _=>by omega) (by omega) q2;have hbe:=aW6 rs n y left hy.1 (by omega) q2;have hwt:=bG0 hv.w n y hy.1 (by omega);rw [aG7,hbe] at q4;rw [hbe,o8] at hrec;have hnx:=fun l2 q' K' B' s'=>hnext2 (l2,q',K',B') s';clear hnext2;by_cases hcl:((prT rs n y).cnt:Int)<=left
       ·rw [if_pos hcl] at q4 hrec
        dsimp only at q4;generalize prT rs n y=t at *;have h4:=(Pf.count_spec t 200).2.2.1 (by omega);have hco:=au1 t 200 (by omega) (by omega) (by omega);rw [h4] at hco q4;rw [Pf.enc_eq t] at hco;unfold bdR at hrec;dsimp only at hrec;have hcp:=Pf.cnt_pos t;have hws:IntKind.i64.wrap (left - (t.cnt:Int))=left - (t.cnt:Int):=l6 (by omega) (by omega);refine AW.hole ?_;refine AW.hole ?_;refine l7 Tryz.func50 mixed 18 _ _ (by kernel_rfl) ?_;simp only [go_sem,seval,run.eq_1,hl2,d9 hyi,o8]
        repeat' (first
         | ((first
          | (refine (l8.emb hrec [8,9] rfl rfl rfl (by decide) rfl ?_)<;>(rintro c H' ⟨e2,B2,e3,B3,rfl,rfl⟩ _;refine ⟨rfl,rfl,?_⟩))
          | (refine hco.lend rfl (by first | (simp only [go_sem,seval];done)) ?_))<;>(try simp only [go_sem,seval,hl2,d9 hyi,o8,hws,run.eq_1]))
         | fail)
        refine AW.regT ?_;simp only [go_sem,seval,hmapP]
        repeat' (first
         | ((first
          | (refine L6 (fun Bq=>?_))
          | (refine ⟨sd,?_⟩))<;>(try simp only [go_sem,seval,hmapP]))
         | fail)
        have wi:IntKind.i64.wrap ((i2:Int)+1)=(i2:Int)+1:=l6 (by omega) (by omega);refine rS_ Tryz.func50 ?_;simp only [go_sem,seval,wi];refine hnx (left - t.cnt) (q0+1) (K++[t]) Bq _ ⟨by omega,by omega,by simp;omega,q4,fun k h=>q5 k (by simp [h])⟩ (by refine ⟨by simp [mkS,Pf.enc_eq t],by simp [mkS,Pf.enc_eq t],by simp only [mkS,e_,f_,O.refsLt,C.refsLt,C.refsLt1,o5];first | done | rfl | (simp;done),?_⟩;simp [mkS,Abs.get,C.refsLtT,C.refsLt,C.refsLt1])
       ·rw [if_neg hcl] at q4 hrec
        dsimp only at q4;rw [<-q4] at hKB;rw [hKB] at hRES;dsimp only at hRES;unfold bdR at hrec;dsimp only at hrec;rw [<-hRES];refine AW.hole ?_;refine AW.hole ?_;refine rS_ Tryz.func50 ?_;simp only [go_sem,seval,hl2,d9 hyi,o8]
        repeat' (first
         | (exact ⟨rfl,rfl⟩)
         | ((refine (l8.emb hrec [8,9] rfl rfl rfl (by decide) rfl ?_)<;>(rintro c H' ⟨rfl,rfl⟩ _;refine ⟨rfl,rfl,?_⟩))<;>(try simp only [go_sem,seval,hl2,d9 hyi,o8]))
         | fail)
      ·obtain ⟨left,q0,K,B0⟩:=u
       obtain ⟨_,_,_,q4,_⟩:=hinv2;dsimp only at q4 |-;rw [aG7] at q4;rw [hKB,<-q4] at hRES;dsimp only at hRES;rw [<-hRES];refine l7 Tryz.func50 mixed 7 _ _ (by kernel_rfl) ?_;simp only [go_sem,seval,run.eq_1];refine AW.placeB 3 2 4 0 rfl rfl rfl rfl (by decide) ?_;refine AW.placeB 3 3 7 1 rfl rfl rfl rfl (by decide) ?_;refine rS_ Tryz.func50 ?_;simp only [go_sem,seval]
       repeat' (first
        | (exact ⟨_,_,_,_,rfl,by rw [show (Pf.mk f.1 x.clause (x.values.map V.tm) K).values=x.values.map V.tm from rfl,hvm];rfl⟩)
        | fail)
     | false =>
      have hP:rlP rs f x=false:=by unfold rlP;rw [hN1,hfp];simp
      rw [hP] at hinv;rw [hfp] at hfi;refine rS_ Tryz.func50 ?_;simp only [go_sem,seval,hlt,d9 hxi,L9,w1,n2,d9 hat]
      repeat' (first
       | (simp (disch:=omega) only [l6])
       | ((first
        | (refine hcm.callQ rfl ?_)
        | (refine hfi.callQ rfl ?_))<;>(try simp only [go_sem,seval,hlt,d9 hxi,L9,w1,n2,d9 hat]))
       | fail)
      refine hnext () _ hinv A8
    ·have hP:rlP rs f x=false:=by
      unfold rlP;have:¬x.head=f:=fun e=>hc ((FcV.cmp_lin.zero _ _).2 e);simp [this]
     rw [hP] at hinv;refine rS_ Tryz.func50 ?_;simp only [go_sem,seval,hlt,d9 hxi,L9,w1,n2,d9 hat,hc]
     repeat' (first
      | ((refine C9 (fun hq=>?_) (fun hq=>?_))<;>(try simp only [go_sem,seval,hlt,d9 hxi,L9,w1,n2,d9 hat,hc,hq]))
      | (simp (disch:=omega) only [l6])
      | ((refine hcm.callQ rfl ?_)<;>(try simp only [go_sem,seval,hlt,d9 hxi,L9,w1,n2,d9 hat,hc]))
      | fail)
     all_goals first | (exact absurd (by assumption) hc) | skip
     refine hnext () _ hinv A8
  ·rw [aH6 hin,o8] at hh
   rw [bb9,if_pos (.inl (by rw [aH6 hin];omega)),o8];refine aE_ Tryz.func50 ?_;refine rS_ Tryz.func50 ?_;simp only [go_sem,seval]
   repeat' (first
    | (exact ⟨rfl,rfl⟩)
    | ((refine hh.calls rfl ?_)<;>(try simp only [go_sem,seval]))
    | fail)
theorem bz4 {p:Pg} (hp:N9 p=true) {x:Rl} (hx:x∈p.rels):P5 x.name=true:=by
 unfold N9 at hp;rw [a_] at hp;obtain ⟨i,h⟩:=af0 hp.2 x hx;unfold Pg.relOk at h;simp only [a_] at h;exact h.1.1.1.1.1.1.2
theorem br6 {s:List UInt8} (h:P5 s=true):s.length<=12:=by
 have:F9 s=true:=by unfold P5 at h;simp at h;exact h.2
 have:=ac8 this;omega
theorem Made.rul {p:Pg} {u:List V} (h:Made p u):bZ8 (Pg.gnd u p.rels)/\(∀r,r∈Pg.gnd u p.rels->r.head.1.length<=12/\r.values.length<=12/\∀v,v∈r.values->v∈u)/\∀r,r∈Pg.gnd u p.rels->∃x,x∈p.rels/\r.head.1=x.name/\(r.head.2.length:Int)=x.arity/\∀v,v∈r.head.2->v∈u:=by
 have key:∀r,r∈Pg.gnd u p.rels->∃x,x∈p.rels/\r.head.1=x.name/\(r.head.2.length:Int)=x.arity/\(∀v,v∈r.values->v∈u)/\(∀v,v∈r.head.2->v∈u)/\r.values.length<=12/\r.pos.length<=60:=fun r hr=>by
  obtain ⟨x,hx,c,hc,j,w,_,rfl⟩:=av3 _ hr;obtain ⟨z1,z2,z3,z4⟩:=Pg.dims h.ok hx;have hvl:=R4 u (x.arity+x.locals).toNat w;have hcl:=(Gl.clsS_row x.body c hc).1;have hsh:=Pg.body_inst h.ok hx (m:=(x.arity+x.locals).toNat) (by omega);have hct:=hsh.2.2.2.2.2;have hp:=ad3 (o6 (G6 u (x.arity+x.locals).toNat w)) c;have hm:=X7 h.uni.pos (x.arity+x.locals).toNat w;refine ⟨x,hx,rfl,?_,hm,fun v hv=>hm v (r_ hv),by show (G6 u _ w).length<=12;omega,by show (u7 _ c).length<=60;omega⟩;show (((G6 u (x.arity+x.locals).toNat w).take x.arity.toNat).length:Int)=_;rw [A_];omega
 have hn:∀r,r∈Pg.gnd u p.rels->r.head.1.length<=12:=fun r hr=>by
  obtain ⟨x,hx,e,_⟩:=key r hr;rw [e];exact br6 (bz4 h.ok hx)
 refine ⟨fun r hr=>?_,fun r hr=>?_,fun r hr=>?_⟩
 ·obtain ⟨x,hx,_,_,a,_,b,c⟩:=key r hr
  exact ⟨uniwts h.uni _ a b,hn r hr,c,b⟩
 ·obtain ⟨x,hx,_,_,a,_,b,c⟩:=key r hr
  exact ⟨hn r hr,b,a⟩
 ·obtain ⟨x,hx,a,b,_,c,_⟩:=key r hr
  exact ⟨x,hx,a,b,c⟩
theorem by6 {p:Pg} {u:List V} (hM:Made p u) (ha:p.all false=true) {f:FcV} (hf:f∈stg (Pg.gnd u p.rels) (top (Pg.gnd u p.rels))):l8 Tryz.prog 23 [.d (.agg p.enc),.d (.sl (u.map V.enc)),.d (.agg (fcE f))] [.hole,.hole] (bdR (bK0 (Pg.gnd u p.rels) f)):=by
 obtain ⟨hw1,hw2⟩:wtL p.enc<=1048576/\wtR ((u.map V.tm).map Tm.enc)<=1048576:=⟨hM.wp,hM.wu⟩;have hal:=aN1 p (u.map V.tm) hw1 hM.mem (by rw [c_];have:=hM.uni.le;omega);rw [D6,as8 hM ha,ax1] at hal;have hfit:p.factFits f.fc=true/\wtL (fcE f)+1<=500:=by
  obtain ⟨j,_,_,_,h4,_⟩:=M6 hf;have h5:f∈R7 (Pg.gnd u p.rels) (stg (Pg.gnd u p.rels) j) []:=h4;exact ⟨(hM.head h5).2.1,(hM.head h5).2.2.2⟩
 have hfo:=be2 p f.fc hw1 (by have:=hfit.2;unfold fcE at this;omega);rw [hM.ok,hfit.1,Bool.and_true] at hfo;have hrl:=(aC1 hM.gr).2;have hbl:=bg3 (Pg.gnd u p.rels) (by omega) hM.rul.1 (top (Pg.gnd u p.rels)) f 200 (fun h=>by obtain ⟨j,_,h2,h3,_⟩:=M6 h;omega) (by omega) (by omega);rw [bE0] at hbl;have hfe:f.fc.enc=[.str f.1,.sl (f.2.map V.enc)]:=o8 f;rw [hfe] at hfo;rw [o8] at hbl |-;generalize ax8 (Pg.gnd u p.rels) (top (Pg.gnd u p.rels)+1)=SD at *;generalize bK0 (Pg.gnd u p.rels) f=K at *;unfold bdR at hbl |-;cases K with
 | none =>
  dsimp only at hbl |-;refine aE_ Tryz.func23 ?_;refine rS_ Tryz.func23 ?_;simp only [go_sem,seval]
  repeat' (first
   | ((first
    | (refine hal.calls rfl ?_)
    | (refine hfo.calls rfl ?_)
    | (refine (l8.emb hbl [0,1] rfl rfl rfl (by decide) rfl ?_)<;>(rintro c H' ⟨rfl,rfl⟩ _;refine ⟨rfl,rfl,?_⟩)))<;>(try simp only [go_sem,seval]))
   | fail)
 | some t =>
  dsimp only at hbl |-;refine aE_ Tryz.func23 ?_;refine rS_ Tryz.func23 ?_;simp only [go_sem,seval]
  repeat' (first
   | (exact ⟨_,_,_,_,rfl⟩)
   | ((first
    | (refine hal.calls rfl ?_)
    | (refine hfo.calls rfl ?_)
    | (refine (l8.emb hbl [0,1] rfl rfl rfl (by decide) rfl ?_)<;>(rintro c H' ⟨e1,B1,e2,B2,rfl,rfl⟩ _;refine ⟨rfl,rfl,?_⟩)))<;>(try simp only [go_sem,seval]))
   | fail)
theorem bA2 {p:Pg} {u:List V} (hM:Made p u) (hmd:p.made 1) (hul:u.length<=2) {f:FcV} {t:Pf} (h:bK0 (Pg.gnd u p.rels) f=some t):PfMade u t:=by
 unfold bK0 at h;split at h
 ·rename_i h1
  obtain rfl:=Option.some.inj h;obtain ⟨j,_,h3,h4,_⟩:=M6 h1.1;obtain ⟨a,b⟩:=bo9 hM.rul.2.1 (top (Pg.gnd u p.rels)) f h1.1 (by omega);have c:=bI5 hM.ok hul hM.uni hM.rul.2.2;have d:=Pg.made_arL hmd;exact ⟨a,h1.2,by unfold prF;omega⟩
 ·cases h
theorem PfMade.leaf {u:List V} (s:List UInt8) (c:Int) (h:s.length<=12):PfMade u (.mk s c [] []):=by
 refine ⟨?_,by simp [Pf.cnt,Pf.cnts],by simp [Pf.hei,Pf.heis]⟩;simp only [Pf.inU,Pf.inUs];exact ⟨h,by simp,(fun v hv=>by cases hv),trivial⟩
theorem bV1 (u:List V) (s:List UInt8) (c:Int) (h:s.length<=12):∃t:Pf,C.d (.agg [.str s,.int .i64 c,.sl [],.sl []])=.d (.agg t.enc)/\PfMade u t:=⟨.mk s c [] [],by rw [Pf.enc_eq];rfl,PfMade.leaf s c h⟩
theorem clE {u:List V} {t:Pf} (h:PfMade u t) (c:Int):∃t':Pf,C.d (.agg [.str t.rel,.int .i64 c,.sl (t.values.map Tm.enc),.sl (t.kids.map Pf.enc)])=.d (.agg t'.enc)/\PfMade u t':=⟨.mk t.rel c t.values t.kids,by rw [Pf.enc_eq];rfl,h.cl c⟩
theorem cq4 {u:List V} {t:Pf} (h:PfMade u t) (i:Nat) {x:V} (hx:x∈u):∃t':Pf,C.d (.agg [.str t.rel,.int .i64 t.clause,.sl ((t.values.map Tm.enc).set i x.enc),.sl (t.kids.map Pf.enc)])=.d (.agg t'.enc)/\PfMade u t':=⟨.mk t.rel t.clause (t.values.set i x.tm) t.kids,by rw [Pf.enc_eq,show x.enc=x.tm.enc from rfl,<-List.map_set];rfl,h.val i hx⟩
theorem ct3 {u:List V} {t k:Pf} {r:List Pf} (h:PfMade u t) (hk:t.kids=k :: r) (c:Int):∃t':Pf,C.d (.agg [.str t.rel,.int .i64 t.clause,.sl (t.values.map Tm.enc),.sl ([.str k.rel,.int .i64 c,.sl (k.values.map Tm.enc),.sl (k.kids.map Pf.enc)] :: r.map Pf.enc)])=.d (.agg t'.enc)/\PfMade u t':=⟨.mk t.rel t.clause t.values (.mk k.rel c k.values k.kids :: r),by
 have e:=Pf.enc_eq (.mk k.rel c k.values k.kids);rw [Pf.enc_eq];show C.d (.agg [.str t.rel,.int .i64 t.clause,.sl (t.values.map Tm.enc),.sl (_ :: r.map Pf.enc)])=C.d (.agg [.str t.rel,.int .i64 t.clause,.sl (t.values.map Tm.enc),.sl ((Pf.mk k.rel c k.values k.kids).enc :: r.map Pf.enc)]);rw [e];rfl,h.kid hk c⟩
theorem aX0 (B:List UInt8) (hB:B.length<=1048576) (n:Nat) (hn:n<=1000) {p:Pg} {u:List V} (hM:Made p u) (hmd:p.made 1) (hul:u.length<=2) (ha:p.all false=true):l8 Tryz.prog 6 [.d (.sl (bytesD B)),.d (.int .i64 n),.d (.agg p.enc),.d (.sl (u.map V.enc))] [] (fun c H'=>∃t:Pf,c=.d (.agg t.enc)/\H'=[]/\PfMade u t):=by
 have hmx:maxLen=9223372036854775807:=rfl;have hw:=aG2 B hB n (by omega);have hPe:=Pg.enc_eq p;have hlm:=aF1 p (u.map V.tm) hM.wp hM.wu;rw [as8 hM ha,D6] at hlm;unfold lmC at hlm;dsimp only at hlm;have hpv:=fun f hf=>by6 hM ha (f:=f) hf;have hpm:=fun f t h=>bA2 (f:=f) (t:=t) hM hmd hul h;have hsl:(stg (Pg.gnd u p.rels) (top (Pg.gnd u p.rels))).length<=2000:=by
  have h1:=U9 (Pg.gnd u p.rels) (top (Pg.gnd u p.rels));have h2:=(aC1 hM.gr).2;omega
 rw [hPe] at hlm |-;simp only [hPe] at hpv;have hmf:∀l:List FcV,(l.map fcE).length=l.length:=fun l=>c_ _;have hmu:(u.map V.enc).length=u.length:=c_ _;have hu1:=hM.uni.pos;generalize stg (Pg.gnd u p.rels) (top (Pg.gnd u p.rels))=L at *;generalize top (Pg.gnd u p.rels)=k at *;refine aE_ Tryz.func6 ?_;refine AW.hole ?_;refine AW.hole ?_;refine AW.hole ?_;refine l7 Tryz.func6 mixed 5 _ _ (by kernel_rfl) ?_;simp only [go_sem,seval,run.eq_1]
 repeat' (first
  | ((refine (l8.emb hw [0] rfl rfl rfl (by decide) rfl ?_)<;>(rintro c H' ⟨rfl,i,h,rfl,e1,e2⟩ _;refine ⟨rfl,rfl,?_⟩))<;>(try simp only [go_sem,seval,run.eq_1]))
  | fail)
 refine AW.unbox 9 0 (cs:=cuD B i h) rfl rfl ?_;have hbg:=fun i h e1 e2 n=>y9 B i h hB e1 e2 n;by_cases hL:L.length=0
 ·have hL0:L=[]:=B_ hL
  subst hL0;refine rS_ Tryz.func6 ?_;simp only [go_sem,seval,hmf]
  repeat' (first
   | (exact bV1 _ _ _ (by decide))
   | ((refine hlm.calls rfl ?_)<;>(try simp only [go_sem,seval,hmf]))
   | fail)
 ·have hL1:¬(L.length:Int)=0:=by omega
  refine l7 Tryz.func6 mixed 7 _ _ (by kernel_rfl) ?_;simp only [go_sem,seval,run.eq_1,hmf]
  repeat' (first
   | ((refine hlm.calls rfl ?_)<;>(try simp only [go_sem,seval,hmf,run.eq_1,hL1]))
   | fail)
  refine AW.drawA mixed #[true,true,true,true,true,true,true,true,true,true,true,true,true,true,false,false] [(3,.box [.d (.sl (p.rels.map Rl.enc))])] [] [0,1,2,3,4,5,13,6,7,8,9,10,11,12] [14,15] (some (13,13,31,[.string ⟨#[]⟩,.int .i64 0,.slice none 0 0,.slice none 0 0])) (by kernel_rfl) ci5 (by simp [x9]) ?_;simp only [go_sem,seval,hmf]
  repeat' (first
   | ((refine y7 (fun x hx=>have hq:=hx;?_))<;>(try simp only [go_sem,seval,hmf,hq]))
   | ((first
    | (refine (l8.emb (hbg i h e1 e2 L.length) [5] rfl rfl rfl (by decide) rfl ?_)<;>(rintro c H' ⟨x,i2,h2,rfl,rfl,hx,e3,e4⟩ _;refine ⟨rfl,rfl,?_⟩))
    | (refine ⟨sd,?_⟩))<;>(try simp only [go_sem,seval,hmf]))
   | fail)
  have hfm:x∈L:=d_ (by assumption);have hp1:=hpv x hfm;cases hr:bK0 (Pg.gnd u p.rels) x with
  | none =>
   rw [hr] at hp1;unfold bdR at hp1;dsimp only at hp1;refine l8.emb hp1 [1,2] rfl rfl rfl (by decide) rfl ?_;rintro c H' ⟨rfl,rfl⟩ _;refine ⟨rfl,rfl,?_⟩;simp only [go_sem,seval];refine rS_ Tryz.func6 ?_;simp only [go_sem,seval]
   repeat' (first
    | (exact bV1 _ _ _ (by decide))
    | ((refine C9 (fun hq=>?_) (fun hq=>?_))<;>(try simp only [go_sem,seval,hq]))
    | ((first
     | (refine (l8.emb (hbg _ _ (by assumption) (by assumption) 6) [5] rfl rfl rfl (by decide) rfl ?_)<;>(rintro c H' ⟨y,i3,h3,rfl,rfl,hy,e5,e6⟩ _;refine ⟨rfl,rfl,?_⟩))
     | (refine (l8.emb (hbg _ _ (by assumption) (by assumption) 3) [5] rfl rfl rfl (by decide) rfl ?_)<;>(rintro c H' ⟨y,i3,h3,rfl,rfl,hy,e5,e6⟩ _;refine ⟨rfl,rfl,?_⟩)))<;>(try simp only [go_sem,seval]))
    | fail)
  | some t =>
   have ht:=hpm x t hr;rw [hr] at hp1;unfold bdR at hp1;dsimp only at hp1;refine l8.emb hp1 [1,2] rfl rfl rfl (by decide) rfl ?_;rintro c H' ⟨e1',B1,e2',B2,rfl,rfl⟩ _;refine ⟨rfl,rfl,?_⟩;simp only [go_sem,seval];refine AW.treeBF 1 rfl ?_;refine AW.treeBF 2 rfl ?_;refine l7 Tryz.func6 mixed 4 _ _ (by kernel_rfl) ?_;simp only [go_sem,seval,run.eq_1]
   repeat' (first
    | ((refine (l8.emb (hbg _ _ (by assumption) (by assumption) 6) [5] rfl rfl rfl (by decide) rfl ?_)<;>(rintro c H' ⟨y,i3,h3,rfl,rfl,hy,e5,e6⟩ _;refine ⟨rfl,rfl,?_⟩))<;>(try simp only [go_sem,seval,run.eq_1]))
    | fail)
   by_cases y0:y=0
   ·subst y0
    refine AW.frzBox 6 2 1 rfl rfl rfl (by decide) ?_;refine AW.frzBox 6 3 2 rfl rfl rfl (by decide) ?_;refine rS_ Tryz.func6 ?_;simp only [go_sem,seval]
    repeat' (first
     | (exact clE ht _)
     | ((refine (l8.emb (hbg _ _ (by assumption) (by assumption) 3) [5] rfl rfl rfl (by decide) rfl ?_)<;>(rintro c H' ⟨y,i3,h3,rfl,rfl,hy,e5,e6⟩ _;refine ⟨rfl,rfl,?_⟩))<;>(try simp only [go_sem,seval]))
     | fail)
   by_cases y1:y=1
   ·subst y1
    refine AW.frzBox 6 3 2 rfl rfl rfl (by decide) ?_;by_cases hv:t.values.length=0
    ·have hv0:t.values=[]:=B_ hv
     refine AW.frzBox 6 2 1 rfl rfl rfl (by decide) ?_;have hce:=clE ht t.clause;rw [hv0] at hce |-;refine rS_ Tryz.func6 ?_;simp only [go_sem,seval]
     repeat' (first
      | (exact hce)
      | fail)
    ·have hvp:(0:Int)<(t.values.length:Int):=by omega
     have hvm:(t.values.map Tm.enc).length=t.values.length:=c_ _;refine l7 Tryz.func6 mixed 7 _ _ (by kernel_rfl) ?_;simp only [go_sem,seval,run.eq_1,hvm,hvp];refine AW.regT ?_;simp only [go_sem,seval,hvm,hvp];refine l7 Tryz.func6 mixed 1 _ _ (by kernel_rfl) ?_;simp only [go_sem,seval,run.eq_1,hvm,hvp];refine AW.drawA mixed #[true,true,true,true,true,true,true,true,true,true,true,true,true,true,false,false] [(6,.box [.d (.str t.rel),.d (.int .i64 t.clause),.own 1 1,.d (.sl (t.kids.map Pf.enc))])] [5] [0,1,2,3,4,7,8,9,10,5,6,11,12,13] [14,15] none (by kernel_rfl) trivial (by simp [x9]) ?_;simp only [go_sem,seval,hvm,hmu]
     repeat' (first
      | ((refine y7 (fun x hx=>have hq:=hx;?_))<;>(try simp only [go_sem,seval,hvm,hmu,hq]))
      | ((first
       | (refine (l8.emb (hbg _ _ (by assumption) (by assumption) _) [5] rfl rfl rfl (by decide) rfl ?_)<;>(rintro c H' ⟨y,i3,h3,rfl,rfl,hy,e5,e6⟩ _;refine ⟨rfl,rfl,?_⟩))
       | (refine ⟨sd,?_⟩))<;>(try simp only [go_sem,seval,hvm,hmu]))
      | fail)
     have hdr:∀i:Nat,List.drop 4 ((Option.map Tm.enc t.values[i]?).getD [])=[]:=fun i=>by
      cases t.values[i]? with
      | none=>rfl
      | some v=>exact G_ (by simp [Tm.enc_len])
     have hxm:x∈u:=d_ (by assumption);simp only [hdr,i_];refine AW.frzBox 6 2 1 rfl rfl rfl (by decide) ?_;refine rS_ Tryz.func6 ?_;simp only [go_sem,seval]
     repeat' (first
      | (exact cq4 ht _ hxm)
      | fail)
   by_cases y2:y=2
   ·subst y2
    refine AW.frzBox 6 2 1 rfl rfl rfl (by decide) ?_;cases hk:t.kids with
    | nil =>
     refine AW.frzBox 6 3 2 rfl rfl rfl (by decide) ?_;have hce:=clE ht t.clause;rw [hk] at hce;refine rS_ Tryz.func6 ?_;simp only [go_sem,seval]
     repeat' (first
      | (exact hce)
      | fail)
    | cons k r =>
     have hkp:(0:Int)<(r.length:Int)+1:=by omega
     have hrm:(r.map Pf.enc).length=r.length:=c_ _;refine l7 Tryz.func6 mixed 10 _ _ (by kernel_rfl) ?_;simp only [go_sem,seval,run.eq_1,hrm,hkp];refine AW.regT ?_;simp only [go_sem,seval,hrm,hkp];refine l7 Tryz.func6 mixed 1 _ _ (by kernel_rfl) ?_;simp only [go_sem,seval,run.eq_1,hrm,hkp];refine AW.drawA mixed #[true,true,true,true,false,false,false] [(6,.box [.d (.str t.rel),.d (.int .i64 t.clause),.d (.sl (t.values.map Tm.enc)),.own 2 1])] [] [0,1,2,3] [4,5,6] none (by kernel_rfl) trivial (by simp [x9]) ?_;simp only [go_sem,seval,hrm]
     repeat' (first
      | ((first
       | (refine (l8.emb (hbg _ _ (by assumption) (by assumption) 3) [5] rfl rfl rfl (by decide) rfl ?_)<;>(rintro c H' ⟨y,i3,h3,rfl,rfl,hy,e5,e6⟩ _;refine ⟨rfl,rfl,?_⟩))
       | (refine ⟨sd,?_⟩))<;>(try simp only [go_sem,seval,hrm]))
      | fail)
     have hk2:List.drop 2 k.enc=[.sl (k.values.map Tm.enc),.sl (k.kids.map Pf.enc)]:=by rw [Pf.enc_eq];rfl
     simp only [hk2];refine AW.frzBox 6 3 2 rfl rfl rfl (by decide) ?_;refine rS_ Tryz.func6 ?_;simp only [go_sem,seval]
     repeat' (first
      | (exact ct3 ht hk _)
      | fail)
   refine AW.frzBox 6 2 1 rfl rfl rfl (by decide) ?_;refine AW.frzBox 6 3 2 rfl rfl rfl (by decide) ?_;refine rS_ Tryz.func6 ?_;simp only [go_sem,seval,y0,y1,y2]
   repeat' (first
    | (exact clE ht _)
    | fail)
def ct2 (t:Pf):Prop:=∀c:Int,0<=c->c<=200->l8 Tryz.prog 27 [.d (.agg t.enc),.ptr 0 0] [.box [.d (.int .i64 c)]] fun v H'=>v=.d (.int .i64 (t.mea c).1)/\H'=[.box [.d (.int .i64 (t.mea c).2)]]
theorem aM7:∀t:Pf,wtL t.enc<=1048576->ct2 t:=by
 intro t;induction t using Pf.ind' with
 | h t ih =>
  intro hw c h0 h1;rw [Pf.mea_eq];generalize hM:Pf.meas t.kids 0 (c+1)=M;refine aE_ Tryz.func27 ?_;refine rS_ Tryz.func27 ?_;simp only [go_sem,seval]
  repeat' (first
   | (simp (disch:=omega) only [l6])
   | fail)
  try simp (disch:=omega) only [l6]
  refine rS_ Tryz.func27 ?_;simp only [go_sem,seval];refine AW.rng t.kids [1,15,16] 17 15 (fun p:Int×Int=>[(5,.d (.int .i64 p.1))]) (fun _ p=>[.box [.d (.int .i64 p.2)],.box (t.enc.map .d)]) (fun r p=>Pf.meas r p.1 p.2=M/\0<=p.1/\p.1<=1048577/\0<=p.2/\p.2<=2000000) (0,c+1) rfl (by simp) ⟨hM,by simp,by simp,by dsimp only;omega,by dsimp only;omega⟩ A8 (fun i x r p hxi hdr hlt hm hinv hnext=>?_) (fun p hinv=>?_)
  ·obtain ⟨h,cc⟩:=p
   obtain ⟨i1,i2,i3,i4,i5⟩:=hinv;dsimp only at i1 i2 i3 i4 i5 hnext |-;have hxm:=d_ hxi;have hxw:=Pf.wt_kids hxm;have hxc:=Pf.cnt_le_wt x;simp only [Pf.meas] at i1;by_cases hb:200<cc
   ·rw [if_pos hb] at i1
    subst i1;refine rS_ Tryz.func27 ?_;simp only [go_sem,seval,hlt,d9 hxi,hb]
   ·rw [if_neg (by omega)] at i1
    have hx:=ih x hxm (by omega) cc i4 (by omega);have hsp:=Pf.mea_spec x cc;have hmx2:bp7 h (x.mea cc).1=if h<(x.mea cc).1 then (x.mea cc).1 else h:=rfl
    have hmb:0<=bp7 h (x.mea cc).1/\bp7 h (x.mea cc).1<=1048577:=by rw [hmx2];split<;>omega
    refine rS_ Tryz.func27 ?_;simp only [go_sem,seval,hlt,d9 hxi,hb]
    repeat' (first
     | (simp (disch:=omega) only [l6])
     | ((refine hx.at1 rfl 0 rfl rfl ?_<;>(rintro v o' ⟨rfl,ho⟩;cases ho;refine ⟨rfl,rfl,?_⟩))<;>(try simp only [go_sem,seval,hlt,d9 hxi,hb,C.at1]))
     | fail)
    refine hnext (bp7 h (x.mea cc).1,(x.mea cc).2) _ ⟨i1,hmb.1,hmb.2,by dsimp only;omega,by dsimp only;omega⟩ (by refine ⟨by simp [mkS,hmx2],by simp [mkS,hmx2],by simp only [mkS,e_,f_,O.refsLt,C.refsLt,C.refsLt1,o5];first | done | rfl | (simp;done),?_⟩;simp [mkS,Abs.get,C.refsLtT,C.refsLt,C.refsLt1,hmx2])
  ·obtain ⟨h,cc⟩:=p
   obtain ⟨i1,i2,i3,i4,i5⟩:=hinv;dsimp only at i1 i2 i3 i4 i5 |-;simp only [Pf.meas] at i1;subst i1;refine rS_ Tryz.func27 ?_;simp only [go_sem,seval]
   repeat' (first
    | (simp (disch:=omega) only [l6])
    | fail)
   all_goals try simp (disch:=omega) only [l6]
theorem aH3 (t:Pf) (hw:wtL t.enc<=1048576):Gives Tryz.prog 32 [.agg t.enc] (.d (.int .i64 t.sizeI)):=by
 have hx:=aM7 t hw 0 (by omega) (by omega);have hs:=Pf.size_mea t;generalize t.sizeI=N at hs |-;generalize (t.mea 0).2=c at hx hs;refine aE_ Tryz.func32 ?_;refine rS_ Tryz.func32 ?_;simp only [go_sem,seval]
 repeat' (first
  | ((refine C9 (fun hq=>?_) (fun hq=>?_))<;>(try simp only [go_sem,seval,C.at1,hq]))
  | ((refine hx.at1 rfl 1 rfl rfl ?_<;>(rintro v o' ⟨rfl,ho⟩;cases ho;refine ⟨rfl,rfl,?_⟩))<;>(try simp only [go_sem,seval,C.at1]))
  | fail)
 ·rw [hs,if_pos (by omega)]
 ·rw [hs,if_neg (by omega)]
theorem be7 (p:Pg) (hok:N9 p=true) (hwp:wtL p.enc<=1048576):∀t:Pf,wtL t.enc<=1048576->Gives Tryz.prog 33 [.agg p.enc,.agg t.enc] (.d (.bool (p.prf t))):=by
 intro t;induction t using Pf.ind' with
 | h t ih =>
  intro hw;have hmx:maxLen=9223372036854775807:=rfl;have hrel:=Y6 p t.rel;have hrg:=Pg.find_range p t.rel;rw [Pg.prf_eq];by_cases hf:p.find t.rel<0
  ·rw [Pg.prfAt_neg hf]
   generalize p.find t.rel=f at *;refine aE_ Tryz.func33 ?_;refine rS_ Tryz.func33 ?_;simp only [go_sem,seval,hf]
   repeat' (first
    | ((refine hrel.calls rfl ?_)<;>(try simp only [go_sem,seval,hf]))
    | fail)
  ·obtain ⟨r, hr⟩:∃r,p.rels[(p.find t.rel).toNat]? = some r:=⟨_,h_ (by omega)⟩
   have hrm:=d_ hr;have hre:(p.rels.map Rl.enc)[(p.find t.rel).toNat]? = some r.enc:=by simp [hr]
   rw [Pg.prfAt_at (by omega) hr];have hbw:wtL r.body.enc<=1048576:=by have:=Pg.wt_rels hrm;have:=Rl.wt_body r;omega
   have hcl:=ao6 r.body hbw;rw [Gl.cls_same] at hcl;generalize p.find t.rel=f at *;have hf0:0<=f:=by omega
   have hf1:f<(p.rels.length:Int):=by omega
   have hadd:0<=r.arity/\r.arity<=4/\0<=r.locals/\r.locals<=8:=by
    unfold N9 at hok;simp only [a_] at hok;obtain ⟨i,hi⟩:=af0 hok.2 r hrm;unfold Pg.relOk at hi;simp only [a_,decide_eq_true_eq] at hi;omega
   have hwr:IntKind.i64.wrap (r.arity+r.locals)=r.arity+r.locals:=l6 (by omega) (by omega);have hir:=fun (Q:List D->Prop)=>d9 hre Q;by_cases hlen:(t.values.length:Int)=r.arity+r.locals
   ·obtain ⟨hbi,_⟩:=Pg.body_inst hok hrm (m:=t.values.length) hlen
    rw [decide_eq_true hlen,g_];generalize hREST:(decide (r.body.clsS.length<=64) && (decide (0<=t.clause) && (match r.body.clsS[t.clause.toNat]? with
     | none=>false
     | some c=>J6 (o6 (t.values.map Tm.V)) c (p.prfs t.kids))))=REST
    generalize hN:(t.values.all Tm.ground && REST)=N;have hne:((t.values.length:Int) != r.arity+r.locals)=false:=by simp [hlen]
    refine aE_ Tryz.func33 ?_;refine rS_ Tryz.func33 ?_;simp only [go_sem,seval,hf,hf0,hf1,hwr,hir,hne]
    repeat' (first
     | ((refine hrel.calls rfl ?_)<;>(try simp only [go_sem,seval,hf,hf0,hf1,hwr,hir,hne]))
     | fail)
    have hwv:∀x,x∈t.values->wtL x.enc<=1048576:=fun x hx=>by have:=Pf.wt_values hx;omega
    refine AW.rng t.values [2,3,5,39,40] 41 39 (fun _:Unit=>[]) (fun H _=>H) (fun s _=>t.values.all Tm.ground=s.all Tm.ground) () rfl (by simp) rfl A8 (fun i x s acc hxi hdr hlt hm hinv hnext=>?_) (fun acc hinv=>?_)
    ·have hwx:=hwv x (d_ hxi)
     rw [e_] at hinv;refine rS_ Tryz.func33 ?_;simp only [go_sem,seval,hlt,d9 hxi]
     repeat' (first
      | ((refine C9 (fun hq=>?_) (fun hq=>?_))<;>(try simp only [go_sem,seval,hlt,d9 hxi,hq]))
      | (simp (disch:=omega) only [l6])
      | ((refine (ao0 _ sd).calls rfl ?_)<;>(try simp only [go_sem,seval,hlt,d9 hxi]))
      | fail)
     ·rw [<-hN,hinv];simp [*]
     ·exact hnext () _ (by rw [hinv];simp [*]) A8
    ·rw [f_] at hinv
     rw [hinv,g_] at hN;subst hN;have hev:t.values.map Tm.enc=(t.values.map Tm.V).map V.enc:=by conv=>lhs;rw [ab4 hinv,D6]
     have hvl:(t.values.map Tm.V).length=t.values.length:=by simp
     generalize hvs:t.values.map Tm.V=vs at *;by_cases h64:r.body.clsS.length<=64
     ·rw [if_pos h64] at hcl
      rw [decide_eq_true h64,g_] at hREST;by_cases hc:0<=t.clause/\t.clause<(r.body.clsS.length:Int)
      ·obtain ⟨c,hcc⟩:∃c,r.body.clsS[t.clause.toNat]? = some c:=⟨_,h_ (by omega)⟩
       rw [decide_eq_true hc.1,g_,hcc] at hREST;dsimp only at hREST;have hce:(r.body.clsS.map aC4)[t.clause.toNat]? = some (aC4 c):=by simp [hcc]
       have hc1:¬t.clause<0:=by omega
       have hc2:¬(r.body.clsS.length:Int)<=t.clause:=by omega
       have hc0:=hc.1;have hc3:=hc.2;have hci:=fun (Q:List D->Prop)=>d9 hce Q;have hrow:=(Gl.clsS_row r.body c (d_ hcc)).2;refine rS_ Tryz.func33 ?_;simp only [go_sem,seval,hir,hf0,hf1]
       repeat' (first
        | ((refine hcl.calls rfl ?_)<;>(try simp only [go_sem,seval,ay8,u_,t_,hir,hf0,hf1,hc0,hc1,hc2,hc3,hci,z8]))
        | fail)
       refine AW.rng c [2,3,77,78] 79 77 (fun k:Nat=>[(10,.d (.int .i64 k))]) (fun H _=>H) (fun s k=>J6 (o6 vs) s ((p.prfs t.kids).drop k)=REST/\k<=t.kids.length) 0 rfl (by simp) ⟨by rw [List.drop_zero];exact hREST,s_ _⟩ A8 (fun i g s k hgi hdg hgt hmg hinv2 hnx=>?_) (fun k hinv2=>?_)
       ·obtain ⟨j1,j2⟩:=hinv2
        have hkl:t.kids.length<=1048576:=by
         have h1:=U8 (t.kids.map Pf.enc) 0;simp only [bd3,c_] at h1;simp only [Pf.enc_eq t,wtL,D.wt] at hw;omega
        have hgI:=Gl.inst_sub hbi g (hrow g (d_ hgi));rw [<-hvl] at hgI;unfold J6 at j1;by_cases h10:g.kind=10
        ·rw [if_pos h10] at j1
         rw [<-j1];refine rS_ Tryz.func33 ?_;simp only [go_sem,seval,hgt,d9 hgi,h10]
        ·rw [if_neg h10] at j1
         by_cases h9:g.kind=9
         ·rw [if_pos h9] at j1
          by_cases hk:k<t.kids.length
          ·obtain ⟨kd,hkd⟩:∃kd,t.kids[k]? = some kd:=⟨_,h_ hk⟩
           have hdk:(p.prfs t.kids).drop k=(p.prf kd,p.headV kd.rel kd.values) :: (p.prfs t.kids).drop (k+1):=by
            obtain ⟨_,e⟩:=b_.1 hkd;rw [Pg.prfs_eq,<-k_,List.drop_eq_getElem_cons hk,q_,e,k_]
           rw [hdk] at j1;dsimp only at j1;have hkm:=d_ hkd;have hih:=ih kd hkm (by have:=Pf.wt_kids hkm;omega);have hke:(t.kids.map Pf.enc)[k]? = some kd.enc:=by simp [hkd]
           have hkz:(k:Int)<(t.kids.length:Int):=by omega
           have hkn:¬(t.kids.length:Int)<=(k:Int):=by omega
           have hki:=fun (Q:List D->Prop)=>d9 hke Q;have hcf:=ag4 g vs hgI;rw [<-hev] at hcf;cases hb:p.prf kd with
           | false =>
            rw [hb] at hih j1;simp only [j_] at j1;rw [<-j1];refine rS_ Tryz.func33 ?_;simp only [go_sem,seval,hgt,d9 hgi,h10,h9]
            repeat' (first
             | ((refine C9 (fun hq=>?_) (fun hq=>?_))<;>(try simp only [go_sem,seval,hgt,d9 hgi,h10,h9,hkz,hkn,hki,hq]))
             | ((refine hih.callQ rfl ?_)<;>(try simp only [go_sem,seval,hgt,d9 hgi,h10,h9,hkz,hkn,hki]))
             | fail)
           | true =>
            have hpf:=an3 p hok kd hb;rw [hb] at hih j1;simp only [g_] at j1;have hord:Gives Tryz.prog 63 [.agg (FcV.fc (p.headV kd.rel kd.values)).enc,.agg (FcV.fc (g.callV (o6 vs))).enc] (.d (.int .i64 (I6 (p.headV kd.rel kd.values).1 (p.headV kd.rel kd.values).2 (g.callV (o6 vs)).1 (g.callV (o6 vs)).2))):=ai5 _ _ _ _;have heq:FcV.eq (p.headV kd.rel kd.values) (g.callV (o6 vs))=decide (I6 (p.headV kd.rel kd.values).1 (p.headV kd.rel kd.values).2 (g.callV (o6 vs)).1 (g.callV (o6 vs)).2=0):=rfl;rw [heq] at j1;generalize I6 (p.headV kd.rel kd.values).1 (p.headV kd.rel kd.values).2 (g.callV (o6 vs)).1 (g.callV (o6 vs)).2=cf at hord j1;generalize FcV.fc (p.headV kd.rel kd.values)=F1 at hpf hord;generalize FcV.fc (g.callV (o6 vs))=F2 at hcf hord;by_cases he:cf=0
            ·rw [decide_eq_true he,g_] at j1
             refine rS_ Tryz.func33 ?_;simp only [go_sem,seval,hgt,d9 hgi,h10,h9]
             repeat' (first
              | ((refine C9 (fun hq=>?_) (fun hq=>?_))<;>(try simp only [go_sem,seval,hgt,d9 hgi,h10,h9,hkz,hkn,hki,he,hq]))
              | (simp (disch:=omega) only [l6])
              | ((first
               | (refine hih.callQ rfl ?_)
               | (refine hpf.callQ rfl ?_)
               | (refine hcf.callQ rfl ?_)
               | (refine hord.callQ rfl ?_))<;>(try simp only [go_sem,seval,hgt,d9 hgi,h10,h9,hkz,hkn,hki,he]))
              | fail)
             ·refine hnx (k+1) _ ⟨j1,hk⟩ A8
             all_goals (exfalso;omega)
            ·rw [decide_eq_false he,j_] at j1
             rw [<-j1];refine rS_ Tryz.func33 ?_;simp only [go_sem,seval,hgt,d9 hgi,h10,h9]
             repeat' (first
              | ((refine C9 (fun hq=>?_) (fun hq=>?_))<;>(try simp only [go_sem,seval,hgt,d9 hgi,h10,h9,hkz,hkn,hki,hq]))
              | (simp (disch:=omega) only [l6])
              | ((first
               | (refine hih.callQ rfl ?_)
               | (refine hpf.callQ rfl ?_)
               | (refine hcf.callQ rfl ?_)
               | (refine hord.callQ rfl ?_))<;>(try simp only [go_sem,seval,hgt,d9 hgi,h10,h9,hkz,hkn,hki]))
              | fail)
             all_goals first | rfl | (exfalso;omega) | (exact absurd (by assumption) he)
          ·have hdk:(p.prfs t.kids).drop k=[]:=G_ (by rw [Pg.prfs_eq,c_];omega)
           rw [hdk] at j1;dsimp only at j1;rw [<-j1];have hkn:(t.kids.length:Int)<=(k:Int):=by omega
           refine rS_ Tryz.func33 ?_;simp only [go_sem,seval,hgt,d9 hgi,h10,h9,hkn]
         ·rw [if_neg h9] at j1
          have htw:=ar0 g vs hgI;rw [<-hev] at htw;cases hb:g.testV (o6 vs) with
          | false =>
           rw [hb] at htw j1;rw [j_] at j1;rw [<-j1];refine rS_ Tryz.func33 ?_;simp only [go_sem,seval,hgt,d9 hgi,h10,h9]
           repeat' (first
            | ((refine htw.calls rfl ?_)<;>(try simp only [go_sem,seval,hgt,d9 hgi,h10,h9]))
            | fail)
          | true =>
           rw [hb] at htw j1;rw [g_] at j1;refine rS_ Tryz.func33 ?_;simp only [go_sem,seval,hgt,d9 hgi,h10,h9]
           repeat' (first
            | (simp (disch:=omega) only [l6])
            | ((refine htw.calls rfl ?_)<;>(try simp only [go_sem,seval,hgt,d9 hgi,h10,h9]))
            | fail)
           refine hnx k _ ⟨j1,j2⟩ A8
       ·obtain ⟨j1,j2⟩:=hinv2
        unfold J6 at j1;rw [<-j1];have hl:((p.prfs t.kids).drop k).isEmpty=decide ((k:Int)=t.kids.length):=by
         rw [Bool.eq_iff_iff,List.isEmpty_iff,decide_eq_true_eq,List.drop_eq_nil_iff,Pg.prfs_eq,c_];omega
        rw [hl];refine rS_ Tryz.func33 ?_;simp only [go_sem,seval]
      ·have hR0:REST=false:=by
        rw [<-hREST];by_cases h0:0<=t.clause
        ·have:r.body.clsS[t.clause.toNat]? = none:=y_ (by omega)
         rw [this];simp
        ·rw [decide_eq_false h0,j_]
       rw [hR0];refine rS_ Tryz.func33 ?_;simp only [go_sem,seval,hir,hf0,hf1]
       repeat' (first
        | ((first | (refine C9 (fun hq=>?_) (fun hq=>?_)) | (refine y7 (fun x hx=>have hq:=hx;?_)))<;>(try simp only [go_sem,seval,ay8,u_,t_,hir,hf0,hf1,hq]))
        | (simp (disch:=omega) only [l6])
        | ((first
         | (refine hcl.calls rfl ?_)
         | (refine ⟨sd,?_⟩))<;>(try simp only [go_sem,seval,ay8,u_,t_,hir,hf0,hf1]))
        | fail)
       all_goals first | rfl | (exfalso;omega)
     ·rw [if_neg h64] at hcl
      have hR0:REST=false:=by rw [<-hREST,decide_eq_false h64,j_]
      rw [hR0];refine rS_ Tryz.func33 ?_;simp only [go_sem,seval,hir,hf0,hf1]
      repeat' (first
       | ((refine hcl.calls rfl ?_)<;>(try simp only [go_sem,seval,ay8,Option.getD_none,Option.isSome_none,hir,hf0,hf1]))
       | fail)
   ·rw [decide_eq_false hlen,j_]
    refine aE_ Tryz.func33 ?_;refine rS_ Tryz.func33 ?_;simp only [go_sem,seval,hf,hf0,hf1,hwr,hlen,hir]
    repeat' (first
     | ((refine C9 (fun hq=>?_) (fun hq=>?_))<;>(try simp only [go_sem,seval,hf,hf0,hf1,hwr,hlen,hir,hq]))
     | ((refine hrel.calls rfl ?_)<;>(try simp only [go_sem,seval,hf,hf0,hf1,hwr,hlen,hir]))
     | fail)
    all_goals exact absurd hq hlen
theorem af8 (p:Pg) (t:Pf) (hwp:wtL p.enc<=1048576) (hw:wtL t.enc<=1048576):Gives Tryz.prog 10 [.agg p.enc,.agg t.enc] (.d (.bool (p.prfOk t))):=by
 have hz:decide (0<t.sizeI)=decide (t.cnt<=200):=by
  have:=Pf.cnt_pos t;unfold Pf.sizeI;rw [Bool.eq_iff_iff,decide_eq_true_eq,decide_eq_true_eq];split<;>omega
 by_cases hok:N9 p=true
 ·have hp:=be7 p hok hwp t hw
  have hP:p.prfOk t=(decide (0<t.sizeI) && p.prf t):=by unfold Pg.prfOk;rw [hok,g_,hz]
  rw [hP];clear hP;generalize p.prf t=b at hp |-;have hsz:=aH3 t hw;generalize t.sizeI=z at hz hsz |-;refine aE_ Tryz.func10 ?_;refine rS_ Tryz.func10 ?_;simp only [go_sem,seval,hok]
  repeat' (first
   | ((refine C9 (fun hq=>?_) (fun hq=>?_))<;>(try simp only [go_sem,seval,hok,hq]))
   | ((first
    | (refine hp.calls rfl ?_)
    | (refine hsz.calls rfl ?_)
    | (refine (Y7 _ sd).calls rfl ?_))<;>(try simp only [go_sem,seval,hok]))
   | fail)
  all_goals first | rfl | (rw [decide_eq_true (by omega)];rfl) | (rw [decide_eq_false (by omega)];rfl) | (rw [decide_eq_true (by omega),g_];done)
 ·simp only [l_] at hok
  have hP:p.prfOk t=false:=by unfold Pg.prfOk;rw [hok,j_]
  rw [hP];refine aE_ Tryz.func10 ?_;refine rS_ Tryz.func10 ?_;simp only [go_sem,seval,hok]
  repeat' (first
   | ((refine (Y7 _ sd).calls rfl ?_)<;>(try simp only [go_sem,seval,hok]))
   | fail)
set_option maxHeartbeats 4000000
theorem aW1 (rel:List UInt8) (vs:List V) (hl:vs.length<=100000000):l8 Tryz.prog 25 [.d (.agg [.str rel,.sl (vs.map V.enc)])] [.hole] (fun c H'=>c=.agg [.d (.str rel),.own 0 1]/\∃e B,H'=[.tree 1 4 e (vs.map V.enc) B none]):=by
 have hct:=aw4 vs hl;unfold ca5 at hct;refine aE_ Tryz.func25 ?_;refine l7 Tryz.func25 mixed 3 _ _ (by kernel_rfl) ?_;simp only [go_sem,seval,run.eq_1];refine AW.drawA mixed #[true,true,true,true,true,true,false] [(1,.box [.d (.str rel),.d (.sl (vs.map V.enc))])] [] [0,1,2,3,4,5] [6] none (by kernel_rfl) trivial (by simp [x9]) ?_;simp only [go_sem,seval]
 repeat' (first
  | ((refine l8.fresh (ds:=[.sl (vs.map V.enc)]) (m:=1) hct [0] rfl rfl (by simp) (by simp) ?_<;>(rintro c H' ⟨rfl,e1,B1,rfl⟩ _;refine ⟨rfl,rfl,?_⟩))<;>(try simp only [go_sem,seval]))
  | fail)
 refine rS_ Tryz.func25 ?_;simp only [go_sem,seval]
 repeat' (first
  | (exact ⟨_,_,rfl⟩)
  | fail)
def pfR (p:Pg) (t:Pf):List UInt8:=if p.prfOk t=true then t.rel else []
def pfA (p:Pg) (t:Pf):List Tm:=if p.prfOk t=true then (p.headV t.rel t.values).2.map V.tm else []
theorem as7 {p:Pg} {t:Pf} (h:p.prfOk t=true):N9 p=true/\p.prf t=true:=by
 unfold Pg.prfOk at h;simp only [a_] at h;exact ⟨h.1,h.2.2⟩
theorem bs1 {p:Pg} {t:Pf} (h:p.prf t=true):(p.headV t.rel t.values).1=t.rel/\(p.headV t.rel t.values).2.length<=t.values.length/\wtR (((p.headV t.rel t.values).2.map V.tm).map Tm.enc)<=wtR (t.values.map Tm.enc):=by
 obtain ⟨_,r,_,_,hg,hh⟩:=Pg.prf_head h;rw [hh];have htake:∀(l:List Tm) (k:Nat),wtR ((l.take k).map Tm.enc)<=wtR (l.map Tm.enc):=by
  intro l;induction l with
  | nil=>intro k;simp
  | cons x r ih=>intro k;cases k with
   | zero=>simp [wtR]
   | succ k=>have:=ih k;simp only [List.take_succ_cons,q_,wtR];omega
 refine ⟨rfl,by simp;omega,?_⟩;dsimp only;rw [m_,<-ab4 hg];exact htake _ _
theorem aO3 (p:Pg) (t:Pf) (hwp:wtL p.enc<=1048576) (hw:wtL t.enc<=1048576):l8 Tryz.prog 7 [.d (.agg p.enc),.d (.agg t.enc)] [.hole] (fun c H'=>c=.tup [.agg [.d (.str (pfR p t)),.own 0 1],.d (.bool (p.prfOk t))]/\∃e B,H'=[.tree 1 4 e ((pfA p t).map Tm.enc) B none]):=by
 have hok:=af8 p t hwp hw;unfold pfR pfA;by_cases h:p.prfOk t=true
 ·obtain ⟨h1,h2⟩:=as7 h
  obtain ⟨e1,e2,e3⟩:=bs1 h2;have hf:=an3 p h1 t h2;have hvl:t.values.length<=1048576:=by
   have h2:=U8 (t.values.map Tm.enc) 0;simp only [bd3,c_] at h2;simp only [Pf.enc_eq t,wtL,D.wt] at hw;omega
  have hc:=aW1 t.rel (p.headV t.rel t.values).2 (by omega);have hfe:(FcV.fc (p.headV t.rel t.values)).enc=[.str t.rel,.sl ((p.headV t.rel t.values).2.map V.enc)]:=by rw [Fc.enc_eq];simp only [FcV.fc,e1,D6]
  rw [hfe] at hf;rw [h] at hok |-;simp only [if_true,D6];refine aE_ Tryz.func7 ?_;refine rS_ Tryz.func7 ?_;simp only [go_sem,seval]
  repeat' (first
   | (exact ⟨_,_,rfl⟩)
   | ((first
    | (refine hok.calls rfl ?_)
    | (refine hf.calls rfl ?_)
    | (refine l8.fresh (ds:=[.agg [.str t.rel,.sl ((p.headV t.rel t.values).2.map V.enc)]]) (m:=1) hc [0] rfl rfl (by simp) (by simp) ?_<;>(rintro c H' ⟨rfl,e1,B1,rfl⟩ _;refine ⟨rfl,rfl,?_⟩)))<;>(try simp only [go_sem,seval]))
   | fail)
 ·simp only [l_] at h
  rw [h] at hok |-;simp only [Bool.false_eq_true,if_false];refine aE_ Tryz.func7 ?_;refine l7 Tryz.func7 mixed 8 _ _ (by kernel_rfl) ?_;simp only [go_sem,seval,run.eq_1]
  repeat' (first
   | ((refine hok.calls rfl ?_)<;>(try simp only [go_sem,seval,run.eq_1]))
   | fail)
  refine AW.adoptTB 3 1 4 60 (by decide) rfl rfl ?_;refine AW.placeB 3 1 4 0 rfl rfl rfl rfl (by decide) ?_;refine rS_ Tryz.func7 ?_;simp only [go_sem,seval]
  repeat' (first
   | (exact ⟨_,_,rfl⟩)
   | fail)
theorem aG6 (l:List Tm) (hw:wtR (l.map Tm.enc)<=1048576):Gives Tryz.prog 55 [.sl (l.map Tm.enc)] (.d (.sl (l.map Tm.enc))):=by
 have h:=U4 l (by omega);refine l8.frozen (ds:=[.sl (l.map Tm.enc)]) (m:=1) h (fun c H' ⟨h1,e,B,h2⟩ _=>?_);subst h1 h2;rfl
theorem bg5 (l:List Fc) (hl:l.length<=2000000) (hw:∀x,x∈l->wtR (x.args.map Tm.enc)<=1048576):Gives Tryz.prog 29 [.sl (l.map Fc.enc)] (.d (.sl (l.map Fc.enc))):=by
 have hmx:maxLen=9223372036854775807:=rfl;refine aE_ Tryz.func29 ?_;refine rS_ Tryz.func29 ?_;simp only [go_sem,seval];refine AW.adopt 3 2 34 (by decide) rfl ?_;refine AW.rng l [7,8] 9 7 (fun p:List Fc=>[(3,.own 0 p.length)]) (fun _ p=>[.grow p.length 2 34 (p.map Fc.enc)]) (fun r p=>p++r=l) [] rfl (by simp) rfl A8 (fun i x r p hxi hdr hlt hm hinv hnext=>?_) (fun p hinv=>?_)
 ·have hxm:=d_ hxi
  have hc:=aG6 x.args (hw x hxm);have hpl:p.length+(r.length+1)=l.length:=by rw [<-hinv];simp
  refine l7 Tryz.func29 mixed 9 _ _ (by kernel_rfl) ?_;simp only [go_sem,seval,run.eq_1,hlt,d9 hxi];refine AW.drawA mixed #[true,true,true,true,true,true,true,true,true,false] [(1,.box (x.enc.map .d))] [] [0,1,2,3,4,5,6,7,8] [9] none (by kernel_rfl) trivial (by simp [x9]) ?_;simp only [go_sem,seval]
  repeat' (first
   | ((first
    | (refine hc.calls rfl ?_)
    | (refine ⟨sd,?_⟩))<;>(try simp only [go_sem,seval]))
   | fail)
  refine rS_ Tryz.func29 ?_;simp only [go_sem,seval]
  repeat' (first
   | (simp (disch:=omega) only [l6])
   | fail)
  refine hnext (p++[x]) _ (by simp [<-hinv]) (by refine ⟨by simp [mkS,Fc.enc_eq x],by simp [mkS,Fc.enc_eq x],by simp only [mkS,e_,f_,O.refsLt,C.refsLt,C.refsLt1,o5];first | done | rfl | (simp;done),?_⟩;simp [mkS,Abs.get,C.refsLtT,C.refsLt,C.refsLt1])
 ·simp only [i_] at hinv
  subst hinv;refine rS_ Tryz.func29 ?_;simp only [go_sem,seval]
theorem aF0 (p:Pg) (t:Pf) (hwp:wtL p.enc<=1048576) (hw:wtL t.enc<=1048576):Gives Tryz.prog 9 [.agg p.enc,.agg t.enc] (.tup [.d (.agg [.str (pfR p t),.sl ((pfA p t).map Tm.enc)]),.d (.bool (p.prfOk t))]):=by
 have hok:=aS3 p t hwp hw;unfold pfR pfA;by_cases h:p.prfOk t=true
 ·obtain ⟨h1,h2⟩:=as7 h
  obtain ⟨e1,e2,e3⟩:=bs1 h2;have hf:=aB2 p h1 t h2;have hwv:wtR (t.values.map Tm.enc)<=1048576:=by simp only [Pf.enc_eq t,wtL,D.wt] at hw;omega
  have hfe:FcV.fc (p.headV t.rel t.values)=⟨t.rel,(p.headV t.rel t.values).2.map V.tm⟩:=by simp only [FcV.fc,e1]
  rw [hfe] at hf;have hc:=bg5 [⟨t.rel,(p.headV t.rel t.values).2.map V.tm⟩] (by simp) (fun x hx=>by simp at hx;subst hx;dsimp only;omega);simp only [q_,List.map_nil] at hc;rw [Fc.enc_eq] at hf hc;dsimp only at hf hc;rw [h] at hok |-;simp only [if_true];generalize (p.headV t.rel t.values).2.map V.tm=AL at *;refine aE_ Tryz.func9 ?_;refine rS_ Tryz.func9 ?_;simp only [go_sem,seval]
  repeat' (first
   | ((first
    | (refine hok.calls rfl ?_)
    | (refine hf.calls rfl ?_)
    | (refine hc.calls rfl ?_))<;>(try simp only [go_sem,seval]))
   | fail)
 ·simp only [l_] at h
  rw [h] at hok |-;simp only [Bool.false_eq_true,if_false];refine aE_ Tryz.func9 ?_;refine rS_ Tryz.func9 ?_;simp only [go_sem,seval]
  repeat' (first
   | ((refine hok.calls rfl ?_)<;>(try simp only [go_sem,seval]))
   | fail)
set_option maxHeartbeats 8000000
theorem aH4 (p:Pg) (t:Pf) (hwp:wtL p.enc<=1048576) (hw:wtL t.enc<=1048576):Gives Tryz.prog 7 [.agg p.enc,.agg t.enc] (.tup [.d (.agg [.str (pfR p t),.sl ((pfA p t).map Tm.enc)]),.d (.bool (p.prfOk t))]):=
 l8.frozen (ds:=[.agg p.enc,.agg t.enc]) (m:=1) (aO3 p t hwp hw) (fun c H' ⟨h1,e,B,h2⟩ _=>by subst h1 h2;rfl)
theorem ab2 (t:Pf) (hw:wtL t.enc<=1048576) (hc:t.cnt<=200):Gives Tryz.prog 8 [.agg t.enc] (.d (.int .i64 (t.hei:Int))):=by
 have hx:=aM7 t hw 0 (by omega) (by omega);have hs:=Pf.mea_hei t 0 (by omega) (by omega);have hz:=(Pf.mea_spec t 0).2.2.2.2.1 (by omega);rw [hs,hz] at hx;have n1:¬(200:Int)<0+(t.cnt:Int):=by omega
 have n2:¬(200:Int)<(t.cnt:Int):=by omega
 generalize t.hei=h at *;generalize t.cnt=c at *;refine aE_ Tryz.func8 ?_;refine rS_ Tryz.func8 ?_;simp only [go_sem,seval]
 repeat' (first
  | ((refine hx.at1 rfl 1 rfl rfl ?_<;>(rintro v o' ⟨rfl,ho⟩;cases ho;refine ⟨rfl,rfl,?_⟩))<;>(try simp only [go_sem,seval,C.at1,n1,n2]))
  | fail)
 all_goals first | (exfalso;omega) | skip
theorem al8 (B:List UInt8):l8 Tryz.prog 3 [.d (.sl (bytesD B))] [] (fun c H'=>c=.d (.bool true)/\H'=[]):=by
 have hmx:maxLen=9223372036854775807:=rfl;refine aE_ Tryz.func3 ?_;refine l7 Tryz.func3 mixed 10 _ _ (by kernel_rfl) ?_;simp only [go_sem,seval,run.eq_1,J4];refine bD8 (fun hq=>?_) (fun hq=>?_)
 ·simp only [go_sem,seval]
 simp only [decide_eq_false_iff_not,Int.not_lt] at hq;have hB:B.length<=1048576:=by omega
 clear hq;have hmk:=ax3 B hB;have hmu:=az0 B hB 60 2 (by decide) (by decide) (by decide);simp only [go_sem,seval,J4];refine l8.emb hmk [] rfl rfl rfl (by decide) rfl ?_;rintro c H' ⟨p,rfl,rfl,hmd⟩ _;refine ⟨rfl,rfl,?_⟩;have hf:=Pg.made_fine hmd;have hgs:=Pg.made_gsz hmd;have hPe:=Pg.enc_eq p;simp only [go_sem,seval,hPe,run.eq_1];refine rS_ Tryz.func3 ?_;simp only [go_sem,seval]
 repeat' (first
  | ((refine (l8.emb hmu [] rfl rfl rfl (by decide) rfl ?_)<;>(rintro c H' ⟨u,rfl,rfl,hu,hul,hud⟩ _;refine ⟨rfl,rfl,?_⟩))<;>(try simp only [go_sem,seval]))
  | fail)
 have hM:=Made.of hf hgs hu hul hud;have ha:=hf.nots (by decide);have hmp:=aX0 B hB 80 (by decide) hM hmd hul ha;rw [hPe] at hmp;refine l8.emb hmp [] rfl rfl rfl (by decide) rfl ?_;rintro c H' ⟨t,rfl,rfl,ht⟩ _;refine ⟨rfl,rfl,?_⟩;have hwt:wtL t.enc<=1048576:=by
  have h1:=Pf.inU_wt hM.uw t ht.inU;have h2:=ht.cnt;omega
 have hTe:=Pf.enc_eq t;have hpf:=aH4 p t hM.wp hwt;have hsf:=aF0 p t hM.wp hwt;have hph:=ab2 t hwt ht.cnt;have hpo:=af8 p t hM.wp hwt;cases hok:p.prfOk t with
 | false =>
  rw [hok,hPe,hTe] at hpf hsf hpo;rw [hTe] at hph;simp only [go_sem,seval,hTe,run.eq_1]
  repeat' (first
   | ((first
    | (refine hpf.calls rfl ?_)
    | (refine hph.calls rfl ?_)
    | (refine hsf.calls rfl ?_)
    | (refine hpo.calls rfl ?_))<;>(try simp only [go_sem,seval]))
   | fail)
 | true =>
  obtain ⟨hp1,hp2⟩:=as7 hok;have hstg:=bo8 hM.uni hM.gr t hp2 ht.inU;have hst:=bJ2 hM ha t.hei ht.hei;have e1:pfR p t=(p.headV t.rel t.values).1:=by unfold pfR;rw [if_pos hok];rfl
  have e2:(pfA p t).map Tm.enc=(p.headV t.rel t.values).2.map V.enc:=by unfold pfA;rw [if_pos hok];exact D6 _
  rw [e1,e2] at hpf hsf;have hin:=bW0 (stg (Pg.gnd u p.rels) t.hei) (p.headV t.rel t.values);rw [decide_eq_true hstg,o8] at hin;have hkd:∀x,x∈t.kids->p.prfOk x=true/\x.hei+1<=t.hei/\x.cnt<=200/\wtL x.enc<=1048576:=fun x hx=>by
   have a:=Pf.cnt_kid hx;have b:=ht.cnt;refine ⟨?_,Pf.hei_kid hx,by omega,by have:=Pf.wt_kids hx;omega⟩;unfold Pg.prfOk;rw [hp1,Pg.prf_kid hp2 hx,decide_eq_true (by omega)];rfl
  rw [hok,hPe,hTe] at hpf hsf hpo;rw [hTe] at hph;rw [hPe] at hst;generalize p.headV t.rel t.values=F at *;generalize stg (Pg.gnd u p.rels) t.hei=L at *;simp only [go_sem,seval,hTe,run.eq_1]
  repeat' (first
   | ((first
    | (refine hpf.calls rfl ?_)
    | (refine hph.calls rfl ?_)
    | (refine hsf.calls rfl ?_))<;>(try simp only [go_sem,seval]))
   | fail)
  refine AW.rng t.kids [3,4,5,6,8,50,51] 52 50 (fun _:Unit=>[]) (fun H _=>H) (fun s _=>∀k,k∈s->k∈t.kids) () rfl (by simp) (fun _ h=>h) A8 (fun i x s v hxi hdr hlt hm hinv hnext=>?_) (fun v hinv=>?_)
  ·obtain ⟨k1,k2,k3,k4⟩:=hkd x (hinv x (by simp))
   have hxo:=af8 p x hM.wp k4;have hxh:=ab2 x k4 k3;have hXe:=Pf.enc_eq x;rw [k1,hPe,hXe] at hxo;rw [hXe] at hxh;have n3:¬(t.hei:Int)<=(x.hei:Int):=by omega
   refine rS_ Tryz.func3 ?_;simp only [go_sem,seval,hlt,d9 hxi,hXe,n3]
   repeat' (first
    | (simp (disch:=omega) only [l6])
    | ((first
     | (refine hxo.calls rfl ?_)
     | (refine hxh.calls rfl ?_))<;>(try simp only [go_sem,seval,hlt,d9 hxi,hXe,n3]))
    | fail)
   refine hnext () _ (fun k h=>hinv k (by simp [h])) A8
  ·refine rS_ Tryz.func3 ?_
   simp only [go_sem,seval]
   repeat' (first
    | ((first
     | (refine hst.calls rfl ?_)
     | (refine hin.calls rfl ?_)
     | (refine hpo.calls rfl ?_))<;>(try simp only [go_sem,seval]))
    | fail)
theorem au0 (B:List UInt8):Gives Tryz.prog 3 [.sl (bytesD B)] (.d (.bool true)):=
 l8.frozen (ds:=[.sl (bytesD B)]) (m:=0) (al8 B) (fun c H' ⟨h1,h2⟩ _=>by subst h1 h2;rfl)
end Go.Proofs.YtmfkcdelddmfpaaGreat
