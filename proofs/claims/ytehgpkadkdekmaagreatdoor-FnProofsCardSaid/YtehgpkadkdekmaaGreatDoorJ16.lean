import Derived.Test.YtehgpkadkdekmaaGreatDoorJ15
open List renaming length_append->a_,mem_of_getElem?->b_,length_cons->c_,length_map->e_,all_cons->f_,all_nil->g_,append_nil->h_,getElem?_eq_some_iff->j_,all_eq_true->l_,map_cons->o_,length_nil->p_,getElem?_eq_getElem->q_,map_nil->s_,mem_append->v_,map_append->w_
open Bool renaming and_eq_true->d_,true_and->k_,false_and->m_,not_eq_true->r_
open Option renaming isSome_some->i_,isSome_none->n_,getD_some->t_,map_eq_some_iff->x_
open Nat renaming le_refl->u_
namespace Go.Proofs.YtehgpkadkdekmaaGreatDoor
open Go.Abs
set_option maxRecDepth 100000
set_option maxHeartbeats 8000000
set_option linter.unusedSimpArgs false
set_option linter.unusedVariables false
theorem aX0 (B:List UInt8) (hB:B.length<=1048576) (n:Nat) (hn:n<=1000) {p:Pg} {u:List V} (h:Made p u):ACalls Tryz.prog 16 [.d (.sl (bytesD B)),.d (.int .i64 n),.d (.agg p.enc),.d (.sl (u.map V.enc))] [] (fun c H'=>∃F:List FcV,c=.d (.sl (F.map fcE))/\H'=[]/\F.length<=2000/\∀f,f∈F->bm5 p u f):=by
 have hmx:maxLen=9223372036854775807:=rfl;have hw:=aG2 B hB n (by omega);have haf:=bm4 h;have hPe:=Pg.enc_eq p;have hmf:∀l:List FcV,(l.map fcE).length=l.length:=fun l=>e_ _;rw[hPe] at haf |-;refine aE_ Tryz.func16 ?_;refine AW.hole ?_;refine l9 Tryz.func16 mixed 4 _ _ (by kernel_rfl) ?_;simp only[go_sem,seval,run.eq_1]
 repeat' (first|refine(ACalls.emb hw [0] rfl rfl rfl (by decide) rfl ?_)<;>(rintro c H' ⟨rfl,i,h,rfl,e1,e2⟩ _;refine⟨rfl,rfl,?_⟩)<;>try simp only[go_sem,seval,run.eq_1]|fail)
 refine AW.unbox 9 0 (cs:=cuD B i h) rfl rfl ?_;refine l9 Tryz.func16 mixed 3 _ _ (by kernel_rfl) ?_;simp only[go_sem,seval,run.eq_1]
 repeat' (first|refine(ACalls.emb haf [] rfl rfl rfl (by decide) rfl ?_)<;>(rintro c H' ⟨F,b,rfl,rfl,hF,hfu⟩ _;refine⟨rfl,rfl,?_⟩)<;>try simp only[go_sem,seval,run.eq_1]|fail)
 refine l9 Tryz.func16 mixed 1 _ _ (by kernel_rfl) ?_;simp only[go_sem,seval,run.eq_1];refine AW.adopt 12 2 33 (by decide) rfl ?_;refine rS_ Tryz.func16 ?_;simp only[go_sem,seval,hmf];refine AW.rng F [9,25,26] 27 25 (fun y:Nat×List FcV×Int×Int=>[(12,.own 3 y.1)]) (fun _ y=>[.dead,.box [.d (.sl (p.rels.map Rl.enc))],cuO B y.2.2.1 y.2.2.2,.grow y.1 2 33 (y.2.1.map fcE)]) (fun r y=>y.2.1.length+r.length<=F.length/\(∀f,f∈y.2.1->f∈F)/\0<=y.2.2.1/\y.2.2.1<=B.length) (0,[],i,h) rfl (by simp) ⟨by simp,(fun f hf=>by cases hf),e1,e2⟩ (by refine⟨by simp[mkS,r9,cuD],by simp[mkS,r9,cuD],by simp only[mkS,f_,g_,O.refsLt,C.refsLt,C.refsLt1,l7];first | done | rfl | (simp;done),?_⟩;simp[mkS,Abs.get,C.refsLtT,C.refsLt,C.refsLt1]) (fun ii f r y hxi hdr hlt hm hinv hnext=>?_) (fun y hinv=>?_)
 ·obtain⟨q,L,i3,h3⟩:=y
  obtain⟨j1,j2,j3,j4⟩:=hinv;dsimp only at j1 j2 j3 j4 hnext |-;simp only[c_] at j1;have hfm:=b_ hxi;have hon:=aj9 B hB 3 i3 h3 j3 j4;have hfe:=o5 f;have wi:IntKind.i64.wrap ((ii:Int)+1)=(ii:Int)+1:=by rw[l6 (by omega) (by omega)]
  refine rS_ Tryz.func16 ?_;simp only[go_sem,seval,hlt,d9 hxi,hfe,wi]
  repeat' (first|((first|(refine(ACalls.emb hon [2] rfl rfl rfl (by decide) rfl ?_)<;>(rintro c H' ⟨b,i4,h4,rfl,rfl,c3,c4⟩ _;cases b<;>refine⟨rfl,rfl,?_⟩))|refine⟨sd,?_⟩)<;>(try simp only[go_sem,seval,hlt,d9 hxi,hfe,wi]))|fail)
  ·refine hnext (q,L,i4,h4) _ ⟨by dsimp only;omega,j2,c3,c4⟩ (by refine⟨by simp[mkS,r9,hfe],by simp[mkS,r9,hfe],by simp only[mkS,f_,g_,O.refsLt,C.refsLt,C.refsLt1,l7];first | done | rfl | (simp;done),?_⟩;simp[mkS,Abs.get,C.refsLtT,C.refsLt,C.refsLt1])
  ·refine hnext (q+1,L++[f],i4,h4) _ ⟨by rw[a_];dsimp only[c_,p_];omega,(fun x hx=>by
    rcases v_.1 hx with hx | hx
    ·exact j2 x hx
    ·simp at hx;subst hx;exact hfm),c3,c4⟩ (by refine⟨by simp[mkS,r9,hfe],by simp[mkS,r9,hfe],by simp only[mkS,f_,g_,O.refsLt,C.refsLt,C.refsLt1,l7];first | done | rfl | (simp;done),?_⟩;simp[mkS,Abs.get,C.refsLtT,C.refsLt,C.refsLt1])
 ·obtain⟨q,L,i3,h3⟩:=y
  obtain⟨j1,j2,j3,j4⟩:=hinv;dsimp only at j1 j2 j3 j4 |-;simp only[p_,Nat.add_zero] at j1;refine rS_ Tryz.func16 ?_;simp only[go_sem,seval]
  repeat' (first|exact⟨L,rfl,by omega,fun f hf=>hfu f (j2 f hf)⟩|fail)
set_option maxHeartbeats 4000000
noncomputable def ca9:TypeInfo:=(Tryz.prog.info? 47).get (by kernel_rfl)
noncomputable def cn5:TypeInfo:=(Tryz.prog.info? 27).get (by kernel_rfl)
theorem ca7 (n:Nat) (h2:2<=n):Lib.swapperK n ca9 25=9:=by
 have a:ca9.hasPointers=true:=by kernel_rfl
 have b:ca9.bytes=56:=by kernel_rfl
 have c:(n == 0)=false:=by simp;omega
 have d:(n == 1)=false:=by simp;omega
 simp[Lib.swapperK,a,b,c,d]
theorem bs0 (a b:V):Gives Tryz.prog 76 [.agg a.enc,.agg b.enc] (.d (.int .i64 (a.cmp b))):=K9 _ a b (u_ _)
theorem aI0 (xs:List (List D)) (a b:V) (i j:Nat) (hi:xs[i]? = some a.enc) (hj:xs[j]? = some b.enc):ACalls Tryz.prog 75 [.d (.int .i64 i),.d (.int .i64 j),.cptr [.sl xs]] [] (fun c _=>c=.d (.bool (decide (a.cmp b<0)))):=by
 have h1:=(j_.1 hi).1;have h2:=(j_.1 hj).1;have n1:(i:Int)<(xs.length:Int):=by omega
 have n2:(j:Int)<(xs.length:Int):=by omega
 have ho:=bs0 a b;refine aE_ Tryz.func75 ?_;refine rS_ Tryz.func75 ?_;simp only[go_sem,seval,n1,n2,d9 hi,d9 hj]
 repeat' (first|refine ho.callQ rfl ?_<;>try simp only[go_sem,seval,n1,n2,d9 hi,d9 hj]|fail)
theorem aK2 {H:List O} {rb r q e:Nat} {xs:List V} (hb:H[rb]? = some (.box [.own r q])) (hr:H[r]? = some (.buf q 4 e (xs.map V.enc))) (hne:rb≠r) (hrefs:H.all (O.refsLt H.length)=true) (hn:xs.length<=1000000000000) :
  ACalls Tryz.prog 74 [.ifc 27 (.own r q),.fn 75 [.ptr rb 0]] H (fun c H'=>c=.tup []/\∃ys:List V,ys.Perm xs/\ys.Pairwise (fun a b=>decide (b.cmp a<0)=false)/\H'=H.set r (.buf q 4 e (ys.map V.enc))):=by
 have hz:ca9.size=4:=by kernel_rfl
 have hw:Wk (fun a b:V=>decide (a.cmp b<0)):=V.cmp_lin.wk;have hbl:=(j_.1 hb).1;have hrl:=(j_.1 hr).1
 have h:=X7 Tryz.laysGt8 27 47 cn5 ca9 (by kernel_rfl) (by kernel_rfl) (by kernel_rfl) (by kernel_rfl) 25 (fun _=>by kernel_rfl) (fun _=>by kernel_rfl) 148 149 156
  (by kernel_rfl) (by kernel_rfl) (fun n h2=>by rw[ca7 n h2];kernel_rfl) false (fun args W=>run_callFunc_extern Tryz.func156 (by kernel_rfl) (by kernel_rfl) (by kernel_rfl) (e:=Extern.ReflectliteSwapper.swap false) (by kernel_rfl) args W)
  V.enc (fun x=>(V.enc_len x).trans hz.symm) (fun a b=>decide (a.cmp b<0)) (g:=75) (caps:=[.ptr rb 0]) (H:=H) (r:=r) (q:=q) (e:=e) (xs:=xs) (by kernel_rfl) (by simp[C.refsLt1,hbl]) hrefs (by rw[hz];exact hr) hn
  (fun caps2 n m Hs h1 S f0=>aY4 hw h1 S f0)
  (fun f X i j hi hj=>ca0 hb hne hrl X (aI0 _ (f i) (f j) i j (H6 V.enc f hi) (H6 V.enc f hj)))
 rw[hz] at h;exact h
theorem bR5 {α:Type} {c:α->α->Int}:∀(q:List α) (o:Option α),(ddC c o q).length<=q.length:=fun q=>by
 induction q with
 | nil=>intro o;simp[ddC]
 | cons z q ih =>
  intro o;cases o with
  | none=>simp only[ddC,c_];have:=ih (some z);omega
  | some w=>simp only[ddC];split<;>simp only[c_]<;>have:=ih (some z)<;>omega
theorem aW6 (l:List V) (hl:l.length<=2000000):ACalls Tryz.prog 41 [.d (.sl (l.map V.enc))] [.hole] (fun c H'=>c=.own 0 1/\∃e B,H'=[.tree 1 4 e ((al7 V.cmp l).map V.enc) B none]):=by
 have hmx:maxLen=9223372036854775807:=rfl;have hmap:∀x:List V,(x.map V.enc).length=x.length:=fun x=>e_ _;refine aE_ Tryz.func41 ?_;refine l9 Tryz.func41 mixed 3 _ _ (by kernel_rfl) ?_;simp only[go_sem,seval,run.eq_1];refine AW.regS ?_;simp only[go_sem,seval,hmap];refine⟨by omega,by omega,?_⟩;have hst:ACalls Tryz.prog 74 [.ifc 27 (.own 1 1),.fn 75 [.ptr 2 0]] [.hole,.buf 1 4 47 (l.map V.enc),.box [.own 1 1]] _:=aK2 rfl rfl (by decide) rfl (by omega);refine l9 Tryz.func41 mixed 2 _ _ (by kernel_rfl) ?_;simp only[go_sem,seval,run.eq_1];refine hst.mono ?_;rintro c H' ⟨rfl,ys,hp,hs,rfl⟩;simp only[go_sem,seval,run.eq_1];refine AW.frzBox 2 0 1 rfl rfl rfl (by decide) ?_;refine l9 Tryz.func41 mixed 2 _ _ (by kernel_rfl) ?_;simp only[go_sem,seval,run.eq_1];refine AW.adoptT 4 4 47 (by decide) rfl ?_;have hyl:ys.length=l.length:=hp.length_eq;have hR:ddC V.cmp none ys=al7 V.cmp l:=bd0 V.cmp_lin (fun z=>hp.mem_iff) (hs.imp (fun h=>by simpa using h));rw[<-hR];refine rS_ Tryz.func41 ?_;simp only[go_sem,seval,hmap]
 refine AW.rng ys [3,15,16] 17 15 (fun p:List V×(Nat->Prop)=>[(4,.own 3 (ddC V.cmp none p.1).length)]) (fun _ p=>[.hole,.dead,.box [.d (.sl (ys.map V.enc))],.tree (ddC V.cmp none p.1).length 4 47 ((ddC V.cmp none p.1).map V.enc) p.2 none]) (fun r p=>ys=p.1++r) ([],fun _=>False) rfl (by simp) rfl (by refine⟨by simp[mkS,ddC],by simp[mkS,ddC],by simp only[mkS,f_,g_,O.refsLt,C.refsLt,C.refsLt1,l7];first | done | rfl | (simp;done),?_⟩;simp[mkS,Abs.get,C.refsLtT,C.refsLt,C.refsLt1,ddC]) (fun i x r p hxi hdr hlt hm hinv hnext=>?_) (fun p hinv=>?_)
 ·obtain⟨p,B⟩:=p
  dsimp only at hinv hnext |-;have hdl:=congrArg List.length hdr;have hil:=congrArg List.length hinv;simp only[List.length_drop,c_,a_] at hdl hil;have hip:i=p.length:=by omega
  have hnx:=fun B' s'=>hnext (p++[x],B') s' (by rw[hinv];simp);clear hnext;have hx:=an1 x;unfold cpT at hx;have hX:=V.enc_eq x;have hdd:=bd1 (c:=V.cmp) p none x;have hddl:=bR5 (c:=V.cmp) p none;dsimp only at hnx;rcases List.eq_nil_or_concat p with rfl | ⟨p',y,rfl⟩
  ·obtain rfl:i=0:=by simpa using hip
   have hd1:ddC V.cmp none ([]++[x])=[x]:=rfl;have hd0:ddC V.cmp none ([]:List V)=[]:=rfl;rw[hd1] at hnx;rw[hd0];have z0:((0:Nat):Int)=0:=rfl;have hlt0:(0:Int)<(ys.length:Int):=by omega
   rw[z0] at hnx;refine AW.hole ?_;refine l9 Tryz.func41 mixed 12 _ _ (by kernel_rfl) ?_;simp only[go_sem,seval,run.eq_1,hlt0,d9 hxi,z0];refine AW.regT ?_;simp only[go_sem,seval]
   repeat' (first|((first|refine ACalls.fresh (ds:=[.agg x.enc]) (m:=1) hx [4] rfl rfl (by simp) (by simp) ?_<;>(rintro c H' ⟨rfl,e1,B1,rfl⟩ _;refine⟨rfl,rfl,?_⟩)|refine I6 (fun Bz=>?_)|refine⟨sd,?_⟩)<;>(try simp only[go_sem,seval,hlt0,d9 hxi]))|fail)
   refine rS_ Tryz.func41 ?_;simp only[go_sem,seval];try simp(disch:=omega) only[l6]
   refine hnx Bz _ (by refine⟨by simp[mkS,V.enc_eq x],by simp[mkS,V.enc_eq x],by simp only[mkS,f_,g_,O.refsLt,C.refsLt,C.refsLt1,l7];first | done | rfl | (simp;done),?_⟩;simp[mkS,Abs.get,C.refsLtT,C.refsLt,C.refsLt1])
  ·rw[List.concat_eq_append] at *
   have hi0:¬(i:Int)=0:=by rw[hip];simp;omega
   have hw1:IntKind.i64.wrap ((i:Int) - 1)=((i - 1:Nat):Int):=by rw[l6 (by omega) (by omega)];omega
   have n2:((i - 1:Nat):Int)<(ys.length:Int):=by omega
   have hyi:ys[i - 1]? = some y:=by
    rw[hinv,hip];simp
   have ho:=M3 y x;have hlast:(((none:Option V).toList++(p'++[y])).getLast?)=some y:=by simp
   rw[hlast] at hdd;dsimp only at hdd;by_cases e:y.cmp x=0
   ·rw[if_pos e,h_] at hdd
    rw[decide_eq_true e] at ho;rw[hdd] at hnx;refine rS_ Tryz.func41 ?_;simp only[go_sem,seval,hlt,d9 hxi,hi0,hw1,n2,d9 hyi,hmap]
    repeat' (first|simp(disch:=omega) only[l6]|refine ho.callQ rfl ?_<;>try simp only[go_sem,seval,hlt,d9 hxi,hi0,hw1,n2,d9 hyi,hmap]|fail)
    all_goals refine hnx B _ A7
   ·rw[if_neg e] at hdd
    rw[decide_eq_false e] at ho;rw[hdd] at hnx;refine AW.hole ?_;refine l9 Tryz.func41 mixed 12 _ _ (by kernel_rfl) ?_;simp only[go_sem,seval,run.eq_1,hlt,d9 hxi,hi0,hw1,n2,d9 hyi,hmap]
    repeat' (first|refine ho.callQ rfl ?_<;>try simp only[go_sem,seval,hlt,d9 hxi,hi0,hw1,n2,d9 hyi,hmap,run.eq_1]|fail)
    refine AW.regT ?_;simp only[go_sem,seval]
    repeat' (first|((first|refine ACalls.fresh (ds:=[.agg x.enc]) (m:=1) hx [4] rfl rfl (by simp) (by simp) ?_<;>(rintro c H' ⟨rfl,e1,B1,rfl⟩ _;refine⟨rfl,rfl,?_⟩)|refine I6 (fun Bz=>?_)|refine⟨sd,?_⟩)<;>(try simp only[go_sem,seval,hlt,d9 hxi]))|fail)
    refine rS_ Tryz.func41 ?_;simp only[go_sem,seval];try simp(disch:=omega) only[l6]
    refine hnx Bz _ (by refine⟨by simp[mkS,V.enc_eq x],by simp[mkS,V.enc_eq x],by simp only[mkS,f_,g_,O.refsLt,C.refsLt,C.refsLt1,l7];first | done | rfl | (simp;done),?_⟩;simp[mkS,Abs.get,C.refsLtT,C.refsLt,C.refsLt1])
 ·obtain⟨p,B⟩:=p
  dsimp only at hinv |-;rw[h_] at hinv;rw[hinv];refine l9 Tryz.func41 mixed 7 _ _ (by kernel_rfl) ?_;simp only[go_sem,seval,run.eq_1];refine AW.place 2 3 0 rfl rfl rfl (by decide) ?_;refine rS_ Tryz.func41 ?_;simp only[go_sem,seval];all_goals exact⟨_,_,rfl⟩
end Go.Proofs.YtehgpkadkdekmaaGreatDoor
namespace Go.Abs
set_option linter.unusedSimpArgs false
set_option linter.unusedVariables false
mutual
def Pf.trms:Pf->List Tm
 | .mk _ _ vs ks=>vs++Pf.trmss ks
def Pf.trmss:List Pf->List Tm
 | []=>[]
 | k :: r=>k.trms++Pf.trmss r
end
theorem Pf.trms_eq (t:Pf):t.trms=t.values++Pf.trmss t.kids:=by cases t;simp only[Pf.trms,Pf.values,Pf.kids]
theorem Pf.trmss_app:∀a b:List Pf,Pf.trmss (a++b)=Pf.trmss a++Pf.trmss b
 | [],b=>rfl
 | k :: a,b=>by simp only[List.cons_append,Pf.trmss,Pf.trmss_app a b,List.append_assoc]
theorem Pf.trms_ground {p:Pg}:∀t:Pf,p.prf t=true->t.trms.all Tm.ground=true:=by
 intro t;induction t using Pf.ind' with
 | h t ih =>
  intro h;obtain⟨_,_,_,_,hg,_⟩:=Pg.prf_head h;obtain⟨_,_,_,_,_,_,_,_,hk⟩:=Pg.prf_kids h;have key:∀l:List Pf,(∀x,x∈l->x∈t.kids)->(Pf.trmss l).all Tm.ground=true:=by
   intro l;induction l with
   | nil=>intro _;rfl
   | cons k r ihl =>
    intro hl;rw[Pf.trmss,List.all_append,ih k (hl k (by simp)) (hk k (hl k (by simp))),ihl (fun x hx=>hl x (by simp[hx]))];rfl
  rw[Pf.trms_eq,List.all_append,hg,key t.kids (fun x hx=>hx)];rfl
theorem Pf.trms_wt:∀t:Pf,wtR (t.trms.map Tm.enc)<=wtL t.enc:=by
 intro t;induction t using Pf.ind' with
 | h t ih =>
  have key:∀l:List Pf,(∀x,x∈l->x∈t.kids)->wtR ((Pf.trmss l).map Tm.enc)<=wtR (l.map Pf.enc):=by
   intro l;induction l with
   | nil=>intro _;simp[Pf.trmss,wtR]
   | cons k r ihl =>
    intro hl;have h1:=ih k (hl k (by simp));have h2:=ihl (fun x hx=>hl x (by simp[hx]));rw[Pf.trmss,w_,bm7];simp only[o_,wtR];omega
  have h1:=key t.kids (fun x hx=>hx);rw[Pf.trms_eq,w_,bm7,Pf.enc_eq t];simp only[wtL,D.wt];omega
theorem bV1 (l:List (List D)):l.length<=wtR l:=by
 induction l with
 | nil=>simp[wtR]
 | cons x r ih=>simp only[wtR,c_];omega
def Pf.terms (p:Pg) (t:Pf):List V:=if p.prfOk t=true then al7 V.cmp (t.trms.map Tm.V) else []
end Go.Abs
namespace Go.Proofs.YtehgpkadkdekmaaGreatDoor
open Go.Abs
set_option maxRecDepth 100000
set_option maxHeartbeats 8000000
set_option linter.unusedSimpArgs false
set_option linter.unusedVariables false
def cz9 (t:Pf):Prop:=∀c:Int,0<=c->c<=200->ACalls Tryz.prog 39 [.d (.agg t.enc),.ptr 0 0] [.box [.d (.int .i64 c)]] fun v H'=>v=.d (.int .i64 (t.mea c).1)/\H'=[.box [.d (.int .i64 (t.mea c).2)]]
theorem aM3:∀t:Pf,wtL t.enc<=1048576->cz9 t:=by
 intro t;induction t using Pf.ind' with
 | h t ih =>
  intro hw c h0 h1;rw[Pf.mea_eq];generalize hM:Pf.meas t.kids 0 (c+1)=M;refine aE_ Tryz.func39 ?_;refine rS_ Tryz.func39 ?_;simp only[go_sem,seval]
  repeat' (first|simp(disch:=omega) only[l6]|fail)
  try simp(disch:=omega) only[l6]
  refine rS_ Tryz.func39 ?_;simp only[go_sem,seval];refine AW.rng t.kids [1,15,16] 17 15 (fun p:Int×Int=>[(5,.d (.int .i64 p.1))]) (fun _ p=>[.box [.d (.int .i64 p.2)],.box (t.enc.map .d)]) (fun r p=>Pf.meas r p.1 p.2=M/\0<=p.1/\p.1<=1048577/\0<=p.2/\p.2<=2000000) (0,c+1) rfl (by simp) ⟨hM,by simp,by simp,by dsimp only;omega,by dsimp only;omega⟩ A7 (fun i x r p hxi hdr hlt hm hinv hnext=>?_) (fun p hinv=>?_)
  ·obtain⟨h,cc⟩:=p
   obtain⟨i1,i2,i3,i4,i5⟩:=hinv;dsimp only at i1 i2 i3 i4 i5 hnext |-;have hxm:=b_ hxi;have hxw:=Pf.wt_kids hxm;have hxc:=Pf.cnt_le_wt x;simp only[Pf.meas] at i1;by_cases hb:200<cc
   ·rw[if_pos hb] at i1
    subst i1;refine rS_ Tryz.func39 ?_;simp only[go_sem,seval,hlt,d9 hxi,hb]
   ·rw[if_neg (by omega)] at i1
    have hx:=ih x hxm (by omega) cc i4 (by omega);have hsp:=Pf.mea_spec x cc;have hmx2:bs7 h (x.mea cc).1=if h<(x.mea cc).1 then (x.mea cc).1 else h:=rfl
    have hmb:0<=bs7 h (x.mea cc).1/\bs7 h (x.mea cc).1<=1048577:=by rw[hmx2];split<;>omega
    refine rS_ Tryz.func39 ?_;simp only[go_sem,seval,hlt,d9 hxi,hb]
    repeat' (first|simp(disch:=omega) only[l6]|((refine hx.at1 rfl 0 rfl rfl ?_<;>(rintro v o' ⟨rfl,ho⟩;cases ho;refine⟨rfl,rfl,?_⟩))<;>(try simp only[go_sem,seval,hlt,d9 hxi,hb,C.at1]))|fail)
    refine hnext (bs7 h (x.mea cc).1,(x.mea cc).2) _ ⟨i1,hmb.1,hmb.2,by dsimp only;omega,by dsimp only;omega⟩ (by refine⟨by simp[mkS,hmx2],by simp[mkS,hmx2],by simp only[mkS,f_,g_,O.refsLt,C.refsLt,C.refsLt1,l7];first | done | rfl | (simp;done),?_⟩;simp[mkS,Abs.get,C.refsLtT,C.refsLt,C.refsLt1,hmx2])
  ·obtain⟨h,cc⟩:=p
   obtain⟨i1,i2,i3,i4,i5⟩:=hinv;dsimp only at i1 i2 i3 i4 i5 |-;simp only[Pf.meas] at i1;subst i1;refine rS_ Tryz.func39 ?_;simp only[go_sem,seval]
   repeat' (first|simp(disch:=omega) only[l6]|fail)
   all_goals try simp(disch:=omega) only[l6]
theorem ak3 (t:Pf) (hw:wtL t.enc<=1048576):Gives Tryz.prog 13 [.agg t.enc] (.d (.int .i64 t.sizeI)):=by
 have hx:=aM3 t hw 0 (by omega) (by omega);have hs:=Pf.size_mea t;generalize t.sizeI=N at hs |-;generalize (t.mea 0).2=c at hx hs;refine aE_ Tryz.func13 ?_;refine rS_ Tryz.func13 ?_;simp only[go_sem,seval]
 repeat' (first|refine E8 ?_ ?_<;>intro hq<;>try simp only[go_sem,seval,C.at1,hq]|((refine hx.at1 rfl 1 rfl rfl ?_<;>(rintro v o' ⟨rfl,ho⟩;cases ho;refine⟨rfl,rfl,?_⟩))<;>(try simp only[go_sem,seval,C.at1]))|fail)
 ·rw[hs,if_pos (by omega)]
 ·rw[hs,if_neg (by omega)]
theorem bf9 (p:Pg) (hok:M9 p=true) (hwp:wtL p.enc<=1048576):∀t:Pf,wtL t.enc<=1048576->Gives Tryz.prog 37 [.agg p.enc,.agg t.enc] (.d (.bool (p.prf t))):=by
 intro t;induction t using Pf.ind' with
 | h t ih =>
  intro hw;have hmx:maxLen=9223372036854775807:=rfl;have hrel:=Z7 p t.rel;have hrg:=Pg.find_range p t.rel;rw[Pg.prf_eq];by_cases hf:p.find t.rel<0
  ·rw[Pg.prfAt_neg hf]
   generalize p.find t.rel=f at *;refine aE_ Tryz.func37 ?_;refine rS_ Tryz.func37 ?_;simp only[go_sem,seval,hf]
   repeat' (first|refine hrel.calls rfl ?_<;>try simp only[go_sem,seval,hf]|fail)
  ·obtain⟨r, hr⟩:∃r,p.rels[(p.find t.rel).toNat]? = some r:=⟨_,q_ (by omega)⟩
   have hrm:=b_ hr;have hre:(p.rels.map Rl.enc)[(p.find t.rel).toNat]? = some r.enc:=by simp[hr]
   rw[Pg.prfAt_at (by omega) hr];have hbw:wtL r.body.enc<=1048576:=by have:=Pg.wt_rels hrm;have:=Rl.wt_body r;omega
   have hcl:=ap4 r.body hbw;rw[Gl.cls_same] at hcl;generalize p.find t.rel=f at *;have hf0:0<=f:=by omega
   have hf1:f<(p.rels.length:Int):=by omega
   have hadd:0<=r.arity/\r.arity<=4/\0<=r.locals/\r.locals<=8:=by
    unfold M9 at hok;simp only[d_] at hok;obtain⟨i,hi⟩:=Z8 hok.2 r hrm;unfold Pg.relOk at hi;simp only[d_,decide_eq_true_eq] at hi;omega
   have hwr:IntKind.i64.wrap (r.arity+r.locals)=r.arity+r.locals:=l6 (by omega) (by omega);have hir:=fun (Q:List D->Prop)=>d9 hre Q;by_cases hlen:(t.values.length:Int)=r.arity+r.locals
   ·obtain⟨hbi,_⟩:=Pg.body_inst hok hrm (m:=t.values.length) hlen
    rw[decide_eq_true hlen,k_];generalize hREST:(decide (r.body.clsS.length<=64) && (decide (0<=t.clause) && (match r.body.clsS[t.clause.toNat]? with
     | none=>false
     | some c=>H7 (o7 (t.values.map Tm.V)) c (p.prfs t.kids))))=REST
    generalize hN:(t.values.all Tm.ground && REST)=N;have hne:((t.values.length:Int) != r.arity+r.locals)=false:=by simp[hlen]
    refine aE_ Tryz.func37 ?_;refine rS_ Tryz.func37 ?_;simp only[go_sem,seval,hf,hf0,hf1,hwr,hir,hne]
    repeat' (first|refine hrel.calls rfl ?_<;>try simp only[go_sem,seval,hf,hf0,hf1,hwr,hir,hne]|fail)
    have hwv:∀x,x∈t.values->wtL x.enc<=1048576:=fun x hx=>by have:=Pf.wt_values hx;omega
    refine AW.rng t.values [2,3,5,39,40] 41 39 (fun _:Unit=>[]) (fun H _=>H) (fun s _=>t.values.all Tm.ground=s.all Tm.ground) () rfl (by simp) rfl A7 (fun i x s acc hxi hdr hlt hm hinv hnext=>?_) (fun acc hinv=>?_)
    ·have hwx:=hwv x (b_ hxi)
     rw[f_] at hinv;refine rS_ Tryz.func37 ?_;simp only[go_sem,seval,hlt,d9 hxi]
     repeat' (first|refine E8 ?_ ?_<;>intro hq<;>try simp only[go_sem,seval,hlt,d9 hxi,hq]|simp(disch:=omega) only[l6]|refine(ao7 _ sd).calls rfl ?_<;>try simp only[go_sem,seval,hlt,d9 hxi]|fail)
     ·rw[<-hN,hinv];simp[*]
     ·exact hnext () _ (by rw[hinv];simp[*]) A7
    ·rw[g_] at hinv
     rw[hinv,k_] at hN;subst hN;have hev:t.values.map Tm.enc=(t.values.map Tm.V).map V.enc:=by conv=>lhs;rw[ac0 hinv,D5]
     have hvl:(t.values.map Tm.V).length=t.values.length:=by simp
     generalize hvs:t.values.map Tm.V=vs at *;by_cases h64:r.body.clsS.length<=64
     ·rw[if_pos h64] at hcl
      rw[decide_eq_true h64,k_] at hREST;by_cases hc:0<=t.clause/\t.clause<(r.body.clsS.length:Int)
      ·obtain⟨c,hcc⟩:∃c,r.body.clsS[t.clause.toNat]? = some c:=⟨_,q_ (by omega)⟩
       rw[decide_eq_true hc.1,k_,hcc] at hREST;dsimp only at hREST;have hce:(r.body.clsS.map bm6)[t.clause.toNat]? = some (bm6 c):=by simp[hcc]
       have hc1:¬t.clause<0:=by omega
       have hc2:¬(r.body.clsS.length:Int)<=t.clause:=by omega
       have hc0:=hc.1;have hc3:=hc.2;have hci:=fun (Q:List D->Prop)=>d9 hce Q;have hrow:=(Gl.clsS_row r.body c (b_ hcc)).2;refine rS_ Tryz.func37 ?_;simp only[go_sem,seval,hir,hf0,hf1]
       repeat' (first|refine hcl.calls rfl ?_<;>try simp only[go_sem,seval,bd2,t_,i_,hir,hf0,hf1,hc0,hc1,hc2,hc3,hci,T9]|fail)
       refine AW.rng c [2,3,77,78] 79 77 (fun k:Nat=>[(10,.d (.int .i64 k))]) (fun H _=>H) (fun s k=>H7 (o7 vs) s ((p.prfs t.kids).drop k)=REST/\k<=t.kids.length) 0 rfl (by simp) ⟨by rw[List.drop_zero];exact hREST,Nat.zero_le _⟩ A7 (fun i g s k hgi hdg hgt hmg hinv2 hnx=>?_) (fun k hinv2=>?_)
       ·obtain⟨j1,j2⟩:=hinv2
        have hkl:t.kids.length<=1048576:=by
         have h1:=af7 (t.kids.map Pf.enc) 0;simp only[bo6,e_] at h1;simp only[Pf.enc_eq t,wtL,D.wt] at hw;omega
        have hgI:=Gl.inst_sub hbi g (hrow g (b_ hgi));rw[<-hvl] at hgI;unfold H7 at j1;by_cases h10:g.kind=10
        ·rw[if_pos h10] at j1
         rw[<-j1];refine rS_ Tryz.func37 ?_;simp only[go_sem,seval,hgt,d9 hgi,h10]
        ·rw[if_neg h10] at j1
         by_cases h9:g.kind=9
         ·rw[if_pos h9] at j1
          by_cases hk:k<t.kids.length
          ·obtain⟨kd,hkd⟩:∃kd,t.kids[k]? = some kd:=⟨_,q_ hk⟩
           have hdk:(p.prfs t.kids).drop k=(p.prf kd,p.headV kd.rel kd.values) :: (p.prfs t.kids).drop (k+1):=by
            obtain⟨_,e⟩:=j_.1 hkd;rw[Pg.prfs_eq,<-List.map_drop,List.drop_eq_getElem_cons hk,o_,e,List.map_drop]
           rw[hdk] at j1;dsimp only at j1;have hkm:=b_ hkd;have hih:=ih kd hkm (by have:=Pf.wt_kids hkm;omega);have hke:(t.kids.map Pf.enc)[k]? = some kd.enc:=by simp[hkd]
           have hkz:(k:Int)<(t.kids.length:Int):=by omega
           have hkn:¬(t.kids.length:Int)<=(k:Int):=by omega
           have hki:=fun (Q:List D->Prop)=>d9 hke Q;have hcf:=ah5 g vs hgI;rw[<-hev] at hcf;cases hb:p.prf kd with
           | false =>
            rw[hb] at hih j1;simp only[m_] at j1;rw[<-j1];refine rS_ Tryz.func37 ?_;simp only[go_sem,seval,hgt,d9 hgi,h10,h9]
            repeat' (first|refine E8 ?_ ?_<;>intro hq<;>try simp only[go_sem,seval,hgt,d9 hgi,h10,h9,hkz,hkn,hki,hq]|refine hih.callQ rfl ?_<;>try simp only[go_sem,seval,hgt,d9 hgi,h10,h9,hkz,hkn,hki]|fail)
           | true =>
            have hpf:=ao0 p hok kd hb;rw[hb] at hih j1;simp only[k_] at j1;have hord:Gives Tryz.prog 71 [.agg (FcV.fc (p.headV kd.rel kd.values)).enc,.agg (FcV.fc (g.callV (o7 vs))).enc] (.d (.int .i64 (K5 (p.headV kd.rel kd.values).1 (p.headV kd.rel kd.values).2 (g.callV (o7 vs)).1 (g.callV (o7 vs)).2))):=aj5 _ _ _ _;have heq:FcV.eq (p.headV kd.rel kd.values) (g.callV (o7 vs))=decide (K5 (p.headV kd.rel kd.values).1 (p.headV kd.rel kd.values).2 (g.callV (o7 vs)).1 (g.callV (o7 vs)).2=0):=rfl;rw[heq] at j1;generalize K5 (p.headV kd.rel kd.values).1 (p.headV kd.rel kd.values).2 (g.callV (o7 vs)).1 (g.callV (o7 vs)).2=cf at hord j1;generalize FcV.fc (p.headV kd.rel kd.values)=F1 at hpf hord;generalize FcV.fc (g.callV (o7 vs))=F2 at hcf hord;by_cases he:cf=0
            ·rw[decide_eq_true he,k_] at j1
             refine rS_ Tryz.func37 ?_;simp only[go_sem,seval,hgt,d9 hgi,h10,h9]
             repeat' (first|refine E8 ?_ ?_<;>intro hq<;>try simp only[go_sem,seval,hgt,d9 hgi,h10,h9,hkz,hkn,hki,he,hq]|simp(disch:=omega) only[l6]|((first|refine hih.callQ rfl ?_|refine hpf.callQ rfl ?_|refine hcf.callQ rfl ?_|refine hord.callQ rfl ?_)<;>(try simp only[go_sem,seval,hgt,d9 hgi,h10,h9,hkz,hkn,hki,he]))|fail)
             ·refine hnx (k+1) _ ⟨j1,hk⟩ A7
             all_goals (exfalso;omega)
            ·rw[decide_eq_false he,m_] at j1
             rw[<-j1];refine rS_ Tryz.func37 ?_;simp only[go_sem,seval,hgt,d9 hgi,h10,h9]
             repeat' (first|refine E8 ?_ ?_<;>intro hq<;>try simp only[go_sem,seval,hgt,d9 hgi,h10,h9,hkz,hkn,hki,hq]|simp(disch:=omega) only[l6]|((first|refine hih.callQ rfl ?_|refine hpf.callQ rfl ?_|refine hcf.callQ rfl ?_|refine hord.callQ rfl ?_)<;>(try simp only[go_sem,seval,hgt,d9 hgi,h10,h9,hkz,hkn,hki]))|fail)
             all_goals first | rfl | exfalso;omega | exact absurd (by assumption) he
          ·have hdk:(p.prfs t.kids).drop k=[]:=List.drop_eq_nil_of_le (by rw[Pg.prfs_eq,e_];omega)
           rw[hdk] at j1;dsimp only at j1;rw[<-j1];have hkn:(t.kids.length:Int)<=(k:Int):=by omega
           refine rS_ Tryz.func37 ?_;simp only[go_sem,seval,hgt,d9 hgi,h10,h9,hkn]
         ·rw[if_neg h9] at j1
          have htw:=as2 g vs hgI;rw[<-hev] at htw;cases hb:g.testV (o7 vs) with
          | false =>
           rw[hb] at htw j1;rw[m_] at j1;rw[<-j1];refine rS_ Tryz.func37 ?_;simp only[go_sem,seval,hgt,d9 hgi,h10,h9]
           repeat' (first|refine htw.calls rfl ?_<;>try simp only[go_sem,seval,hgt,d9 hgi,h10,h9]|fail)
          | true =>
           rw[hb] at htw j1;rw[k_] at j1;refine rS_ Tryz.func37 ?_;simp only[go_sem,seval,hgt,d9 hgi,h10,h9]
           repeat' (first|simp(disch:=omega) only[l6]|refine htw.calls rfl ?_<;>try simp only[go_sem,seval,hgt,d9 hgi,h10,h9]|fail)
           refine hnx k _ ⟨j1,j2⟩ A7
       ·obtain⟨j1,j2⟩:=hinv2
        unfold H7 at j1;rw[<-j1];have hl:((p.prfs t.kids).drop k).isEmpty=decide ((k:Int)=t.kids.length):=by
         rw[Bool.eq_iff_iff,List.isEmpty_iff,decide_eq_true_eq,List.drop_eq_nil_iff,Pg.prfs_eq,e_];omega
        rw[hl];refine rS_ Tryz.func37 ?_;simp only[go_sem,seval]
      ·have hR0:REST=false:=by
        rw[<-hREST];by_cases h0:0<=t.clause
        ·have:r.body.clsS[t.clause.toNat]? = none:=List.getElem?_eq_none (by omega)
         rw[this];simp
        ·rw[decide_eq_false h0,m_]
       rw[hR0];refine rS_ Tryz.func37 ?_;simp only[go_sem,seval,hir,hf0,hf1]
       repeat' (first|((first | refine E8 ?_ ?_<;>intro hq | (refine A8 (fun x hx=>have hq:=hx;?_)))<;>(try simp only[go_sem,seval,bd2,t_,i_,hir,hf0,hf1,hq]))|simp(disch:=omega) only[l6]|((first|refine hcl.calls rfl ?_|refine⟨sd,?_⟩)<;>(try simp only[go_sem,seval,bd2,t_,i_,hir,hf0,hf1]))|fail)
       all_goals first | rfl | exfalso;omega
     ·rw[if_neg h64] at hcl
      have hR0:REST=false:=by rw[<-hREST,decide_eq_false h64,m_]
      rw[hR0];refine rS_ Tryz.func37 ?_;simp only[go_sem,seval,hir,hf0,hf1]
      repeat' (first|refine hcl.calls rfl ?_<;>try simp only[go_sem,seval,bd2,Option.getD_none,n_,hir,hf0,hf1]|fail)
   ·rw[decide_eq_false hlen,m_]
    refine aE_ Tryz.func37 ?_;refine rS_ Tryz.func37 ?_;simp only[go_sem,seval,hf,hf0,hf1,hwr,hlen,hir]
    repeat' (first|refine E8 ?_ ?_<;>intro hq<;>try simp only[go_sem,seval,hf,hf0,hf1,hwr,hlen,hir,hq]|refine hrel.calls rfl ?_<;>try simp only[go_sem,seval,hf,hf0,hf1,hwr,hlen,hir]|fail)
    all_goals exact absurd hq hlen
theorem ag7 (p:Pg) (t:Pf) (hwp:wtL p.enc<=1048576) (hw:wtL t.enc<=1048576):Gives Tryz.prog 10 [.agg p.enc,.agg t.enc] (.d (.bool (p.prfOk t))):=by
 have hz:decide (0<t.sizeI)=decide (t.cnt<=200):=by
  have:=Pf.cnt_pos t;unfold Pf.sizeI;rw[Bool.eq_iff_iff,decide_eq_true_eq,decide_eq_true_eq];split<;>omega
 by_cases hok:M9 p=true
 ·have hp:=bf9 p hok hwp t hw
  have hP:p.prfOk t=(decide (0<t.sizeI) && p.prf t):=by unfold Pg.prfOk;rw[hok,k_,hz]
  rw[hP];clear hP;generalize p.prf t=b at hp |-;have hsz:=ak3 t hw;generalize t.sizeI=z at hz hsz |-;refine aE_ Tryz.func10 ?_;refine rS_ Tryz.func10 ?_;simp only[go_sem,seval,hok]
  repeat' (first|refine E8 ?_ ?_<;>intro hq<;>try simp only[go_sem,seval,hok,hq]|((first|refine hp.calls rfl ?_|refine hsz.calls rfl ?_|refine(aa0 _ sd).calls rfl ?_)<;>(try simp only[go_sem,seval,hok]))|fail)
  all_goals first | rfl | rw[decide_eq_true (by omega)];rfl | rw[decide_eq_false (by omega)];rfl | rw[decide_eq_true (by omega),k_];done
 ·simp only[r_] at hok
  have hP:p.prfOk t=false:=by unfold Pg.prfOk;rw[hok,m_]
  rw[hP];refine aE_ Tryz.func10 ?_;refine rS_ Tryz.func10 ?_;simp only[go_sem,seval,hok]
  repeat' (first|refine(aa0 _ sd).calls rfl ?_<;>try simp only[go_sem,seval,hok]|fail)
end Go.Proofs.YtehgpkadkdekmaaGreatDoor
namespace Go.Abs
theorem AW.readGB {P:Program} {f:FuncId} {n n0:Nat} {R:C->List O->Prop} {k:List Item} {s:St} (rb j r:Nat) {q z e:Nat} {cs:List C} {xs:List (List D)} (hb:s.H[rb]? = some (.box cs)) (hj:cs[j]? = some (.own r q)) (hr:s.H[r]? = some (.grow q z e xs))
  (h:AW P f n n0 R k ⟨s.σ,s.H.set rb (.box (cs.set j (.d (.sl xs))))⟩):AW P f n n0 R k s:=by
 refine AW.recast (s':=⟨s.σ,s.H.set rb (.box (cs.set j (.d (.sl xs))))⟩) (fun hn0 E a hst=>?_);exact⟨E,rfl,Le.refl E,⟨hst.size,hst.defers,hst.heap.readB hb hj hr,fun t=>hst.slot t⟩,h⟩
end Go.Abs
namespace Go.Proofs.YtehgpkadkdekmaaGreatDoor
open Go.Abs
set_option maxRecDepth 100000
set_option maxHeartbeats 8000000
set_option linter.unusedSimpArgs false
set_option linter.unusedVariables false
theorem Pf.cnts_app:∀a b:List Pf,Pf.cnts (a++b)=Pf.cnts a+Pf.cnts b
 | [],b=>by simp[Pf.cnts]
 | k :: a,b=>by simp only[List.cons_append,Pf.cnts,Pf.cnts_app a b];omega
def ptH (pb tb:List D) (q:Nat) (L:List (List D)):List O:=[.hole,.box (pb.map .d),.box (tb.map .d),.box [.own 4 q],.grow q 4 47 L,.box [.fn 40 [.ptr 3 0,.ptr 5 0]]]
def ptW (t:Pf):Prop:=∀(pb tb:List D) (q:Nat) (L:List (List D)),L.length+t.trms.length<=2000000->ACalls Tryz.prog 40 [.d (.agg t.enc),.ptr 3 0,.ptr 5 0] (ptH pb tb q L) (fun c H'=>c=.tup []/\H'=ptH pb tb (q+t.cnt) (L++t.trms.map Tm.enc))
theorem aF6:∀t:Pf,ptW t:=by
 intro t;induction t using Pf.ind' with
 | h t ih =>
  intro pb tb q L hl;have hmx:maxLen=9223372036854775807:=rfl;rw[Pf.trms_eq,a_] at hl;rw[Pf.trms_eq,w_,<-List.append_assoc,Pf.cnt_eq];unfold ptH;refine aE_ Tryz.func40 ?_;refine rS_ Tryz.func40 ?_;simp only[go_sem,seval]
  repeat' (first|refine⟨sd,?_⟩<;>try simp only[go_sem,seval]|fail)
  refine AW.rng t.kids [2,11,12] 13 11 (fun _:Nat×List (List D)=>[]) (fun _ M=>[.hole,.box (pb.map .d),.box (tb.map .d),.box [.own 4 M.1],.grow M.1 4 47 M.2,.box [.fn 40 [.ptr 3 0,.ptr 5 0]],.box (t.enc.map .d)]) (fun r M=>∃d,t.kids=d++r/\M.1=q+1+Pf.cnts d/\M.2=L++t.values.map Tm.enc++(Pf.trmss d).map Tm.enc) (q+1,L++t.values.map Tm.enc) rfl (by simp) ⟨[],rfl,rfl,by simp[Pf.trmss]⟩ A7 (fun i x r M hxi hdr hlt hm hinv hnext=>?_) (fun M hinv=>?_)
  ·obtain⟨M1,M⟩:=M
   obtain⟨d,d1,d3,d2⟩:=hinv;dsimp only at d2 d3 hnext |-;have hnx:=fun a b s'=>hnext (a,b) s';clear hnext;have hxm:=b_ hxi;have hMl:M.length+x.trms.length<=2000000:=by
    have h2:=congrArg (fun l=>(Pf.trmss l).length) d1;simp only[Pf.trmss_app,Pf.trmss,a_] at h2;rw[d2];simp only[a_,e_];omega
   have hx:=ih x hxm pb tb M1 M hMl;unfold ptH at hx;refine rS_ Tryz.func40 ?_;simp only[go_sem,seval,hlt,d9 hxi]
   repeat' (first|simp(disch:=omega) only[l6]|refine hx.frame (X:=[_,_]) rfl (by simp only[f_,g_,O.refsLt,l7,C.refsLt,C.refsLt1];rfl) ?_<;>(rintro c H' ⟨rfl,rfl⟩ _)<;>try simp only[go_sem,seval,hlt,d9 hxi]|fail)
   all_goals first | simp only[l7,Bool.and_self];done | skip
   all_goals refine hnx (M1+x.cnt) (M++x.trms.map Tm.enc) _ ⟨d++[x],by rw[d1];simp,by rw[Pf.cnts_app];simp only[Pf.cnts,d3];omega,by dsimp only;rw[d2,Pf.trmss_app];simp[Pf.trmss]⟩ A7
  ·obtain⟨M1,M⟩:=M
   obtain⟨d,d1,d3,d2⟩:=hinv;dsimp only at d2 d3 |-;rw[h_] at d1;subst d1;rw[<-d2,<-Nat.add_assoc,<-d3];refine rS_ Tryz.func40 ?_;simp only[go_sem,seval];all_goals first | simp only[l7,Bool.and_self];done | skip
theorem aG7 (p:Pg) (t:Pf) (hwp:wtL p.enc<=1048576) (hw:wtL t.enc<=1048576):ACalls Tryz.prog 14 [.d (.agg p.enc),.d (.agg t.enc)] [.hole] (fun c H'=>c=.own 0 1/\∃e B,H'=[.tree 1 4 e ((Pf.terms p t).map V.enc) B none]):=by
 have hmx:maxLen=9223372036854775807:=rfl;have ho:=ag7 p t hwp hw;unfold Pf.terms;cases hok:p.prfOk t with
 | false =>
  rw[hok] at ho;rw[if_neg (by simp)];refine aE_ Tryz.func14 ?_;refine l9 Tryz.func14 mixed 8 _ _ (by kernel_rfl) ?_;simp only[go_sem,seval,run.eq_1]
  repeat' (first|refine ho.calls rfl ?_<;>try simp only[go_sem,seval,run.eq_1]|fail)
  refine AW.adoptT 4 4 47 (by decide) rfl ?_;refine AW.place 4 3 0 rfl rfl rfl (by decide) ?_;refine rS_ Tryz.func14 ?_;simp only[go_sem,seval];all_goals exact⟨_,_,rfl⟩
 | true =>
  rw[hok] at ho;rw[if_pos rfl];have hok2:=hok;unfold Pg.prfOk at hok2;simp only[d_] at hok2;have hg:=Pf.trms_ground t hok2.2.2;have hvl:t.trms.length<=1048576:=by
   have h1:=Pf.trms_wt t;have h2:=bV1 (t.trms.map Tm.enc);rw[e_] at h2;omega
  have hW:=aF6 t p.enc t.enc 0 [] (by simp;omega);unfold ptH at hW;have hve:t.trms.map Tm.enc=(t.trms.map Tm.V).map V.enc:=by
   conv=>lhs;rw[ac0 hg]
   exact D5 _
  rw[List.nil_append,hve] at hW;have has:=aW6 (t.trms.map Tm.V) (by simp;omega);refine aE_ Tryz.func14 ?_;refine l9 Tryz.func14 mixed 7 _ _ (by kernel_rfl) ?_;simp only[go_sem,seval,run.eq_1]
  repeat' (first|refine ho.calls rfl ?_<;>try simp only[go_sem,seval,run.eq_1]|fail)
  refine l9 Tryz.func14 mixed 2 _ _ (by kernel_rfl) ?_;simp only[go_sem,seval,run.eq_1];refine AW.adoptGB 3 0 4 47 (by decide) rfl rfl ?_;refine l9 Tryz.func14 mixed 6 _ _ (by kernel_rfl) ?_;simp only[go_sem,seval,run.eq_1]
  repeat' (first|refine hW.mono ?_<;>(rintro c H' ⟨rfl,rfl⟩)<;>try simp only[go_sem,seval,run.eq_1]|fail)
  refine AW.readGB 3 0 4 rfl rfl rfl ?_;refine rS_ Tryz.func14 ?_;simp only[go_sem,seval]
  repeat' (first|((first|refine ACalls.fresh (ds:=[.sl ((t.trms.map Tm.V).map V.enc)]) (m:=1) has [0] rfl rfl (by simp) (by simp) ?_<;>(rintro c H' ⟨rfl,e1,B1,rfl⟩ _;refine⟨rfl,rfl,?_⟩)|refine⟨by assumption,?_⟩)<;>(try simp only[go_sem,seval]))|fail)
  all_goals first | exact⟨_,_,rfl⟩ | skip
set_option maxHeartbeats 4000000
theorem ao6 (l:List (List UInt8)) (by_:List UInt8) (hb:(ab6 by_ l).length<=1000000000):Gives Tryz.prog 144 [.sl (U2 l),.str by_] (.d (.str (ab6 by_ l))):=by
 have hmx:maxLen=9223372036854775807:=rfl;refine aE_ Tryz.func144 ?_;refine rS_ Tryz.func144 ?_;simp only[go_sem,seval,l8];refine AW.adopt 5 1 5 (by decide) rfl ?_;refine AW.rng l [1,9,10] 11 9 (fun p:Nat×List UInt8=>[(5,.own 0 p.1)]) (fun _ p=>[.grow p.1 1 5 (bytesD p.2)]) (fun r p=>bm3 by_ l r p.2) (0,[]) rfl (by simp[U2]) ⟨fun _=>rfl,fun h=>by simp at h⟩ (by refine⟨by simp[mkS,bytesD],by simp[mkS,bytesD],by simp only[mkS,f_,g_,O.refsLt,C.refsLt,C.refsLt1,l7];first | done | rfl | (simp;done),?_⟩;simp[mkS,Abs.get,C.refsLtT,C.refsLt,C.refsLt1]) (fun i x r p hxi hdr hlt hm hinv hnext=>?_) (fun p hinv=>?_)
 ·obtain⟨q,acc⟩:=p
  dsimp only at hinv |-;obtain⟨j1,j2⟩:=aC2 hdr hinv;have j3:=bu4 hdr hinv;by_cases hi:0<i
  ·rw[if_pos hi] at j3
   have hi':(0:Int)<i:=by omega
   refine rS_ Tryz.func144 ?_;simp only[go_sem,seval,hlt,hi',d9 (F7 hxi),l8,ae3,y5]
   repeat' (first|simp(disch:=omega) only[l6]|refine hnext (q+1+1,acc++by_++x) _ (j2 hi) I7|refine⟨sd,?_⟩<;>try simp only[go_sem,seval,hlt,hi',ae3,y5]|fail)
  ·rw[if_neg hi] at j3
   obtain⟨rfl,j4⟩:=j1 (by omega);have hi':¬(0:Int)<i:=by omega
   refine rS_ Tryz.func144 ?_;simp only[go_sem,seval,hlt,hi',d9 (F7 hxi),l8,ae3,y5]
   repeat' (first|simp(disch:=omega) only[l6]|refine hnext (q+1,x) _ j4 I7|refine⟨sd,?_⟩<;>try simp only[go_sem,seval,hlt,hi',ae3,y5]|fail)
 ·rw[<-bu5 hinv]
  refine rS_ Tryz.func144 ?_;simp only[go_sem,seval,ae9,bl4]
open Go.RowKit Go.Abs
theorem by7 (b:Nat) (w:World) (h0:w.cell? ⟨b,0,none⟩=some (.pointer none)) (hsh:w.shape? b=some (205,2)) (hfz:w.frozen? ⟨b,0,none⟩=false) :
  Calls Tryz.prog 184 #[.pointer (some ⟨b,0,none⟩)] w fun e w'=>e=.returned (.tuple #[])/\w'=w.setCell ⟨b,0,none⟩ (.pointer (some ⟨b,0,none⟩)):=by
 obtain⟨j,hj,hjs⟩:=x_.1 (show (Tryz.prog.info? 205).map (·.size)=some 2 by kernel_rfl);go_enter Tryz.func184,Tryz.ntmps184
 go_wp2
 rw[Lib.run_to_unsafe w ⟨b,0,none⟩ Tryz.underlying203 Tryz.underlying164 hj (by rw[hjs];decide) hsh (Nat.zero_lt_succ 1)];simp only[Result.andThen];rw[Oper.upon_value];go_wp2
 rw[run_callFunc_extern Tryz.func197 (by kernel_rfl) (by kernel_rfl) (by kernel_rfl) (e:=Extern.AbiNoEscape.same) (by kernel_rfl)];rw[Lib.run_noEscape];simp only[Result.andThen];rw[Oper.upon_value];go_wp2
 rw[Lib.run_from_unsafe w ⟨b,0,none⟩ Tryz.underlying164 Tryz.underlying203 hj hsh (by kernel_rfl)];simp only[Result.andThen];rw[Oper.upon_value];go_wp2
 go_end0
 exact⟨rfl,rfl⟩
theorem bH2 (b:Nat) (w:World) (h0:w.cell? ⟨b,0,none⟩=some (.pointer (some ⟨b,0,none⟩))) :
  Calls Tryz.prog 184 #[.pointer (some ⟨b,0,none⟩)] w fun e w'=>e=.returned (.tuple #[])/\w'=w:=by
 obtain⟨j,hj,hjs⟩:=x_.1 (show (Tryz.prog.info? 205).map (·.size)=some 2 by kernel_rfl);go_enter Tryz.func184,Tryz.ntmps184
 go_wp2
 rw[Lib.run_neq_ptr_same w _ Tryz.underlying203 hj];go_wp2
 go_end0
 exact⟨rfl,rfl⟩
theorem O7 (b:Nat) (p v:Value) (bs l:List UInt8) (w:World) (hp:p=.pointer none\/p=.pointer (some ⟨b,0,none⟩))
  (hb:w.heap[b]? = some (.cells #[p,v] 205 (0,0))) (hv:aW9 w 5 v bs) (hne:ownB v≠some b) (hm:bs.length+l.length<=maxLen) (hby:(bs.length+l.length) * 1<=140737488355328) :
  Calls Tryz.prog 179 #[.pointer (some ⟨b,0,none⟩),.string ⟨l.toArray⟩] w fun e w'=>e=.returned (.tuple #[.int .i64 l.length,.nilIface]) /\
   ∃v' w2,w'=w2.setCell ⟨b,1,none⟩ v'/\w2.heap[b]? = some (.cells #[.pointer (some ⟨b,0,none⟩),v] 205 (0,0))/\aW9 w2 5 v' (bs++l) /\
    w2.os=w.os/\w2.tape=w.tape/\w2.output=w.output/\w.heap.size<=w2.heap.size/\(∀k,k<w.heap.size->k≠b->ownB v≠some k->w2.heap[k]? = w.heap[k]?) /\
    (∀k,ownB v'=some k->ownB v=some k\/w.heap.size<=k):=by
 have hcc:Calls Tryz.prog 184 #[.pointer (some ⟨b,0,none⟩)] w fun e w1=>e=.returned (.tuple #[])/\w1.heap[b]? = some (.cells #[.pointer (some ⟨b,0,none⟩),v] 205 (0,0)) /\
   (∀k,k≠b->w1.heap[k]? = w.heap[k]?)/\w1.heap.size=w.heap.size/\w1.os=w.os/\w1.tape=w.tape/\w1.output=w.output:=by
  have c0:w.cell? ⟨b,0,none⟩=some p:=by rw[Lib.cell_of_heap hb];rfl
  rcases hp with rfl | rfl
  ·refine(by7 b w c0 (by simp[World.shape?,hb]) (Lib.frozen_of_heap hb 0)).mono ?_
   rintro e w' ⟨rfl,rfl⟩;exact⟨rfl,by rw[heap_setCell_same _ _ _ _ _ _ hb];rfl,fun k hk=>heap_setCell_other _ _ _ _ hk,by simp,rfl,rfl,rfl⟩
  ·refine(bH2 b w c0).mono ?_
   rintro e w' ⟨rfl,rfl⟩;exact⟨rfl,hb,fun _ _=>rfl,rfl,rfl,rfl,rfl⟩
 go_enter Tryz.func179,Tryz.ntmps179
 go_wp2_with (go_at_call 184;refine hcc.mono ?_)
 rintro e w1 ⟨rfl,hbk,hk1,hs1,ho1,ht1,hq1⟩;have hv1:aW9 w1 5 v bs:=hv.same fun k hk=>hk1 k (fun e=>hne (by rw[<-e];exact hk));have c0:w1.cell? ⟨b,0,none⟩=some (.pointer (some ⟨b,0,none⟩)):=by rw[Lib.cell_of_heap hbk];rfl
 have c1:w1.cell? ⟨b,1,none⟩=some v:=by rw[Lib.cell_of_heap hbk];rfl
 go_wp2_with (at_builtin;refine aD8 rfl _ _ 22 9 rfl (by kernel_rfl) (by kernel_rfl) rfl hv1 rfl hm hby ?_)
 intro v' w2 hr hA;have hlt:b<w1.heap.size:=(Array.getElem?_eq_some_iff.1 hbk).1;have hb2:w2.heap[b]? = some (.cells #[.pointer (some ⟨b,0,none⟩),v] 205 (0,0)):=by
  rw[hA.blk b hlt hne];exact hbk
 have d0:w2.cell? ⟨b,0,none⟩=some (.pointer (some ⟨b,0,none⟩)):=by rw[Lib.cell_of_heap hb2];rfl
 have d1:w2.cell? ⟨b,1,none⟩=some v:=by rw[Lib.cell_of_heap hb2];rfl
 have f1:w2.frozen? ⟨b,1,none⟩=false:=Lib.frozen_of_heap hb2 1;obtain⟨ao,n',cap,rfl⟩:∃ao n' cap,v'=.slice ao n' cap:=by
  rcases hr with ⟨a,hv,_⟩ | ⟨g,cap,cur,hv,_⟩
  ·exact⟨_,_,_,hv⟩
  ·exact⟨_,_,_,hv⟩
 go_wp2
 go_ret2
 refine⟨by simp,_,w2,rfl,hb2,hr,hA.os.trans ho1,hA.tape.trans ht1,hA.output.trans hq1,by rw[<-hs1];exact hA.size,fun k hk hkb hkv=>(hA.blk k (by rw[hs1];exact hk) hkv).trans (hk1 k hkb),fun k hk=>?_⟩;rcases hA.new k hk with h | h
 ·exact .inl h
 ·exact .inr (by rw[<-hs1];exact h)
theorem bl5 (b g cap:Nat) (p:Value) (cur:Array Value) (l:List UInt8) (w:World)
  (hb:w.heap[b]? = some (.cells #[p,.slice (some ⟨g,0,none⟩) l.length cap] 205 (0,0))) (hg:w.heap[g]? = some (.cells cur 5 (0,0)))
  (h0:l≠[]) (hc:l.length<=cap) (hm:cap<=maxLen) (hs:cur.size=cap) (ht:∀(j:Nat) (x:UInt8),l[j]? = some x->cur[j]? = some (.int .u8 x.toNat)) :
  Calls Tryz.prog 170 #[.pointer (some ⟨b,0,none⟩)] w fun e w'=>e=.returned (.string ⟨l.toArray⟩)/\w'=w.drew.freeze ⟨g,0,none⟩ l.length:=by
 have hl0:l.length≠0:=by simpa using h0
 have c1:w.drew.cell? ⟨b,1,none⟩=some (.slice (some ⟨g,0,none⟩) l.length cap):=by
  have:w.drew.heap[b]? = some (.cells #[p,.slice (some ⟨g,0,none⟩) l.length cap] 205 (0,0)):=hb;rw[Lib.cell_of_heap this];rfl
 have hg':w.drew.heap[g]? = some (.cells cur 5 (0,0)):=hg;have hSD:∀ts ty,(Builtin.unsafeSliceData_ ts ty #[.slice (some ⟨g,0,none⟩) l.length cap]).run Tryz.prog w.drew=.ok (.pointer (some ⟨g,0,none⟩)) w.drew:=
  fun _ _=>Lib.run_unsafeSliceData_row _ _ _ _ _ _ (by omega)
 have hUS:(Builtin.unsafeString_ #[213,3] 9 #[.pointer (some ⟨g,0,none⟩),.int .i64 l.length]).run Tryz.prog w.drew=.ok (.string ⟨l.toArray⟩) (w.drew.freeze ⟨g,0,none⟩ l.length):=by
  refine Lib.run_unsafeString_row w.drew 213 3 9 5 Tryz.underlying213 (by kernel_rfl) g cur.size (by simp[World.shape?,hg']) l h0 (by omega) (by unfold maxLen at hm;omega) ?_;intro j x hx;rw[Abs.Addr.add_mk,Nat.zero_add,Lib.cell_of_heap hg'];exact ht j x hx
 have mixed:Tryz.prog.follows .mixedOrders=true:=by kernel_rfl
 go_enter Tryz.func170,Tryz.ntmps170
 go_wp2
 go_region_o
 all_goals (go_wp2;go_ret;exact⟨rfl,rfl⟩)
def af5:O:=.tab 0 (Lib.pow10Tab.map fun z=>Value.int .u64 z)
@[go_sem ↓ 10000] theorem as6 (m:Nat):af5.refsLt m=true:=rfl
theorem bP3 (n:Int) (h0:-1000000000<=n) (h1:n<=1000000000):ACalls Tryz.prog 185 [.d (.int .i64 n)] [af5] (fun c H'=>c=.d (.str (dec n))/\H'=[af5]):=
 bi5 (P:=Tryz.prog) (tx:=dec) (fun n a b w h=>Tryz.strconv_Itoa n a b w h) (by kernel_rfl) (by decide) n (by omega) (by omega)
theorem Y3 (n:Int) (h0:-1000000000<=n) (h1:n<=1000000000):ACalls Tryz.prog 180 [.d (.int .i64 n)] [af5] (fun c H'=>c=.d (.str (dec n))/\H'=[af5]):=by
 refine aE_ Tryz.func180 ?_;refine rS_ Tryz.func180 ?_;simp only[go_sem,seval]
 repeat' (first|refine(bP3 n h0 h1).mono ?_<;>(rintro c H' ⟨rfl,rfl⟩)<;>try simp only[go_sem,seval]|fail)
theorem bf7 (m:Nat) (cs:List D) (T:Nat) (bs:List UInt8):[af5,.box (cs.map .d),.bld T 5 bs].all (O.refsLt m)=true:=by
 show (af5.refsLt m && ((cs.map C.d).all (C.refsLt m) && (true && true)))=true;rw[l7,as6];rfl
theorem bX4 (m:Nat) (cs ds:List D) (T:Nat) (bs:List UInt8):[af5,.box (cs.map .d),.bld T 5 bs,.box (ds.map .d)].all (O.refsLt m)=true:=by
 show (af5.refsLt m && ((cs.map C.d).all (C.refsLt m) && (true && ((ds.map C.d).all (C.refsLt m) && true))))=true;rw[l7,l7,as6];rfl
theorem aI6:∀(k:Nat) (v:V),v.size<=k->k<=5000->v.fine=true->∀(cs:List D) (bs:List UInt8),bs.length+v.txt.length<=1000000000 ->
  ACalls Tryz.prog 169 [.ptr 2 0,.d (.agg v.enc)] [af5,.box (cs.map .d),.bld 205 5 bs] (fun c H'=>c=.tup []/\H'=[af5,.box (cs.map .d),.bld 205 5 (bs++v.txt)]):=by
 intro k;induction k with
 | zero=>intro v h;have:=v.size_pos;omega
 | succ k ih =>
  intro v hs hk hf cs bs hbs;have hmx:maxLen=9223372036854775807:=rfl;cases v with
  | nil =>
   refine aE_ Tryz.func169 ?_;refine rS_ Tryz.func169 ?_;simp only[go_sem,seval,l7,V.enc_nil]
   repeat' (first|((refine O8 O7 rfl (by first | omega | simp;omega) (by first | omega | simp;omega) ?_)<;>(try simp only[go_sem,seval,l7,V.enc_nil]))|fail)
   all_goals rfl
  | var n =>
   have hf':0<=n/\n<=100000:=by simpa[V.fine] using hf
   have hl:=P8 (n:=n) (by omega) (by omega);refine aE_ Tryz.func169 ?_;refine rS_ Tryz.func169 ?_;simp only[go_sem,seval,l7,V.enc_var]
   repeat' (first|((first|(refine O8 O7 rfl (by first | omega | simp;omega) (by first | omega | simp;omega) ?_)|refine(Y3 n (by omega) (by omega)).frame (X:=[_,_,_]) rfl rfl ?_<;>(rintro c H' ⟨rfl,rfl⟩ _)|refine⟨sd,?_⟩)<;>(try simp only[go_sem,seval,l7,V.enc_var]))|fail)
   all_goals rfl
  | sym s =>
   have:=H5 (s:=s) hf;refine aE_ Tryz.func169 ?_;refine rS_ Tryz.func169 ?_;simp only[go_sem,seval,l7,V.enc_sym]
   repeat' (first|((refine O8 O7 rfl (by first | omega | simp;omega) (by first | omega | simp;omega) ?_)<;>(try simp only[go_sem,seval,l7,V.enc_sym]))|fail)
   all_goals rfl
  | num n =>
   have hf':-1000000000<=n/\n<=1000000000:=by simpa[V.fine] using hf
   have hl:=P8 (n:=n) (by omega) (by omega);refine aE_ Tryz.func169 ?_;refine rS_ Tryz.func169 ?_;simp only[go_sem,seval,l7,V.enc_num]
   repeat' (first|((first|(refine O8 O7 rfl (by first | omega | simp;omega) (by first | omega | simp;omega) ?_)|refine(Y3 n (by omega) (by omega)).frame (X:=[_,_,_]) rfl rfl ?_<;>(rintro c H' ⟨rfl,rfl⟩ _))<;>(try simp only[go_sem,seval,l7,V.enc_num]))|fail)
   all_goals rfl
  | pair a b =>
   have hN:=(V.txs_len _ hf).1;have hf2:a.fine=true/\b.fine=true:=by simpa[V.fine] using hf
   have hsz:a.size+b.size<k+1:=by simp only[V.size] at hs;omega
   have htx:=V.txt_pair a b;simp only[V.size] at hN hs;generalize (V.pair a b).txt=N at hN htx hbs |-;have hb:=b.size_pos;have hla:=congrArg List.length htx;simp only[c_,a_] at hla;refine aE_ Tryz.func169 ?_;refine rS_ Tryz.func169 ?_;simp only[go_sem,seval,l7,V.enc_pair]
   repeat' (first|((first|(refine O8 O7 rfl (by first | omega | simp;omega) (by first | omega | simp;omega) ?_)|(refine(ih a (by omega) (by omega) hf2.1 _ _ (by first | omega | simp;omega)).frame (X:=[_]) rfl (bf7 _ _ _ _) ?_<;>(rintro c H' ⟨rfl,rfl⟩ _)))<;>(try simp only[go_sem,seval,l7,V.enc_pair]))|fail)
   refine AW.lp [0,3] (fun _:V×List UInt8=>[]) (fun _ p=>[af5,.box (cs.map .d),.bld 205 5 p.2,.box (p.1.enc.map .d)]) (fun p=>p.1.fine=true/\p.1.size<=b.size/\p.2++p.1.tl=bs++N) (fun p=>p.1.size) (b,bs++40 :: a.txt) ⟨hf2.2,u_ _,by rw[htx];simp⟩ (by refine⟨by simp[mkS],by simp[mkS],by exact bX4 _ _ _ _ _,?_⟩;simp[mkS,Abs.get,C.refsLtT,C.refsLt,C.refsLt1]) ?_;rintro ⟨u,acc⟩ ⟨i1,i2,i3⟩ hnext;dsimp only at i1 i2 i3 hnext |-;have hla2:=congrArg List.length i3;simp only[a_] at hla2;cases u with
   | pair x y =>
    have hf3:x.fine=true/\y.fine=true:=by simpa[V.fine] using i1
    have hs3:x.size+y.size+1<=b.size:=by simp only[V.size] at i2;omega
    have:=y.size_pos;rw[V.tl_pair] at i3 hla2;simp only[c_,a_] at hla2;refine rS_ Tryz.func169 ?_;simp only[go_sem,seval,l7,V.enc_pair]
    repeat' (first|refine hnext (y,acc++[32]++x.txt) _ ⟨hf3.2,by dsimp only;omega,by rw[<-i3];simp⟩ (by simp only[V.size];omega) (by refine⟨by simp[mkS],by simp[mkS],by exact bX4 _ _ _ _ _,?_⟩;simp[mkS,Abs.get,C.refsLtT,C.refsLt,C.refsLt1])|((first|(refine O8 O7 rfl (by first | omega | simp;omega) (by first | omega | simp;omega) ?_)|(refine(ih x (by omega) (by omega) hf3.1 _ _ (by first | omega | simp;omega)).frame (X:=[_]) rfl (bf7 _ _ _ _) ?_<;>(rintro c H' ⟨rfl,rfl⟩ _)))<;>(try simp only[go_sem,seval,l7,V.enc_pair]))|fail)
   | nil =>
    rw[V.tl_nil] at i3 hla2;simp only[c_,a_,p_] at hla2;refine rS_ Tryz.func169 ?_;simp only[go_sem,seval,l7,V.enc_nil]
    repeat' (first|((refine O8 O7 rfl (by first | omega | simp;omega) (by first | omega | simp;omega) ?_)<;>(try simp only[go_sem,seval,l7,V.enc_nil]))|fail)
    all_goals (rw[<-i3])
   | _ =>
    rw[V.tl_atom (by simp[V.kind]) (by simp[V.kind])] at i3 hla2;simp only[c_,a_,p_] at hla2;refine rS_ Tryz.func169 ?_;simp only[go_sem,seval,l7,V.enc_var,V.enc_sym,V.enc_num]
    repeat' (first|((first|(refine O8 O7 rfl (by first | omega | simp;omega) (by first | omega | simp;omega) ?_)|(refine(ih (.var _) (by simp only[V.size] at *;omega) (by omega) i1 _ _ (by first | omega | simp;omega)).frame (X:=[_]) rfl (bf7 _ _ _ _) ?_<;>(rintro c H' ⟨rfl,rfl⟩ _))|(refine(ih (.sym _) (by simp only[V.size] at *;omega) (by omega) i1 _ _ (by first | omega | simp;omega)).frame (X:=[_]) rfl (bf7 _ _ _ _) ?_<;>(rintro c H' ⟨rfl,rfl⟩ _))|(refine(ih (.num _) (by simp only[V.size] at *;omega) (by omega) i1 _ _ (by first | omega | simp;omega)).frame (X:=[_]) rfl (bf7 _ _ _ _) ?_<;>(rintro c H' ⟨rfl,rfl⟩ _)))<;>(try simp only[go_sem,seval,l7,V.enc_var,V.enc_sym,V.enc_num]))|fail)
    all_goals (rw[<-i3];simp)
theorem al3 (t:Tm) (hw:wtL t.enc<=1048576):ACalls Tryz.prog 143 [.d (.agg t.enc)] [af5] (fun c H'=>c=.d (.str (if M7 t=true then t.V.txt else []))/\H'=[af5]):=by
 refine aE_ Tryz.func143 ?_;refine l9 Tryz.func143 mixed 8 _ _ (by kernel_rfl) ?_;simp only[go_sem,seval,run.eq_1]
 repeat' (first|refine E8 ?_ ?_<;>intro hq<;>try simp only[go_sem,seval,run.eq_1,hq]|refine(ad9 _ sd).calls rfl ?_<;>try simp only[go_sem,seval,run.eq_1]|fail)
 ·refine rS_ Tryz.func143 ?_
  simp only[go_sem,seval]
 obtain⟨v,rfl,hv⟩:=as4 (t:=t) (by simp_all);have hv2:v.fine=true/\v.size<=5000:=by simpa[V.ok] using hv
 have hN:=V.txt_len hv;have hne:=V.txt_ne hv2.1;have hV:v.tm.V=v:=by simp[Tm.V,V.v?_tm v hv2.1]
 rw[hV];refine AW.newBld 5 rfl rfl rfl rfl (by decide) rfl rfl (by decide) ?_ ?_
 ·simp only[go_sem,seval]
 simp only[go_sem,seval];refine rS_ Tryz.func143 ?_;simp only[go_sem,seval,l7]
 repeat' (first|((first|refine(aI6 5000 v hv2.2 (by decide) hv2.1 _ _ (by simp;omega)).frame (X:=[]) rfl (bf7 _ _ _ _) ?_<;>(rintro c H' ⟨rfl,rfl⟩ _)|refine bl6 bl5 rfl hne ?_)<;>(try simp only[go_sem,seval,l7]))|fail)
theorem bu9 {k:Int} {Hd:List UInt8} (h0:2<=k) (h1:k<=10) (h9:k≠9) (hd:Hd=U4 k) :
  (ah9 [(D.int .i64 2,D.str [61]),(.int .i64 3,.str [47,61]),(.int .i64 4,.str [115,121,109,98,111,108]),(.int .i64 5,.str [110,117,109,98,101,114]),(.int .i64 6,.str [97,98,115,101,110,116]),(.int .i64 7,.str [97,110,100]),(.int .i64 8,.str [111,114]),(.int .i64 10,.str [110,111,116])] (.int .i64 k)).getD (.str [])=.str Hd:=by
 have:k=2\/k=3\/k=4\/k=5\/k=6\/k=7\/k=8\/k=10:=by omega
 subst hd;rcases this with rfl | rfl | rfl | rfl | rfl | rfl | rfl | rfl<;>simp[ah9,kEq,U4]
theorem an9 (m:Nat) (cs:List D) (sk:Bool) (es:List (D×D)) (q z e:Nat) (xs:List (List D)):[af5,.box (cs.map .d),.map sk es,.buf q z e xs].all (O.refsLt m)=true:=by
 show (af5.refsLt m && ((cs.map C.d).all (C.refsLt m) && (true && (true && true))))=true;rw[l7,as6];rfl
theorem aU8:∀g:Gl,g.shape=true->g.cnt<=80->wtL g.enc<=1048576->ACalls Tryz.prog 110 [.d (.agg g.enc)] [af5] (fun c H'=>c=.d (.str g.txt)/\H'=[af5]):=by
 intro g;induction g using Gl.ind' with
 | h g ih =>
  intro hs hc hw;have hmx:maxLen=9223372036854775807:=rfl;have hs':=hs;rw[Gl.shape_eq] at hs';simp only[d_] at hs';obtain⟨⟨h1,h2⟩,h3⟩:=hs';obtain⟨f1,f2,f3,f4,f5,f6⟩:=Gl.form_sizes h1;have hhl:=aw1 g.kind;have htl:=Gl.txt_len g hs;rw[Gl.txt_eq] at htl |-;by_cases hk:g.kind<=1
  ·rw[if_pos hk,f1 (by omega)]
   by_cases hk0:g.kind=0
   ·refine aE_ Tryz.func110 ?_
    refine rS_ Tryz.func110 ?_;simp only[go_sem,seval,hk0];all_goals rfl
   ·have hk1:g.kind=1:=by omega
    refine aE_ Tryz.func110 ?_;refine rS_ Tryz.func110 ?_;simp only[go_sem,seval,hk1];all_goals rfl
  rw[if_neg hk] at htl |-;simp only[c_,a_,p_] at htl;have hjl:(ab6 [32] g.words).length<=1000000000:=by omega
  obtain⟨Hd,hHd⟩:∃Hd,Hd=U4 g.kind++g.name:=⟨_,rfl⟩;have hwd:g.words=Hd :: (g.terms.map (fun t=>t.V.txt)++g.goals.map Gl.txt):=by rw[hHd];rfl
  refine aE_ Tryz.func110 ?_;have hk0:¬g.kind=0:=by omega
  have hk1:¬g.kind=1:=by omega
  by_cases h9:g.kind=9
  ·have hnm:g.name=Hd:=by rw[hHd,h9];rfl
   refine l9 Tryz.func110 mixed 20 _ _ (by kernel_rfl) ?_;simp only[go_sem,seval,run.eq_1,h9,hnm];refine AW.regL ?_;simp only[go_sem,seval]
   repeat' (first|refine I6 (fun Bz=>?_)<;>try simp only[go_sem,seval]|fail)
   refine AW.treeB 3 rfl (by simp[D.flat]) ?_;refine rS_ Tryz.func110 ?_;simp only[go_sem,seval];refine AW.rng g.terms [1,27,28] 29 27 (fun p:Nat×List (List UInt8)=>[(4,.own 3 p.1)]) (fun H p=>H.take 3++[.buf p.1 1 9 (U2 p.2)]) (fun r p=>p.2++r.map (fun t=>t.V.txt)=Hd :: g.terms.map (fun t=>t.V.txt)) (0,[Hd]) rfl (by simp) (by simp) (by refine⟨by simp[mkS,y7],by simp[mkS,y7],an9 _ _ _ _ _ _ _ _,?_⟩;simp[mkS,Abs.get,C.refsLtT,C.refsLt,C.refsLt1]) (fun i x r p hxi hdr hlt hm hinv hnext=>?_) (fun p hinv=>?_)
   ·obtain⟨q,acc⟩:=p
    dsimp only at hinv |-;have hxm:=b_ hxi;have hok:=l_.1 h2 x hxm;have hxw:=Gl.wt_terms hxm;have hft:=al3 x (by omega);rw[if_pos hok] at hft;have hal:=congrArg List.length hinv;simp only[a_,e_,c_] at hal;refine rS_ Tryz.func110 ?_;simp only[go_sem,seval,hlt,d9 hxi,l8]
    repeat' (first|simp(disch:=omega) only[l6]|refine hft.frame (X:=[_,_,_,_]) rfl rfl ?_<;>(rintro c H' ⟨rfl,rfl⟩ _)<;>try simp only[go_sem,seval,hlt]|fail)
    refine⟨by simp only[l8];omega,by simp only[l8];omega,hnext (q+1,acc++[x.V.txt]) _ (by rw[<-hinv,o_];simp) (by refine⟨by simp[mkS],by simp[mkS,p8,y7],an9 _ _ _ _ _ _ _ _,?_⟩;simp[mkS,Abs.get,C.refsLtT,C.refsLt,C.refsLt1])⟩
   obtain⟨q,acc⟩:=p;simp only[s_,h_] at hinv;subst hinv;refine rS_ Tryz.func110 ?_;simp only[go_sem,seval];refine AW.rng g.goals [40,41] 42 40 (fun p:Nat×List (List UInt8)=>[(4,.own 3 p.1)]) (fun H p=>H.take 3++[.buf p.1 1 9 (U2 p.2)]) (fun r p=>p.2++r.map Gl.txt=g.words) (q,Hd :: g.terms.map (fun t=>t.V.txt)) rfl (by simp) (by rw[hwd];simp) (by refine⟨by simp[mkS],by simp[mkS],an9 _ _ _ _ _ _ _ _,?_⟩;simp[mkS,Abs.get,C.refsLtT,C.refsLt,C.refsLt1]) (fun i x r p hxi hdr hlt hm hinv hnext=>?_) (fun p hinv=>?_)
   ·obtain⟨q2,acc⟩:=p
    dsimp only at hinv |-;have hx:=b_ hxi;have hxs:=l_.1 h3 x hx;have hxw:=Gl.wt_goals hx;have hxc:=Gl.cnt_mem hx;have hrec:=ih x hx hxs (by omega) (by omega);have hal:=congrArg List.length hinv;rw[hwd] at hal;simp only[a_,e_,c_] at hal;refine rS_ Tryz.func110 ?_;simp only[go_sem,seval,hlt,d9 hxi,l8]
    repeat' (first|simp(disch:=omega) only[l6]|refine hrec.frame (X:=[_,_,_,_]) rfl rfl ?_<;>(rintro c H' ⟨rfl,rfl⟩ _)<;>try simp only[go_sem,seval,hlt]|fail)
    refine⟨by simp only[l8];omega,by simp only[l8];omega,hnext (q2+1,acc++[x.txt]) _ (by rw[<-hinv,o_];simp) (by refine⟨by simp[mkS],by simp[mkS,p8,y7],an9 _ _ _ _ _ _ _ _,?_⟩;simp[mkS,Abs.get,C.refsLtT,C.refsLt,C.refsLt1])⟩
   obtain⟨q2,acc⟩:=p;simp only[s_,h_] at hinv;subst hinv;refine l9 Tryz.func110 mixed 6 _ _ (by kernel_rfl) ?_;simp only[go_sem,seval,run.eq_1];refine AW.freezeB 4 3 rfl rfl ?_;refine rS_ Tryz.func110 ?_;simp only[go_sem,seval]
   repeat' (first|((first|refine(ao6 g.words [32] hjl).calls rfl ?_|refine⟨sd,?_⟩)<;>(try simp only[go_sem,seval]))|fail)
   all_goals (rw[hmx];omega)
  ·have hmg:=bu9 (k:=g.kind) (Hd:=Hd) (by omega) (by omega) h9 (by rw[hHd,f1 h9,h_])
   refine l9 Tryz.func110 mixed 20 _ _ (by kernel_rfl) ?_;simp only[go_sem,seval,run.eq_1,↓hmg,hk0,hk1,h9];refine AW.regL ?_;simp only[go_sem,seval]
   repeat' (first|refine I6 (fun Bz=>?_)<;>try simp only[go_sem,seval]|fail)
   refine AW.treeB 3 rfl (by simp[D.flat]) ?_;refine rS_ Tryz.func110 ?_;simp only[go_sem,seval];refine AW.rng g.terms [1,27,28] 29 27 (fun p:Nat×List (List UInt8)=>[(4,.own 3 p.1)]) (fun H p=>H.take 3++[.buf p.1 1 9 (U2 p.2)]) (fun r p=>p.2++r.map (fun t=>t.V.txt)=Hd :: g.terms.map (fun t=>t.V.txt)) (0,[Hd]) rfl (by simp) (by simp) (by refine⟨by simp[mkS,y7],by simp[mkS,y7],an9 _ _ _ _ _ _ _ _,?_⟩;simp[mkS,Abs.get,C.refsLtT,C.refsLt,C.refsLt1]) (fun i x r p hxi hdr hlt hm hinv hnext=>?_) (fun p hinv=>?_)
   ·obtain⟨q,acc⟩:=p
    dsimp only at hinv |-;have hxm:=b_ hxi;have hok:=l_.1 h2 x hxm;have hxw:=Gl.wt_terms hxm;have hft:=al3 x (by omega);rw[if_pos hok] at hft;have hal:=congrArg List.length hinv;simp only[a_,e_,c_] at hal;refine rS_ Tryz.func110 ?_;simp only[go_sem,seval,hlt,d9 hxi,l8]
    repeat' (first|simp(disch:=omega) only[l6]|refine hft.frame (X:=[_,_,_,_]) rfl rfl ?_<;>(rintro c H' ⟨rfl,rfl⟩ _)<;>try simp only[go_sem,seval,hlt]|fail)
    refine⟨by simp only[l8];omega,by simp only[l8];omega,hnext (q+1,acc++[x.V.txt]) _ (by rw[<-hinv,o_];simp) (by refine⟨by simp[mkS],by simp[mkS,p8,y7],an9 _ _ _ _ _ _ _ _,?_⟩;simp[mkS,Abs.get,C.refsLtT,C.refsLt,C.refsLt1])⟩
   obtain⟨q,acc⟩:=p;simp only[s_,h_] at hinv;subst hinv;refine rS_ Tryz.func110 ?_;simp only[go_sem,seval];refine AW.rng g.goals [40,41] 42 40 (fun p:Nat×List (List UInt8)=>[(4,.own 3 p.1)]) (fun H p=>H.take 3++[.buf p.1 1 9 (U2 p.2)]) (fun r p=>p.2++r.map Gl.txt=g.words) (q,Hd :: g.terms.map (fun t=>t.V.txt)) rfl (by simp) (by rw[hwd];simp) (by refine⟨by simp[mkS],by simp[mkS],an9 _ _ _ _ _ _ _ _,?_⟩;simp[mkS,Abs.get,C.refsLtT,C.refsLt,C.refsLt1]) (fun i x r p hxi hdr hlt hm hinv hnext=>?_) (fun p hinv=>?_)
   ·obtain⟨q2,acc⟩:=p
    dsimp only at hinv |-;have hx:=b_ hxi;have hxs:=l_.1 h3 x hx;have hxw:=Gl.wt_goals hx;have hxc:=Gl.cnt_mem hx;have hrec:=ih x hx hxs (by omega) (by omega);have hal:=congrArg List.length hinv;rw[hwd] at hal;simp only[a_,e_,c_] at hal;refine rS_ Tryz.func110 ?_;simp only[go_sem,seval,hlt,d9 hxi,l8]
    repeat' (first|simp(disch:=omega) only[l6]|refine hrec.frame (X:=[_,_,_,_]) rfl rfl ?_<;>(rintro c H' ⟨rfl,rfl⟩ _)<;>try simp only[go_sem,seval,hlt]|fail)
    refine⟨by simp only[l8];omega,by simp only[l8];omega,hnext (q2+1,acc++[x.txt]) _ (by rw[<-hinv,o_];simp) (by refine⟨by simp[mkS],by simp[mkS,p8,y7],an9 _ _ _ _ _ _ _ _,?_⟩;simp[mkS,Abs.get,C.refsLtT,C.refsLt,C.refsLt1])⟩
   obtain⟨q2,acc⟩:=p;simp only[s_,h_] at hinv;subst hinv;refine l9 Tryz.func110 mixed 6 _ _ (by kernel_rfl) ?_;simp only[go_sem,seval,run.eq_1];refine AW.freezeB 4 3 rfl rfl ?_;refine rS_ Tryz.func110 ?_;simp only[go_sem,seval]
   repeat' (first|((first|refine(ao6 g.words [32] hjl).calls rfl ?_|refine⟨sd,?_⟩)<;>(try simp only[go_sem,seval]))|fail)
   all_goals (rw[hmx];omega)
theorem ak2 (f:Fc) (hw:wtL f.enc<=1048576):ACalls Tryz.prog 61 [.d (.agg f.enc)] [af5] (fun c H'=>c=.d (.str (Fc.txt f))/\H'=[af5]):=by
 have ha:=bS5 f.gl.vars;have ht:Fc.txt f=if ak5 f.gl=true/\f.gl.vars=[] then f.gl.txt else []:=rfl
 have hw':wtL f.gl.enc<=1048576:=by rw[cn8];exact hw
 have ho:=bj0 f.gl (by omega);rw[bv6] at ho;generalize Fc.txt f=N at ht |-;by_cases hg:ak5 f.gl=true
 ·rw[hg] at ho
  have hv:=aw3 f.gl (am9 hg) (by omega);have hc:f.gl.cnt<=80:=by unfold ak5 at hg;simp at hg;exact hg.1
  have hx:=aU8 f.gl (am9 hg) hc hw';rw[bv6] at hv hx;by_cases h0:f.gl.vars=[]
  ·rw[if_pos ⟨hg,h0⟩] at ht
   rw[ha.2 h0] at hv;subst ht;refine aE_ Tryz.func61 ?_;refine rS_ Tryz.func61 ?_;simp only[go_sem,seval,Fc.enc_eq]
   repeat' (first|((first|refine ho.calls rfl ?_|refine hv.calls rfl ?_|refine hx.frame (X:=[_,_]) rfl rfl ?_<;>(rintro c H' ⟨rfl,rfl⟩ _))<;>(try simp only[go_sem,seval,Fc.enc_eq]))|fail)
  ·rw[if_neg (fun h=>h0 h.2)] at ht
   have hl:0<(P9 f.gl.vars).length:=List.length_pos_iff.2 (fun e=>h0 (ha.1 e));subst ht;refine aE_ Tryz.func61 ?_;refine rS_ Tryz.func61 ?_;simp only[go_sem,seval,Fc.enc_eq]
   repeat' (first|refine E8 ?_ ?_<;>intro hq<;>try simp only[go_sem,seval,Fc.enc_eq,Y2,hq]|((first|refine ho.calls rfl ?_|refine hv.calls rfl ?_)<;>(try simp only[go_sem,seval,Fc.enc_eq,Y2]))|fail)
   all_goals (exfalso;omega)
 ·simp only[r_] at hg
  rw[hg] at ho;rw[if_neg (fun h=>by rw[hg] at h;cases h.1)] at ht;subst ht;refine aE_ Tryz.func61 ?_;refine rS_ Tryz.func61 ?_;simp only[go_sem,seval,Fc.enc_eq]
  repeat' (first|refine ho.calls rfl ?_<;>try simp only[go_sem,seval,Fc.enc_eq]|fail)
set_option maxHeartbeats 8000000
theorem ba0 {p:Pg} (hp:M9 p=true) {x:Rl} (hx:x∈p.rels):J6 x.name=true:=by
 unfold M9 at hp;rw[d_] at hp;obtain⟨i,h⟩:=Z8 hp.2 x hx;unfold Pg.relOk at h;simp only[d_] at h;exact h.1.1.1.1.1.1.2
theorem aN8 {s:List UInt8} (h:J6 s=true):s.length<=12:=by
 have:D7 s=true:=by unfold J6 at h;simp at h;exact h.2
 have:=H5 this;omega
theorem bQ6 {p:Pg} {u:List V} {rs:List RV} (hp:M9 p=true) (hu:Uni u) (hg:p.gr u=some rs):cf4 rs:=fun r hr=>by
 obtain⟨rfl,_⟩:=aw2 hg;obtain⟨x,hx,c,hc,j,w,_,rfl⟩:=ag8 _ hr;obtain⟨z1,z2,z3,z4⟩:=Pg.dims hp hx;have hvl:=M0 u (x.arity+x.locals).toNat w;have hcl:=(Gl.clsS_row x.body c hc).1;have hsh:=Pg.body_inst hp hx (m:=(x.arity+x.locals).toNat) (by omega);have hct:=hsh.2.2.2.2.2;refine⟨uniwts hu _ (fun v hv=>L9 hu.pos _ _ v hv) (by show (E5 u _ w).length<=12;omega),aN8 (ba0 hp hx),?_,by show (E5 u _ w).length<=12;omega⟩;have:=aC9 (o7 (E5 u (x.arity+x.locals).toNat w)) c;show (x9 _ c).length<=60;omega
theorem bA9 {p:Pg} {u:List V} {rs:List RV} (hp:M9 p=true) (hu:Uni u) (hg:p.gr u=some rs) {k:Nat}:∀f,f∈stg rs k->f.good:=fun f h=>by
 cases k with
 | zero=>simp[stg] at h
 | succ k =>
  obtain⟨r,h1,_,h3⟩:=Y0.1 h;obtain⟨rfl,_⟩:=aw2 hg;obtain⟨x,hx,c,_,j,w,_,rfl⟩:=ag8 _ h1;obtain⟨z1,z2,z3,z4⟩:=Pg.dims hp hx;have hm:∀v,v∈(E5 u (x.arity+x.locals).toNat w).take x.arity.toNat->v∈u:=fun v hv=>L9 hu.pos _ _ v (List.mem_of_mem_take hv);rw[<-h3];refine⟨ba0 hp hx,?_,fun v hv=>hu.ok v (hm v hv),fun v hv=>hu.gr v (hm v hv)⟩;show ((E5 u (x.arity+x.locals).toNat w).take x.arity.toNat).length<=4;rw[List.length_take];omega
theorem bQ5 {f:FcV} (h:f.good):wtL (fcE f)<=1048576:=by
 rw[o5];have h1:=aS8 f.2 (l_.2 h.ok);have h2:=aN8 h.rel;have h3:=h.len;simp only[wtL,D.wt];omega
theorem cc1 {p:Pg} (h:p.all false=true):M9 p=true:=by unfold Pg.all at h;rw[d_] at h;exact h.1
def xO (rs:List RV) (x:C):O:=.box [.d (.sl (rs.map rvE)),.d (.sl (ay4 rs (top rs+1))),x]
theorem bQ9 (rs:List RV) (hr:rs.length<=2000) (es:List (D×D)) (f:FcV) (hin:f∈stg rs (top rs)) (r:RV) (hrl:rlF rs f=some r):ACalls Tryz.prog 62 [.ptr 0 0,.d (.agg (fcE f))] [xO rs (.map 1),.map true es] (fun c H'=>c=.d (.agg (rvE r))/\H'=[xO rs (.map 1),.map true es]):=by
 have hmx:maxLen=9223372036854775807:=rfl;have t1:=(Y7 rs).1;have hh:=aa2 rs f (by omega);obtain⟨j,h1,h2,h3,h4,h5⟩:=J7 hin;have hj1:((j+1:Nat):Int)=(j:Int)+1:=by omega
 rw[h1,hj1,o5] at hh;rw[bJ0] at hrl;have hN1:hN rs f - 1=j:=by omega
 have hat:=as8 rs (i:=j) (m:=top rs+1) (by omega);have hsl:=af8 rs j;have hhf:∀k:FcV,Gives Tryz.prog 60 [.sl ((stg rs j).map fcE),.agg [.str k.1,.sl (k.2.map V.enc)]] (.d (.bool (decide (k∈stg rs j)))):=fun k=>by
  have h:=Y4 (stg rs j) k (by omega) (Y8 rs j);rw[o5] at h;exact h
 have w1:IntKind.i64.wrap ((j:Int)+1 - 1)=(j:Int):=by rw[l6 (by omega) (by omega)];omega
 have n2:(j:Int)<(top rs:Int)+1:=by omega
 unfold xO;obtain⟨RE,hRE⟩:∃y,rvE r=y:=⟨_,rfl⟩;rw[o5,hRE];refine aE_ Tryz.func62 ?_;refine rS_ Tryz.func62 ?_;simp only[go_sem,seval]
 repeat' (first|refine hh.callQ rfl ?_<;>try simp only[go_sem,seval]|fail)
 refine AW.rng rs [0,3,4,5,20,21] 22 20 (fun _:Unit=>[]) (fun H _=>H) (fun q _=>q.find? (rlP rs f)=some r) () rfl (by simp) hrl A7 (fun i x q b hxi hdr hlt hml hinv hnext=>?_) (fun b hinv=>by cases hinv);have hcm:Gives Tryz.prog 71 [.agg [.str x.head.1,.sl (x.head.2.map V.enc)],.agg [.str f.1,.sl (f.2.map V.enc)]] (.d (.int .i64 (x.head.cmp f))):=by
  have h:=R4 x.head f;rw[o5,o5] at h;exact h
 rw[List.find?_cons] at hinv;by_cases hc:x.head.cmp f=0
 ·have hxf:=(FcV.cmp_lin.zero _ _).1 hc
  rw[hc] at hcm;refine rS_ Tryz.func62 ?_;simp only[go_sem,seval,hlt,d9 hxi,M8]
  repeat' (first|refine hcm.calls rfl ?_<;>try simp only[go_sem,seval,hlt,d9 hxi,M8]|fail)
  refine AW.rng x.pos [0,3,4,5,7,20,21,22,32,33] 34 32 (fun b:Bool=>[(8,.d (.bool b))]) (fun H _=>H) (fun s b=>(b && s.all fun k=>decide (k∈stg rs j))=x.pos.all fun k=>decide (k∈stg rs j)) true rfl (by simp) (by simp) A7 (fun i2 y s b hyi hds hl2 hm2 hinv2 hnext2=>?_) (fun b hinv2=>?_)
  ·have hhy:=hhf y
   rw[f_] at hinv2;cases b with
   | false =>
    refine rS_ Tryz.func62 ?_;simp only[go_sem,seval,hl2,d9 hyi,o5,w1,n2,d9 hat]
    repeat' (first|simp(disch:=omega) only[l6]|fail)
    refine hnext2 false _ (by simpa using hinv2) A7
   | true =>
    refine rS_ Tryz.func62 ?_;simp only[go_sem,seval,hl2,d9 hyi,o5,w1,n2,d9 hat]
    repeat' (first|simp(disch:=omega) only[l6]|refine hhy.callQ rfl ?_<;>try simp only[go_sem,seval,hl2,d9 hyi,o5,w1,n2,d9 hat]|fail)
    refine hnext2 (decide (y∈stg rs j)) _ (by rw[<-hinv2];simp) A7
  ·rw[g_,Bool.and_true] at hinv2
   cases b with
   | true =>
    have hP:rlP rs f x=true:=by unfold rlP;rw[hN1,<-hinv2,hxf];simp
    rw[hP] at hinv;obtain rfl:=Option.some.inj hinv;refine rS_ Tryz.func62 ?_;simp only[go_sem,seval,M8]
    repeat' (first|exact(by rw[<-hRE,M8])|fail)
   | false =>
    have hP:rlP rs f x=false:=by unfold rlP;rw[hN1,<-hinv2];simp
    rw[hP] at hinv;refine rS_ Tryz.func62 ?_;simp only[go_sem,seval]
    repeat' (first|simp(disch:=omega) only[l6]|fail)
    refine hnext () _ hinv A7
 ·have hP:rlP rs f x=false:=by
   unfold rlP;have:¬x.head=f:=fun e=>hc ((FcV.cmp_lin.zero _ _).2 e);simp[this]
  rw[hP] at hinv;refine rS_ Tryz.func62 ?_;simp only[go_sem,seval,hlt,d9 hxi,M8,hc]
  repeat' (first|refine E8 ?_ ?_<;>intro hq<;>try simp only[go_sem,seval,hlt,d9 hxi,M8,hc,hq]|simp(disch:=omega) only[l6]|refine hcm.calls rfl ?_<;>try simp only[go_sem,seval,hlt,d9 hxi,M8,hc]|fail)
  all_goals first | exact absurd (by assumption) hc | skip
  refine hnext () _ hinv A7
theorem bF6 (rs:List RV) (hr:rs.length<=2000) (f:FcV) (hin:f∈stg rs (top rs)) (r:RV) (hrl:rlF rs f=some r):ACalls Tryz.prog 62 [.ptr 0 0,.d (.agg (fcE f))] [xO rs (.d .any)] (fun c H'=>c=.d (.agg (rvE r))/\H'=[xO rs (.d .any)]):=by
 have hmx:maxLen=9223372036854775807:=rfl;have t1:=(Y7 rs).1;have hh:=aa2 rs f (by omega);obtain⟨j,h1,h2,h3,h4,h5⟩:=J7 hin;have hj1:((j+1:Nat):Int)=(j:Int)+1:=by omega
 rw[h1,hj1,o5] at hh;rw[bJ0] at hrl;have hN1:hN rs f - 1=j:=by omega
 have hat:=as8 rs (i:=j) (m:=top rs+1) (by omega);have hsl:=af8 rs j;have hhf:∀k:FcV,Gives Tryz.prog 60 [.sl ((stg rs j).map fcE),.agg [.str k.1,.sl (k.2.map V.enc)]] (.d (.bool (decide (k∈stg rs j)))):=fun k=>by
  have h:=Y4 (stg rs j) k (by omega) (Y8 rs j);rw[o5] at h;exact h
 have w1:IntKind.i64.wrap ((j:Int)+1 - 1)=(j:Int):=by rw[l6 (by omega) (by omega)];omega
 have n2:(j:Int)<(top rs:Int)+1:=by omega
 unfold xO;obtain⟨RE,hRE⟩:∃y,rvE r=y:=⟨_,rfl⟩;rw[o5,hRE];refine aE_ Tryz.func62 ?_;refine rS_ Tryz.func62 ?_;simp only[go_sem,seval]
 repeat' (first|refine hh.callQ rfl ?_<;>try simp only[go_sem,seval]|fail)
 refine AW.rng rs [0,3,4,5,20,21] 22 20 (fun _:Unit=>[]) (fun H _=>H) (fun q _=>q.find? (rlP rs f)=some r) () rfl (by simp) hrl A7 (fun i x q b hxi hdr hlt hml hinv hnext=>?_) (fun b hinv=>by cases hinv);have hcm:Gives Tryz.prog 71 [.agg [.str x.head.1,.sl (x.head.2.map V.enc)],.agg [.str f.1,.sl (f.2.map V.enc)]] (.d (.int .i64 (x.head.cmp f))):=by
  have h:=R4 x.head f;rw[o5,o5] at h;exact h
 rw[List.find?_cons] at hinv;by_cases hc:x.head.cmp f=0
 ·have hxf:=(FcV.cmp_lin.zero _ _).1 hc
  rw[hc] at hcm;refine rS_ Tryz.func62 ?_;simp only[go_sem,seval,hlt,d9 hxi,M8]
  repeat' (first|refine hcm.calls rfl ?_<;>try simp only[go_sem,seval,hlt,d9 hxi,M8]|fail)
  refine AW.rng x.pos [0,3,4,5,7,20,21,22,32,33] 34 32 (fun b:Bool=>[(8,.d (.bool b))]) (fun H _=>H) (fun s b=>(b && s.all fun k=>decide (k∈stg rs j))=x.pos.all fun k=>decide (k∈stg rs j)) true rfl (by simp) (by simp) A7 (fun i2 y s b hyi hds hl2 hm2 hinv2 hnext2=>?_) (fun b hinv2=>?_)
  ·have hhy:=hhf y
   rw[f_] at hinv2;cases b with
   | false =>
    refine rS_ Tryz.func62 ?_;simp only[go_sem,seval,hl2,d9 hyi,o5,w1,n2,d9 hat]
    repeat' (first|simp(disch:=omega) only[l6]|fail)
    refine hnext2 false _ (by simpa using hinv2) A7
   | true =>
    refine rS_ Tryz.func62 ?_;simp only[go_sem,seval,hl2,d9 hyi,o5,w1,n2,d9 hat]
    repeat' (first|simp(disch:=omega) only[l6]|refine hhy.callQ rfl ?_<;>try simp only[go_sem,seval,hl2,d9 hyi,o5,w1,n2,d9 hat]|fail)
    refine hnext2 (decide (y∈stg rs j)) _ (by rw[<-hinv2];simp) A7
  ·rw[g_,Bool.and_true] at hinv2
   cases b with
   | true =>
    have hP:rlP rs f x=true:=by unfold rlP;rw[hN1,<-hinv2,hxf];simp
    rw[hP] at hinv;obtain rfl:=Option.some.inj hinv;refine rS_ Tryz.func62 ?_;simp only[go_sem,seval,M8]
    repeat' (first|exact(by rw[<-hRE,M8])|fail)
   | false =>
    have hP:rlP rs f x=false:=by unfold rlP;rw[hN1,<-hinv2];simp
    rw[hP] at hinv;refine rS_ Tryz.func62 ?_;simp only[go_sem,seval]
    repeat' (first|simp(disch:=omega) only[l6]|fail)
    refine hnext () _ hinv A7
 ·have hP:rlP rs f x=false:=by
   unfold rlP;have:¬x.head=f:=fun e=>hc ((FcV.cmp_lin.zero _ _).2 e);simp[this]
  rw[hP] at hinv;refine rS_ Tryz.func62 ?_;simp only[go_sem,seval,hlt,d9 hxi,M8,hc]
  repeat' (first|refine E8 ?_ ?_<;>intro hq<;>try simp only[go_sem,seval,hlt,d9 hxi,M8,hc,hq]|simp(disch:=omega) only[l6]|refine hcm.calls rfl ?_<;>try simp only[go_sem,seval,hlt,d9 hxi,M8,hc]|fail)
  all_goals first | exact absurd (by assumption) hc | skip
  refine hnext () _ hinv A7
theorem bW8 (rs:List RV) (hr:rs.length<=2000) (hv:cf4 rs) (hgd:∀f,f∈stg rs (top rs)->f.good):∀(n:Nat) (f:FcV) (es:List (D×D)),f∈stg rs (top rs)->hN rs f<=n->MI rs es->ACalls Tryz.prog 32 [.ptr 0 0,.d (.agg (fcE f))] [xO rs (.map 1),.map true es,af5] (fun c H'=>c=.d (.int .i64 (szF rs f))/\∃es',MI rs es'/\H'=[xO rs (.map 1),.map true es',af5]):=by
 intro n;induction n with
 | zero=>intro f es hf h;obtain⟨j,_,h2,_⟩:=J7 hf;omega
 | succ n ih =>
  intro f es hf hn hm;have hmx:maxLen=9223372036854775807:=rfl;obtain⟨r,r1,r2,r3,r4⟩:=Z6 hf;have hgf:=bQ5 (hgd f hf);have hft:=ak2 f.fc hgf;have hfi:=bQ9 rs hr es f hf r r1;have hsz:=bM6 hf r1;have hset:=fun es' (h:MI rs es')=>cd0 h hgd hf;have hmf:=hm f hf;have hfE:f.fc.enc=[.str f.1,.sl (f.2.map V.enc)]:=o5 f;have hpl:=(hv r r2).2.2.1;obtain⟨KEY,hKEY⟩:∃x,Fc.txt f.fc=x:=⟨_,rfl⟩;obtain⟨SZ,hSZ⟩:∃x,szF rs f=x:=⟨_,rfl⟩;rw[hKEY] at hft hmf hset;rw[hSZ] at hmf hsz hset;rw[hSZ];rw[hfE] at hft;rw[M8,o5] at hfi;rw[o5];unfold xO at hfi ih |-;cases hmg:ah9 es (.str KEY) with
  | some v =>
   obtain rfl:=hmf v hmg;refine aE_ Tryz.func32 ?_;refine rS_ Tryz.func32 ?_;simp only[go_sem,seval,hmg,i_,n_]
   repeat' (first|((first|refine(ACalls.emb hft [2] rfl rfl rfl (by decide) rfl ?_)<;>(rintro c H' ⟨rfl,rfl⟩ _;refine⟨rfl,rfl,?_⟩)|refine⟨by assumption,?_⟩)<;>(try simp only[go_sem,seval,hmg,i_,n_]))|assumption)
  | none =>
   refine aE_ Tryz.func32 ?_;refine rS_ Tryz.func32 ?_;simp only[go_sem,seval,hmg,i_,n_]
   repeat' (first|((first|refine(ACalls.emb hft [2] rfl rfl rfl (by decide) rfl ?_)<;>(rintro c H' ⟨rfl,rfl⟩ _;refine⟨rfl,rfl,?_⟩)|refine(hfi.frame (X:=[_,_]) rfl rfl ?_)<;>(rintro c H' ⟨rfl,rfl⟩ _))<;>(try simp only[go_sem,seval,hmg,i_,n_]))|fail)
   refine AW.rng r.pos [0,5,27,28] 29 27 (fun u:Nat×List (D×D)=>[(8,.d (.int .i64 (u.1:Int)))]) (fun _ u=>[.box [.d (.sl (rs.map rvE)),.d (.sl (ay4 rs (top rs+1))),.map 1],.map true u.2,af5,.box [.d (.str f.1),.d (.sl (f.2.map V.enc))]]) (fun s u=>u.1<=201/\MI rs u.2/\s.foldl (fun a k=>min (a+szF rs k) 201) u.1=SZ/\∀k,k∈s->k∈r.pos) (1,es) rfl (by simp) ⟨by omega,hm,hsz.symm,fun k h=>h⟩ A7 (fun i x s u hxi hdr hlt hml hinv hnext=>?_) (fun u hinv=>?_)
   ·obtain⟨a,es2⟩:=u
    obtain⟨i1,i2,i3,i4⟩:=hinv;dsimp only at i1 i2 i3 hnext |-;have hx:=r4 x (i4 x (by simp));have hrec:=ih x es2 hx.1 (by omega) i2;have hs2:=aY0 rs x;rw[o5] at hrec;rw[List.foldl_cons] at i3;have wa:IntKind.i64.wrap ((a:Int)+(szF rs x:Int))=(a:Int)+(szF rs x:Int):=l6 (by omega) (by omega);have hmn:(if (201:Int)<(a:Int)+(szF rs x:Int) then (201:Int) else (a:Int)+(szF rs x:Int))=((min (a+szF rs x) 201:Nat):Int):=by split<;>omega
    generalize szF rs x=sx at *;refine rS_ Tryz.func32 ?_;simp only[go_sem,seval,hlt,d9 hxi,o5]
    repeat' (first|simp(disch:=omega) only[l6]|refine(hrec.frame (X:=[_,_]) rfl rfl ?_)<;>(rintro c H' ⟨rfl,es3,hm3,rfl⟩ _)<;>try simp only[go_sem,seval,hlt,d9 hxi,o5,wa,hmn]|fail)
    refine hnext (min (a+sx) 201,es3) _ ⟨by dsimp only;omega,by assumption,i3,fun k h=>i4 k (by simp[h])⟩ A7
   ·obtain⟨a,es2⟩:=u
    obtain⟨i1,i2,i3,i4⟩:=hinv;dsimp only at i1 i2 i3 |-;rw[List.foldl_nil] at i3;subst i3;refine rS_ Tryz.func32 ?_;simp only[go_sem,seval]
    repeat' (first|exact⟨_,hset es2 i2,rfl⟩|fail)
def buR (t:Pf) (X:O) (c:C) (H:List O):Prop:=∃e B e' B',c=.agg [.d (.str t.rel),.d (.int .i64 t.clause),.own 0 1,.own 1 1]/\H=[.tree 1 4 e (t.values.map Tm.enc) B none,.tree 1 4 e' (t.kids.map Pf.enc) B' none,X]
theorem bR7 (rs:List RV) (hr:rs.length<=2000) (hv:cf4 rs):∀(n:Nat) (f:FcV),f∈stg rs (top rs)->hN rs f<=n->ACalls Tryz.prog 33 [.ptr 2 0,.d (.agg (fcE f))] [.hole,.hole,xO rs (.d .any)] (buR (prF rs f) (xO rs (.d .any))):=by
 intro n;induction n with
 | zero=>intro f hf h;obtain⟨j,_,h2,_⟩:=J7 hf;omega
 | succ n ih =>
  intro f hf hn;have hmx:maxLen=9223372036854775807:=rfl;obtain⟨r,r1,r2,r3,r4⟩:=Z6 hf;have hfi:=bF6 rs hr f hf r r1;have hpl:=(hv r r2).2.2.1;have hvl:=(hv r r2).2.2.2;have hcp:=ah4 r.values (by omega);unfold cb7 at hcp;have hvm:(r.values.map V.tm).map Tm.enc=r.values.map V.enc:=by rw[List.map_map];rfl
  rw[br6 hf r1];rw[M8,o5] at hfi;rw[o5];unfold xO at hfi ih |-;refine aE_ Tryz.func33 ?_;refine l9 Tryz.func33 mixed 5 _ _ (by kernel_rfl) ?_;simp only[go_sem,seval,run.eq_1]
  repeat' (first|refine(ACalls.emb hfi [2] rfl rfl rfl (by decide) rfl ?_)<;>(rintro c H' ⟨rfl,rfl⟩ _;refine⟨rfl,rfl,?_⟩)<;>try simp only[go_sem,seval,run.eq_1]|fail)
  refine AW.drawA mixed #[true,true,true,true,true,true,true,true,true,false] [(3,.box [.d (.str f.1),.d (.sl (f.2.map V.enc))]),(5,.box [.d (.str r.head.1),.d (.sl (r.head.2.map V.enc)),.d (.int .i64 r.clause),.d (.sl (r.values.map V.enc)),.d (.sl (r.pos.map fcE)),.d (.sl (r.neg.map fcE))])] [] [0,1,2,3,4,5,8,6,7] [9] (some (8,6,37,[.string ⟨#[]⟩,.int .i64 0,.slice none 0 0,.slice none 0 0])) (by kernel_rfl) cx1 (by simp[D8]) ?_;simp only[go_sem,seval]
  repeat' (first|refine ACalls.fresh (ds:=[.sl (r.values.map V.enc)]) (m:=1) hcp [0] rfl rfl (by simp) (by simp) ?_<;>(rintro c H' ⟨rfl,e1,B1,rfl⟩ _;refine⟨rfl,rfl,?_⟩)<;>try simp only[go_sem,seval]|fail)
  refine AW.adoptTB 6 3 4 37 (by decide) rfl rfl ?_;refine rS_ Tryz.func33 ?_;simp only[go_sem,seval];refine AW.rng r.pos [0,4,6,21,22] 23 21 (fun u:List Pf×(Nat->Prop)=>[]) (fun _ u=>[.tree 1 4 e1 (r.values.map V.enc) B1 none,.hole,.box [.d (.sl (rs.map rvE)),.d (.sl (ay4 rs (top rs+1))),.d .any],.box [.d (.str f.1),.d (.sl (f.2.map V.enc))],.box [.d (.str []),.d (.int .i64 0),.nil0,.nil0],.box [.d (.str r.head.1),.d (.sl (r.head.2.map V.enc)),.d (.int .i64 r.clause),.d (.sl (r.values.map V.enc)),.d (.sl (r.pos.map fcE)),.d (.sl (r.neg.map fcE))],.box [.d (.str f.1),.d (.int .i64 r.clause),.own 0 1,.own 7 u.1.length],.tree u.1.length 4 37 (u.1.map Pf.enc) u.2 none]) (fun s u=>u.1++s.map (prF rs)=r.pos.map (prF rs)/\∀k,k∈s->k∈r.pos) ([],fun _=>False) rfl (by simp) ⟨rfl,fun k h=>h⟩ A7 (fun i x s u hxi hdr hlt hml hinv hnext=>?_) (fun u hinv=>?_)
  ·obtain⟨K,B⟩:=u
   obtain⟨i1,i2⟩:=hinv;dsimp only at i1 hnext |-;have hx:=r4 x (i2 x (by simp));have hrec:=ih x hx.1 (by omega);have hKl:K.length+(s.length+1)=r.pos.length:=by have:=congrArg List.length i1;simpa using this
   unfold buR at hrec;rw[o5] at hrec;refine AW.hole ?_;refine AW.hole ?_;refine l9 Tryz.func33 mixed 9 _ _ (by kernel_rfl) ?_;simp only[go_sem,seval,run.eq_1,hlt,d9 hxi,o5];refine AW.drawA mixed #[true,true,true,true,true,true,true,false,false] [(6,.box [.d (.str f.1),.d (.int .i64 r.clause),.own 0 1,.own 7 K.length]),(10,.box [.d (.str x.1),.d (.sl (x.2.map V.enc))])] [] [0,1,2,3,4,5,6] [7,8] none (by kernel_rfl) trivial (by simp[D8]) ?_;simp only[go_sem,seval]
   repeat' (first|((first|refine(ACalls.emb hrec [8,9,2] rfl rfl rfl (by decide) rfl ?_)<;>(rintro c H' ⟨e2,B2,e3,B3,rfl,rfl⟩ _;refine⟨rfl,rfl,?_⟩)|refine I6 (fun Bz=>?_)|refine⟨sd,?_⟩)<;>(try simp only[go_sem,seval]))|fail)
   refine rS_ Tryz.func33 ?_;simp only[go_sem,seval];try simp(disch:=omega) only[l6]
   refine hnext (K++[prF rs x],Bz) _ ⟨by rw[<-i1];simp,fun k h=>i2 k (by simp[h])⟩ (by refine⟨by simp[mkS,Pf.enc_eq (prF rs x)],by simp[mkS,Pf.enc_eq (prF rs x)],by simp only[mkS,f_,g_,O.refsLt,C.refsLt,C.refsLt1,l7];first | done | rfl | (simp;done),?_⟩;simp[mkS,Abs.get,C.refsLtT,C.refsLt,C.refsLt1])
  ·obtain⟨K,B⟩:=u
   obtain⟨i1,_⟩:=hinv;simp only[s_,h_] at i1;subst i1;refine l9 Tryz.func33 mixed 7 _ _ (by kernel_rfl) ?_;simp only[go_sem,seval,run.eq_1];refine AW.placeB 4 3 7 1 rfl rfl rfl rfl (by decide) ?_;refine rS_ Tryz.func33 ?_;simp only[go_sem,seval]
   repeat' (first|exact⟨_,_,_,_,rfl,by rw[show (Pf.mk f.1 r.clause (r.values.map V.tm) (r.pos.map (prF rs))).values=r.values.map V.tm from rfl,hvm];rfl⟩|fail)
def bX6 (p:Pg) (u:List Tm) (f:Fc):Option Pf:=if p.all false=true/\U3 u=true/\f.args.all M7=true then (match p.gr (u.map Tm.V) with | some rs=>ba3 rs (Fc.toV f) | none=>none) else none
def pvR (o:Option Pf) (c:C) (H:List O):Prop:=match o with
 | some t=>∃e B e' B',c=.tup [.agg [.d (.str t.rel),.d (.int .i64 t.clause),.own 0 1,.own 1 1],.d (.bool true)]/\H=[.tree 1 4 e (t.values.map Tm.enc) B none,.tree 1 4 e' (t.kids.map Pf.enc) B' none,af5]
 | none=>c=.tup [.d (.agg [.str [],.int .i64 0,.sl [],.sl []]),.d (.bool false)]/\H=[.hole,.hole,af5]
theorem bF0 (p:Pg) (u:List Tm) (f:Fc) (hw:wtL p.enc<=1048576) (hwu:wtR (u.map Tm.enc)<=1048576) (hwf:wtL f.enc<=1048576):ACalls Tryz.prog 8 [.d (.agg p.enc),.d (.sl (u.map Tm.enc)),.d (.agg f.enc)] [.hole,.hole,af5] (pvR (bX6 p u f)):=by
 have hpr:=P6 p u hw (ag3 hwu).1 (ag3 hwu).2;have hfa:wtR (f.args.map Tm.enc)<=1048576:=by rw[Fc.enc_eq] at hwf;simp only[wtL,D.wt] at hwf;omega
 have hto:=R9 f.args (fun t ht=>by have:=aD6 (List.mem_map.2 ⟨t,ht,rfl⟩:t.enc∈f.args.map Tm.enc);omega);obtain⟨K,hK⟩:∃K,bX6 p u f=K:=⟨_,rfl⟩;rw[hK];unfold bX6 at hK;unfold bz7 at hpr;by_cases h12:p.all false=true/\U3 u=true
 ·rw[if_pos h12] at hpr
  obtain⟨hu,he⟩:=Uni.of h12.2;cases hg:p.gr (u.map Tm.V) with
  | none =>
   rw[hg] at hK;have hK':K=none:=by rw[<-hK];split<;>rfl
   rw[hg,L8] at hpr;rw[hK',Fc.enc_eq];refine aE_ Tryz.func8 ?_;refine rS_ Tryz.func8 ?_;simp only[go_sem,seval]
   repeat' (first|exact⟨rfl,rfl⟩|refine hpr.calls rfl ?_<;>try simp only[go_sem,seval]|fail)
  | some rs =>
   rw[hg,ak4] at hpr;by_cases hq:f.args.all M7=true
   ·rw[if_pos ⟨h12.1,h12.2,hq⟩,hg] at hK
    dsimp only at hK;rw[hq] at hto;obtain⟨_,hrl⟩:=aw2 hg;have hpO:=cc1 h12.1;have hgd:=fun f hf=>bA9 hpO hu hg (k:=top rs) f hf;have hrr:=bQ6 hpO hu hg;have hst:=as9 rs (by omega) (aS6 h12.1 hg);have hht:=aa2 rs (Fc.toV f) (by omega);have hfe:=aX8 hq;have hfe2:=hfe;rw[Fc.enc_eq] at hfe2;rw[<-hfe,Fc.enc_eq] at hht;rw[Fc.enc_eq];by_cases hin:Fc.toV f∈stg rs (top rs)
    ·have hsz:=bW8 rs hrl hrr hgd (hN rs (Fc.toV f)) (Fc.toV f) [] hin (u_ _) (cd1 rs)
     have hbu:=bR7 rs hrl hrr (hN rs (Fc.toV f)) (Fc.toV f) hin (u_ _);rw[<-hfe2] at hsz hbu;obtain⟨j,h1,_⟩:=J7 hin;rw[h1] at hht;have hj1:((j+1:Nat):Int)=(j:Int)+1:=by omega
     rw[hj1] at hht;have n0:¬(j:Int)+1<0:=by omega
     have hsf:=aY0 rs (Fc.toV f);unfold xO at hsz hbu;have hmv:∀es2,List.map (O.rn fun i=>[7,6,2].getD i 0) [.box [.d (.sl (rs.map rvE)),.d (.sl (ay4 rs (top rs+1))),.map 1],.map true es2,af5]=[.box [.d (.sl (rs.map rvE)),.d (.sl (ay4 rs (top rs+1))),.map 6],.map true es2,af5]:=fun _=>rfl;generalize ay4 rs (top rs+1)=SD at *;generalize szF rs (Fc.toV f)=sz at *;refine aE_ Tryz.func8 ?_;refine l9 Tryz.func8 mixed 13 _ _ (by kernel_rfl) ?_;simp only[go_sem,seval,run.eq_1]
     repeat' (first|((first|refine hpr.calls rfl ?_|refine hto.calls rfl ?_|refine hst.calls rfl ?_)<;>(try simp only[go_sem,seval,run.eq_1]))|fail)
     by_cases hcn:(prF rs (Fc.toV f)).cnt<=200
     ·have n3:¬(200:Int)<(sz:Int):=by omega
      have hK':K=some (prF rs (Fc.toV f)):=by rw[<-hK];unfold ba3;rw[if_pos ⟨hin,hcn⟩]
      rw[hK'];refine AW.drawA mixed #[true,true,true,true,true,true,true,true,true,true,true,true,true] [(4,.box [.d (.str f.rel),.d (.sl (f.args.map Tm.enc))]),(7,.box [.d (.sl (rs.map rvE)),.d (.sl SD),.map 6])] [] [0,4,1,2,3,5,6,7,8,9,10,11,12] [] none (by kernel_rfl) trivial (by simp[D8]) ?_;simp only[go_sem,seval]
      repeat' (first|((first|refine hht.calls rfl ?_|refine(ACalls.embR hsz [7,6,2] rfl rfl rfl (by decide) rfl ?_)<;>(rintro c H' ⟨rfl,es2,hm2,rfl⟩ _;refine⟨rfl,rfl,?_⟩;rw[hmv es2]))<;>(try simp only[go_sem,seval,n0,n3]))|fail)
      refine AW.anyCell 7 2 rfl rfl ?_;refine rS_ Tryz.func8 ?_;simp only[go_sem,seval,n3]
      repeat' (first|exact⟨_,_,_,_,rfl,rfl⟩|refine(ACalls.emb hbu [0,1,7] rfl rfl rfl (by decide) rfl ?_)<;>(rintro c H' ⟨e1,B1,e2,B2,rfl,rfl⟩ _;refine⟨rfl,rfl,?_⟩)<;>try simp only[go_sem,seval]|fail)
     ·have n3:(200:Int)<(sz:Int):=by omega
      have hK':K=none:=by rw[<-hK];unfold ba3;rw[if_neg (fun h=>hcn h.2)]
      rw[hK'];refine AW.drawA mixed #[true,true,true,true,true,true,true,true,true,true,true,true,true] [(4,.box [.d (.str f.rel),.d (.sl (f.args.map Tm.enc))]),(7,.box [.d (.sl (rs.map rvE)),.d (.sl SD),.map 6])] [] [0,4,1,2,3,5,6,7,8,9,10,11,12] [] none (by kernel_rfl) trivial (by simp[D8]) ?_;simp only[go_sem,seval]
      repeat' (first|((first|refine hht.calls rfl ?_|refine(ACalls.embR hsz [7,6,2] rfl rfl rfl (by decide) rfl ?_)<;>(rintro c H' ⟨rfl,es2,hm2,rfl⟩ _;refine⟨rfl,rfl,?_⟩;rw[hmv es2]))<;>(try simp only[go_sem,seval,n0,n3]))|fail)
      refine rS_ Tryz.func8 ?_;simp only[go_sem,seval,n0,n3]
      repeat' (first|exact⟨rfl,rfl⟩|fail)
    ·rw[bQ0 hin] at hht
     have hK':K=none:=by rw[<-hK];unfold ba3;rw[if_neg (fun h=>hin h.1)]
     rw[hK'];generalize ay4 rs (top rs+1)=SD at *;refine aE_ Tryz.func8 ?_;refine rS_ Tryz.func8 ?_;simp only[go_sem,seval]
     repeat' (first|exact⟨rfl,rfl⟩|((first|refine hpr.calls rfl ?_|refine hto.calls rfl ?_|refine hst.calls rfl ?_|refine hht.callQ rfl ?_)<;>(try simp only[go_sem,seval]))|fail)
   ·rw[if_neg (fun h=>hq h.2.2)] at hK
    simp only[r_] at hq;rw[hq] at hto;rw[<-hK,Fc.enc_eq];refine aE_ Tryz.func8 ?_;refine rS_ Tryz.func8 ?_;simp only[go_sem,seval]
    repeat' (first|exact⟨rfl,rfl⟩|((first|refine hpr.calls rfl ?_|refine hto.calls rfl ?_)<;>(try simp only[go_sem,seval]))|fail)
 ·rw[if_neg h12,L8] at hpr
  rw[if_neg (fun h=>h12 ⟨h.1,h.2.1⟩)] at hK;rw[<-hK,Fc.enc_eq];refine aE_ Tryz.func8 ?_;refine rS_ Tryz.func8 ?_;simp only[go_sem,seval]
  repeat' (first|exact⟨rfl,rfl⟩|refine hpr.calls rfl ?_<;>try simp only[go_sem,seval]|fail)
theorem cz7 {p:Pg} (hp:M9 p=true) {x:Rl} (hx:x∈p.rels):J6 x.name=true:=by
 unfold M9 at hp;rw[d_] at hp;obtain⟨i,h⟩:=Z8 hp.2 x hx;unfold Pg.relOk at h;simp only[d_] at h;exact h.1.1.1.1.1.1.2
theorem bC8 {s:List UInt8} (h:J6 s=true):s.length<=12:=by
 have:D7 s=true:=by unfold J6 at h;simp at h;exact h.2
 have:=H5 this;omega
theorem Made.rul {p:Pg} {u:List V} (h:Made p u):cf4 (Pg.gnd u p.rels)/\(∀r,r∈Pg.gnd u p.rels->r.head.1.length<=12/\r.values.length<=12/\∀v,v∈r.values->v∈u)/\∀r,r∈Pg.gnd u p.rels->∃x,x∈p.rels/\r.head.1=x.name/\(r.head.2.length:Int)=x.arity/\∀v,v∈r.head.2->v∈u:=by
 have key:∀r,r∈Pg.gnd u p.rels->∃x,x∈p.rels/\r.head.1=x.name/\(r.head.2.length:Int)=x.arity/\(∀v,v∈r.values->v∈u)/\(∀v,v∈r.head.2->v∈u)/\r.values.length<=12/\r.pos.length<=60:=fun r hr=>by
  obtain⟨x,hx,c,hc,j,w,_,rfl⟩:=ag8 _ hr;obtain⟨z1,z2,z3,z4⟩:=Pg.dims h.ok hx;have hvl:=M0 u (x.arity+x.locals).toNat w;have hcl:=(Gl.clsS_row x.body c hc).1;have hsh:=Pg.body_inst h.ok hx (m:=(x.arity+x.locals).toNat) (by omega);have hct:=hsh.2.2.2.2.2;have hp:=aC9 (o7 (E5 u (x.arity+x.locals).toNat w)) c;have hm:=L9 h.uni.pos (x.arity+x.locals).toNat w;refine⟨x,hx,rfl,?_,hm,fun v hv=>hm v (List.mem_of_mem_take hv),by show (E5 u _ w).length<=12;omega,by show (x9 _ c).length<=60;omega⟩;show (((E5 u (x.arity+x.locals).toNat w).take x.arity.toNat).length:Int)=_;rw[List.length_take];omega
 have hn:∀r,r∈Pg.gnd u p.rels->r.head.1.length<=12:=fun r hr=>by
  obtain⟨x,hx,e,_⟩:=key r hr;rw[e];exact bC8 (cz7 h.ok hx)
 refine⟨fun r hr=>?_,fun r hr=>?_,fun r hr=>?_⟩
 ·obtain⟨x,hx,_,_,a,_,b,c⟩:=key r hr
  exact⟨uniwts h.uni _ a b,hn r hr,c,b⟩
 ·obtain⟨x,hx,_,_,a,_,b,c⟩:=key r hr
  exact⟨hn r hr,b,a⟩
 ·obtain⟨x,hx,a,b,_,c,_⟩:=key r hr
  exact⟨x,hx,a,b,c⟩
set_option maxHeartbeats 4000000
theorem aV9 (rel:List UInt8) (vs:List V) (hl:vs.length<=100000000):ACalls Tryz.prog 34 [.d (.agg [.str rel,.sl (vs.map V.enc)])] [.hole] (fun c H'=>c=.agg [.d (.str rel),.own 0 1]/\∃e B,H'=[.tree 1 4 e (vs.map V.enc) B none]):=by
 have hct:=ah4 vs hl;unfold cb7 at hct;refine aE_ Tryz.func34 ?_;refine l9 Tryz.func34 mixed 3 _ _ (by kernel_rfl) ?_;simp only[go_sem,seval,run.eq_1];refine AW.drawA mixed #[true,true,true,true,true,true,false] [(1,.box [.d (.str rel),.d (.sl (vs.map V.enc))])] [] [0,1,2,3,4,5] [6] none (by kernel_rfl) trivial (by simp[D8]) ?_;simp only[go_sem,seval]
 repeat' (first|refine ACalls.fresh (ds:=[.sl (vs.map V.enc)]) (m:=1) hct [0] rfl rfl (by simp) (by simp) ?_<;>(rintro c H' ⟨rfl,e1,B1,rfl⟩ _;refine⟨rfl,rfl,?_⟩)<;>try simp only[go_sem,seval]|fail)
 refine rS_ Tryz.func34 ?_;simp only[go_sem,seval]
 repeat' (first|exact⟨_,_,rfl⟩|fail)
def pfR (p:Pg) (t:Pf):List UInt8:=if p.prfOk t=true then t.rel else []
def pfA (p:Pg) (t:Pf):List Tm:=if p.prfOk t=true then (p.headV t.rel t.values).2.map V.tm else []
theorem br3 {p:Pg} {t:Pf} (h:p.prfOk t=true):M9 p=true/\p.prf t=true:=by
 unfold Pg.prfOk at h;simp only[d_] at h;exact⟨h.1,h.2.2⟩
theorem bQ1 {p:Pg} {t:Pf} (h:p.prf t=true):(p.headV t.rel t.values).1=t.rel/\(p.headV t.rel t.values).2.length<=t.values.length/\wtR (((p.headV t.rel t.values).2.map V.tm).map Tm.enc)<=wtR (t.values.map Tm.enc):=by
 obtain⟨_,r,_,_,hg,hh⟩:=Pg.prf_head h;rw[hh];have htake:∀(l:List Tm) (k:Nat),wtR ((l.take k).map Tm.enc)<=wtR (l.map Tm.enc):=by
  intro l;induction l with
  | nil=>intro k;simp
  | cons x r ih=>intro k;cases k with
   | zero=>simp[wtR]
   | succ k=>have:=ih k;simp only[List.take_succ_cons,o_,wtR];omega
 refine⟨rfl,by simp;omega,?_⟩;dsimp only;rw[List.map_take,<-ac0 hg];exact htake _ _
theorem aO0 (p:Pg) (t:Pf) (hwp:wtL p.enc<=1048576) (hw:wtL t.enc<=1048576):ACalls Tryz.prog 9 [.d (.agg p.enc),.d (.agg t.enc)] [.hole] (fun c H'=>c=.tup [.agg [.d (.str (pfR p t)),.own 0 1],.d (.bool (p.prfOk t))]/\∃e B,H'=[.tree 1 4 e ((pfA p t).map Tm.enc) B none]):=by
 have hok:=ag7 p t hwp hw;unfold pfR pfA;by_cases h:p.prfOk t=true
 ·obtain⟨h1,h2⟩:=br3 h
  obtain⟨e1,e2,e3⟩:=bQ1 h2;have hf:=ao0 p h1 t h2;have hvl:t.values.length<=1048576:=by
   have h2:=af7 (t.values.map Tm.enc) 0;simp only[bo6,e_] at h2;simp only[Pf.enc_eq t,wtL,D.wt] at hw;omega
  have hc:=aV9 t.rel (p.headV t.rel t.values).2 (by omega);have hfe:(FcV.fc (p.headV t.rel t.values)).enc=[.str t.rel,.sl ((p.headV t.rel t.values).2.map V.enc)]:=by rw[Fc.enc_eq];simp only[FcV.fc,e1,D5]
  rw[hfe] at hf;rw[h] at hok |-;simp only[if_true,D5];refine aE_ Tryz.func9 ?_;refine rS_ Tryz.func9 ?_;simp only[go_sem,seval]
  repeat' (first|exact⟨_,_,rfl⟩|((first|refine hok.calls rfl ?_|refine hf.calls rfl ?_|refine ACalls.fresh (ds:=[.agg [.str t.rel,.sl ((p.headV t.rel t.values).2.map V.enc)]]) (m:=1) hc [0] rfl rfl (by simp) (by simp) ?_<;>(rintro c H' ⟨rfl,e1,B1,rfl⟩ _;refine⟨rfl,rfl,?_⟩))<;>(try simp only[go_sem,seval]))|fail)
 ·simp only[r_] at h
  rw[h] at hok |-;simp only[Bool.false_eq_true,if_false];refine aE_ Tryz.func9 ?_;refine l9 Tryz.func9 mixed 8 _ _ (by kernel_rfl) ?_;simp only[go_sem,seval,run.eq_1]
  repeat' (first|refine hok.calls rfl ?_<;>try simp only[go_sem,seval,run.eq_1]|fail)
  refine AW.adoptTB 3 1 4 47 (by decide) rfl rfl ?_;refine AW.placeB 3 1 4 0 rfl rfl rfl rfl (by decide) ?_;refine rS_ Tryz.func9 ?_;simp only[go_sem,seval]
  repeat' (first|exact⟨_,_,rfl⟩|fail)
set_option maxHeartbeats 8000000
theorem aG8 (p:Pg) (t:Pf) (hwp:wtL p.enc<=1048576) (hw:wtL t.enc<=1048576):Gives Tryz.prog 9 [.agg p.enc,.agg t.enc] (.tup [.d (.agg [.str (pfR p t),.sl ((pfA p t).map Tm.enc)]),.d (.bool (p.prfOk t))]):=
 ACalls.frozen (ds:=[.agg p.enc,.agg t.enc]) (m:=1) (aO0 p t hwp hw) (fun c H' ⟨h1,e,B,h2⟩ _=>by subst h1 h2;rfl)
theorem aw0 (t:Pf) (hw:wtL t.enc<=1048576) (hc:t.cnt<=200):Gives Tryz.prog 12 [.agg t.enc] (.d (.int .i64 (t.hei:Int))):=by
 have hx:=aM3 t hw 0 (by omega) (by omega);have hs:=Pf.mea_hei t 0 (by omega) (by omega);have hz:=(Pf.mea_spec t 0).2.2.2.2.1 (by omega);rw[hs,hz] at hx;have n1:¬(200:Int)<0+(t.cnt:Int):=by omega
 have n2:¬(200:Int)<(t.cnt:Int):=by omega
 generalize t.hei=h at *;generalize t.cnt=c at *;refine aE_ Tryz.func12 ?_;refine rS_ Tryz.func12 ?_;simp only[go_sem,seval]
 repeat' (first|((refine hx.at1 rfl 1 rfl rfl ?_<;>(rintro v o' ⟨rfl,ho⟩;cases ho;refine⟨rfl,rfl,?_⟩))<;>(try simp only[go_sem,seval,C.at1,n1,n2]))|fail)
 all_goals first | exfalso;omega | skip
theorem bY0 {p:Pg} (h:p.all false=true):∀x,x∈p.rels->∀c,c∈x.body.clsS->∀g,g∈c->¬g.kind=10:=fun x hx c hc g hgc=>by
 unfold Pg.all at h;rw[d_] at h;have ho:=l_.1 h.2 x hx;unfold Gl.only at ho;have h1:=l_.1 ho g (aH7 hc hgc);unfold Gl.onlyK at h1;simp only[d_,decide_eq_true_eq] at h1;simpa using h1.1
structure PfOf (p:Pg) (u:List V) (f:FcV) (t:Pf):Prop where
 ok:p.prfOk t=true
 hd:p.headV t.rel t.values=f
 hei:(t.hei:Int)=hgt (Pg.gnd u p.rels) f
 inU:t.inU u
 cnt:t.cnt<=200
theorem bX5 {p:Pg} {u:List V} (hM:Made p u) (ha:p.all false=true) {f:FcV} {t:Pf} (h:ba3 (Pg.gnd u p.rels) f=some t):PfOf p u f t:=by
 unfold ba3 at h;split at h
 ·rename_i h1
  obtain rfl:=Option.some.inj h;obtain⟨a,b,c,d⟩:=bN6 hM.ok hM.uni hM.gr (bY0 ha) hM.rul.2.1 h1.1;exact⟨by unfold Pg.prfOk;rw[hM.ok,b,decide_eq_true h1.2];rfl,c,a,d,h1.2⟩
 ·cases h
theorem bN4 {p:Pg} {u:List V} (hM:Made p u) (hmd:p.made 1) {f:FcV} (hf:f∈stg (Pg.gnd u p.rels) (top (Pg.gnd u p.rels))) (h6:hgt (Pg.gnd u p.rels) f<=6):∃t,ba3 (Pg.gnd u p.rels) f=some t:=by
 obtain⟨j,h1,h2,h3,_⟩:=J7 hf;have h7:hN (Pg.gnd u p.rels) f<=6:=by omega
 have a:=br5 (rs:=Pg.gnd u p.rels) (fun r hr=>by
  obtain⟨x,hx,i,c,w,hc,_,rfl⟩:=bv4 _ hr;have:=Pg.made_nc hmd x hx c (b_ hc);show (x9 _ c).length<=2;rw[bx8];exact this) (top (Pg.gnd u p.rels)) f hf (by omega)
 have b:2 ^ hN (Pg.gnd u p.rels) f<=2 ^ 6:=Nat.pow_le_pow_right (by decide) h7;refine⟨prF (Pg.gnd u p.rels) f,?_⟩;exact if_pos ⟨hf,by unfold prF;omega⟩
theorem bM9 {p:Pg} {u:List V} (hM:Made p u) {k:Nat} {f:FcV} (hf:f∈stg (Pg.gnd u p.rels) k):bm5 p u f:=by
 cases k with
 | zero=>simp[stg] at hf
 | succ k=>exact hM.fitH hf
theorem br1 {rs:List RV} {f:FcV} {t:Pf} (h:ba3 rs f=some t):f∈stg rs (top rs):=by
 unfold ba3 at h;split at h
 ·rename_i h1;exact h1.1
 ·cases h
theorem Pf.hei_cnt (t:Pf) (h:t.cnt<=200):t.hei<=t.cnt:=by
 have a:=Pf.mea_hei t 0 (by omega) (by omega);have b:=(Pf.mea_spec t 0).2.1;omega
theorem bM1 {u:List V}:∀t:Pf,t.inU u->∀w,w∈t.trms->∃x,x∈u/\w=x.tm:=by
 intro t;induction t using Pf.ind' with
 | h t ih =>
  intro hin w hw;obtain⟨_,_,a3,a4⟩:=Pf.inU_iff.1 hin;rw[Pf.trms_eq] at hw;rcases v_.1 hw with hw | hw
  ·exact a3 w hw
  ·have k2:∀l:List Pf,(∀k,k∈l->k∈t.kids)->w∈Pf.trmss l->∃x,x∈u/\w=x.tm:=fun l=>by
    induction l with
    | nil=>intro _ h;simp[Pf.trmss] at h
    | cons k r ihl =>
     intro hl h;rw[Pf.trmss] at h;rcases v_.1 h with h | h
     ·exact ih k (hl k (by simp)) (a4 k (hl k (by simp))) w h
     ·exact ihl (fun y hy=>hl y (by simp[hy])) h
   exact k2 t.kids (fun _ h=>h) hw
theorem bB4 {p:Pg} {u:List V} (hM:Made p u) {t:Pf} (hi:t.inU u):∀v,v∈Pf.terms p t->v∈u:=fun v hv=>by
 unfold Pf.terms at hv;split at hv
 ·rw[at6 V.cmp_lin] at hv
  obtain⟨w,hw,rfl⟩:=List.mem_map.1 hv;obtain⟨x,hx,rfl⟩:=bM1 t hi w hw;rw[bT0 (hM.uni.ok x hx)];exact hx
 ·cases hv
theorem av9 {p:Pg} {u:List V} (hM:Made p u) (ha:p.all false=true) {f:FcV} (hf:bm5 p u f):ACalls Tryz.prog 8 [.d (.agg p.enc),.d (.sl (u.map V.enc)),.d (.agg (fcE f))] [.hole,.hole,af5] (pvR (ba3 (Pg.gnd u p.rels) f)):=by
 obtain⟨h1,h2,h3,h4⟩:=hM.fit hf;have h:=bF0 p (u.map V.tm) f.fc hM.wp hM.wu (by unfold fcE at h4;omega);have e:bX6 p (u.map V.tm) f.fc=ba3 (Pg.gnd u p.rels) f:=by
  unfold bX6;rw[if_pos ⟨ha,aX5 hM.uni,h1⟩,ce9 hM.uni.ok,hM.gr];dsimp only;rw[h3]
 rw[e,D5] at h;exact h
theorem bi9 {p:Pg} {u:List V} (hM:Made p u) {t:Pf} (hi:t.inU u) (hw:wtL t.enc<=1048576):∃L:List V,Gives Tryz.prog 14 [.agg p.enc,.agg t.enc] (.d (.sl (L.map V.enc)))/\∀v,v∈L->v∈u:=
 ⟨Pf.terms p t,ACalls.frozen (ds:=[.agg p.enc,.agg t.enc]) (m:=1) (aG7 p t hM.wp hw) (fun c H' ⟨h1,e,B,h2⟩ _=>by subst h1 h2;rfl),bB4 hM hi⟩
theorem seen {x w:V} {r:List V} (h:false=true\/w∈x :: r):decide (x=w)=true\/w∈r:=by
 rcases h with h | h
 ·cases h
 ·rcases List.mem_cons.1 h with h | h
  ·exact .inl (decide_eq_true h.symm)
  ·exact .inr h
theorem aT5 (B:List UInt8):ACalls Tryz.prog 3 [.d (.sl (bytesD B))] [af5] (fun c H'=>c=.d (.bool true)/\H'=[af5]):=by
 have hmx:maxLen=9223372036854775807:=rfl;refine aE_ Tryz.func3 ?_;refine l9 Tryz.func3 mixed 10 _ _ (by kernel_rfl) ?_;simp only[go_sem,seval,run.eq_1,y5];refine bH0 (fun hq=>?_) (fun hq=>?_)
 ·simp only[go_sem,seval]
 simp only[decide_eq_false_iff_not,Int.not_lt] at hq;have hB:B.length<=1048576:=by omega
 clear hq;have hmk:=ax8 B hB;have hmu:=az4 B hB 60 2 (by decide) (by decide) (by decide);simp only[go_sem,seval,y5];refine ACalls.emb hmk [] rfl rfl rfl (by decide) rfl ?_;rintro c H' ⟨p,rfl,rfl,hmd⟩ _;refine⟨rfl,rfl,?_⟩;have hf:=Pg.made_fine hmd;have hgs:=Pg.made_gsz hmd;have hPe:=Pg.enc_eq p;simp only[go_sem,seval,hPe,run.eq_1];refine rS_ Tryz.func3 ?_;simp only[go_sem,seval]
 repeat' (first|refine(ACalls.emb hmu [] rfl rfl rfl (by decide) rfl ?_)<;>(rintro c H' ⟨u,rfl,rfl,hu,hul,hud⟩ _;refine⟨rfl,rfl,?_⟩)<;>try simp only[go_sem,seval]|fail)
 have hM:=Made.of hf hgs hu hul hud;have ha:=hf.nots (by decide);have hmF:=aX0 B hB 80 (by decide) hM;have hlm:=bY7 hM ha;obtain⟨M,hMe⟩:∃M,stg (Pg.gnd u p.rels) (top (Pg.gnd u p.rels))=M:=⟨_,rfl⟩;rw[hMe,hPe] at hlm;rw[hPe] at hmF
 repeat' (first|refine hlm.calls rfl ?_<;>try simp only[go_sem,seval]|fail)
 refine AW.rng M [0,3,4,5,40,41] 42 40 (fun _:Unit=>[]) (fun H _=>H) (fun s _=>∀f,f∈s->f∈M) () rfl (by simp) (fun _ h=>h) A7 (fun i f s v hxi hdr hlt hm hinv hnext=>?_) (fun v hinv=>?_)
 ·have hfM:=hinv f (by simp)
  have hnx:∀f,f∈s->f∈M:=fun k hk=>hinv k (by simp[hk]);by_cases h4:(4:Int)<=(i:Int)
  ·refine rS_ Tryz.func3 ?_
   simp only[go_sem,seval,hlt,d9 hxi,o5,h4]
   repeat' (first|refine(ACalls.emb hmF [] rfl rfl rfl (by decide) rfl ?_)<;>(rintro c H' ⟨F,rfl,rfl,hFl,hFu⟩ _;refine⟨rfl,rfl,?_⟩)<;>try simp only[go_sem,seval]|fail)
   refine AW.rng F [3,4,5,128,129] 130 128 (fun _:Unit=>[]) (fun H _=>H) (fun s _=>∀f,f∈s->bm5 p u f) () rfl (by simp) hFu A7 (fun j g r v hxj hdj hlj hmj hinvj hnextj=>?_) (fun v hinvj=>?_)
   ·have hgu:=hinvj g (by simp)
    have hnx:∀f,f∈r->bm5 p u f:=fun f hf=>hinvj f (by simp[hf]);by_cases j3:(j:Int)<3
    ·have hpv:=av9 hM ha hgu
     have hin:=bK2 M g;rw[hPe,o5] at hpv;rw[o5] at hin;refine AW.hole ?_;refine AW.hole ?_;cases ho:ba3 (Pg.gnd u p.rels) g with
     | none =>
      rw[ho] at hpv;unfold pvR at hpv;dsimp only at hpv;refine rS_ Tryz.func3 ?_;simp only[go_sem,seval,hlj,d9 hxj,o5,j3]
      repeat' (first|simp(disch:=omega) only[l6]|refine hnextj () _ hnx A7|refine(ACalls.emb hpv [3,4,0] rfl rfl rfl (by decide) rfl ?_)<;>(rintro c H' ⟨rfl,rfl⟩ _;refine⟨rfl,rfl,?_⟩)<;>try simp only[go_sem,seval,hlj,d9 hxj,o5,j3]|fail)
     | some t =>
      have hgM:=br1 ho;rw[hMe] at hgM;rw[decide_eq_true hgM] at hin;rw[ho] at hpv;unfold pvR at hpv;dsimp only at hpv;refine rS_ Tryz.func3 ?_;simp only[go_sem,seval,hlj,d9 hxj,o5,j3]
      repeat' (first|simp(disch:=omega) only[l6]|refine hnextj () _ hnx A7|((first|refine(ACalls.emb hpv [3,4,0] rfl rfl rfl (by decide) rfl ?_)<;>(rintro c H' ⟨e1,B1,e2,B2,rfl,rfl⟩ _;refine⟨rfl,rfl,?_⟩)|refine hin.calls rfl ?_)<;>(try simp only[go_sem,seval,hlj,d9 hxj,o5,j3]))|fail)
    ·refine rS_ Tryz.func3 ?_
     simp only[go_sem,seval,hlj,d9 hxj,o5,j3]
     repeat' (first|simp(disch:=omega) only[l6]|refine hnextj () _ hnx A7|fail)
   ·refine rS_ Tryz.func3 ?_
    simp only[go_sem,seval]
  ·rw[<- hMe] at hfM
   have hfh:=cb5 hM ha hfM;have hpv:=av9 hM ha (bM9 hM hfM);rw[hPe,o5] at hfh hpv;refine AW.hole ?_;refine AW.hole ?_;cases ho:ba3 (Pg.gnd u p.rels) f with
   | none =>
    have h6:¬hgt (Pg.gnd u p.rels) f<=6:=fun h=>by
     obtain⟨t,ht⟩:=bN4 hM hmd hfM h;rw[ht] at ho;cases ho
    rw[ho] at hpv;unfold pvR at hpv;dsimp only at hpv;generalize hgt (Pg.gnd u p.rels) f=y at *;refine rS_ Tryz.func3 ?_;simp only[go_sem,seval,hlt,d9 hxi,o5,h4]
    repeat' (first|simp(disch:=omega) only[l6]|refine hnext () _ hnx A7|((first|refine hfh.calls rfl ?_|refine(ACalls.emb hpv [2,3,0] rfl rfl rfl (by decide) rfl ?_)<;>(rintro c H' ⟨rfl,rfl⟩ _;refine⟨rfl,rfl,?_⟩))<;>(try simp only[go_sem,seval,hlt,d9 hxi,o5,h4,h6]))|fail)
   | some t =>
    have P:=bX5 hM ha ho;have hwt:wtL t.enc<=1048576:=by
     have h1:=Pf.inU_wt hM.uw t P.inU;have h2:=P.cnt;omega
    have hTe:=Pf.enc_eq t;have hpf:=aG8 p t hM.wp hwt;have hpo:=ag7 p t hM.wp hwt;have hph:=aw0 t hwt P.cnt;have hps:=ak3 t hwt;obtain⟨L,htm,hLu⟩:=bi9 hM P.inU hwt;have hfa:=aP3 f f;rw[decide_eq_true rfl] at hfa;have e1:pfR p t=f.1:=by rw[<-P.hd];unfold pfR;rw[if_pos P.ok];rfl
    have e2:(pfA p t).map Tm.enc=f.2.map V.enc:=by rw[<-P.hd];unfold pfA;rw[if_pos P.ok];exact D5 _
    rw[e1,e2,P.ok,hPe,hTe] at hpf;rw[P.ok,hPe,hTe] at hpo;rw[P.hei,hTe] at hph;rw[hTe] at hps;rw[hPe,hTe] at htm;have hsz:¬t.sizeI<hgt (Pg.gnd u p.rels) f:=by
     rw[<-P.hei];unfold Pf.sizeI;rw[if_pos P.cnt];have:=Pf.hei_cnt t P.cnt;omega
    rw[ho] at hpv;unfold pvR at hpv;dsimp only at hpv;clear P;generalize hgt (Pg.gnd u p.rels) f=y at *;generalize t.sizeI=z at *;refine l9 Tryz.func3 mixed 18 _ _ (by kernel_rfl) ?_;simp only[go_sem,seval,run.eq_1,hlt,d9 hxi,o5,h4]
    repeat' (first|refine hfh.calls rfl ?_<;>try simp only[go_sem,seval,hlt,d9 hxi,o5,h4]|fail)
    refine ACalls.emb hpv [2,3,0] rfl rfl rfl (by decide) rfl ?_;rintro c H' ⟨e1,B1,e2,B2,rfl,rfl⟩ _;refine⟨rfl,rfl,?_⟩;simp only[go_sem,seval];simp only[run.eq_1];refine AW.treeBF 2 rfl ?_;refine AW.treeBF 3 rfl ?_;refine AW.frzBox 5 2 2 rfl rfl rfl (by decide) ?_;refine AW.frzBox 5 3 3 rfl rfl rfl (by decide) ?_;refine rS_ Tryz.func3 ?_;simp only[go_sem,seval,hlt,d9 hxi,o5,h4,hsz]
    repeat' (first|refine E8 ?_ ?_<;>intro hq<;>try simp only[go_sem,seval,hlt,d9 hxi,o5,h4,hsz,hq]|((first|refine hpf.calls rfl ?_|refine hpo.calls rfl ?_|refine hfa.calls rfl ?_|refine hph.calls rfl ?_|refine hps.calls rfl ?_|refine htm.calls rfl ?_)<;>(try simp only[go_sem,seval,hlt,d9 hxi,o5,h4,hsz]))|fail)
    all_goals
     refine AW.rng L [0,3,4,5,40,41,42,102,103] 104 102 (fun _:Unit=>[]) (fun H _=>H) (fun r _=>∀w,w∈r->w∈u) () rfl (by simp) hLu A7 (fun i2 w r2 v2 hx2 hd2 hl2 hm2 hinv2 hnext2=>?_) (fun v2 hinv2=>?_)
     ·have hw:=hinv2 w (by simp)
      have hnx2:∀x,x∈r2->x∈u:=fun x hx=>hinv2 x (by simp[hx]);have hsm:=fun x=>bp6 x w;refine rS_ Tryz.func3 ?_;simp only[go_sem,seval,hl2,d9 hx2];refine AW.rng u [0,3,4,5,16,40,41,42,102,103,104,108,109] 110 108 (fun b:Bool=>[(17,.d (.bool b))]) (fun H _=>H) (fun r b=>b=true\/w∈r) false rfl (by simp) (Or.inr hw) A7 (fun i3 x r3 b hx3 hd3 hl3 hm3 hinv3 hnext3=>?_) (fun b hinv3=>?_)
      ·have hsx:=hsm x
       cases b with
       | true =>
        refine rS_ Tryz.func3 ?_;simp only[go_sem,seval,hl3,d9 hx3]
        repeat' (first|simp(disch:=omega) only[l6]|refine hnext3 true _ (Or.inl rfl) A7|fail)
       | false =>
        refine rS_ Tryz.func3 ?_;simp only[go_sem,seval,hl3,d9 hx3]
        repeat' (first|simp(disch:=omega) only[l6]|refine hnext3 (decide (x=w)) _ (seen hinv3) A7|refine hsx.calls rfl ?_<;>try simp only[go_sem,seval,hl3,d9 hx3]|fail)
      ·obtain rfl:b=true:=by simpa using hinv3
       refine rS_ Tryz.func3 ?_;simp only[go_sem,seval]
       repeat' (first|simp(disch:=omega) only[l6]|refine hnext2 () _ hnx2 A7|fail)
     ·refine rS_ Tryz.func3 ?_
      simp only[go_sem,seval]
      repeat' (first|simp(disch:=omega) only[l6]|refine hnext () _ hnx A7|fail)
 ·refine rS_ Tryz.func3 ?_
  simp only[go_sem,seval]
  repeat' (first|refine(ACalls.emb hmF [] rfl rfl rfl (by decide) rfl ?_)<;>(rintro c H' ⟨F,rfl,rfl,hFl,hFu⟩ _;refine⟨rfl,rfl,?_⟩)<;>try simp only[go_sem,seval]|fail)
  refine AW.rng F [3,4,5,128,129] 130 128 (fun _:Unit=>[]) (fun H _=>H) (fun s _=>∀f,f∈s->bm5 p u f) () rfl (by simp) hFu A7 (fun j g r v hxj hdj hlj hmj hinvj hnextj=>?_) (fun v hinvj=>?_)
  ·have hgu:=hinvj g (by simp)
   have hnx:∀f,f∈r->bm5 p u f:=fun f hf=>hinvj f (by simp[hf]);by_cases j3:(j:Int)<3
   ·have hpv:=av9 hM ha hgu
    have hin:=bK2 M g;rw[hPe,o5] at hpv;rw[o5] at hin;refine AW.hole ?_;refine AW.hole ?_;cases ho:ba3 (Pg.gnd u p.rels) g with
    | none =>
     rw[ho] at hpv;unfold pvR at hpv;dsimp only at hpv;refine rS_ Tryz.func3 ?_;simp only[go_sem,seval,hlj,d9 hxj,o5,j3]
     repeat' (first|simp(disch:=omega) only[l6]|refine hnextj () _ hnx A7|refine(ACalls.emb hpv [2,3,0] rfl rfl rfl (by decide) rfl ?_)<;>(rintro c H' ⟨rfl,rfl⟩ _;refine⟨rfl,rfl,?_⟩)<;>try simp only[go_sem,seval,hlj,d9 hxj,o5,j3]|fail)
    | some t =>
     have hgM:=br1 ho;rw[hMe] at hgM;rw[decide_eq_true hgM] at hin;rw[ho] at hpv;unfold pvR at hpv;dsimp only at hpv;refine rS_ Tryz.func3 ?_;simp only[go_sem,seval,hlj,d9 hxj,o5,j3]
     repeat' (first|simp(disch:=omega) only[l6]|refine hnextj () _ hnx A7|((first|refine(ACalls.emb hpv [2,3,0] rfl rfl rfl (by decide) rfl ?_)<;>(rintro c H' ⟨e1,B1,e2,B2,rfl,rfl⟩ _;refine⟨rfl,rfl,?_⟩)|refine hin.calls rfl ?_)<;>(try simp only[go_sem,seval,hlj,d9 hxj,o5,j3]))|fail)
   ·refine rS_ Tryz.func3 ?_
    simp only[go_sem,seval,hlj,d9 hxj,o5,j3]
    repeat' (first|simp(disch:=omega) only[l6]|refine hnextj () _ hnx A7|fail)
  ·refine rS_ Tryz.func3 ?_
   simp only[go_sem,seval]
end Go.Proofs.YtehgpkadkdekmaaGreatDoor
