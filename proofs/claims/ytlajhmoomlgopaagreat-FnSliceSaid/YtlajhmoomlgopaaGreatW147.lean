import Derived.Test.YtlajhmoomlgopaaGreatW146
open List renaming all_cons→a_,all_nil→b_,length_map→c_,length_append→d_,getElem?_map→e_,length_cons→f_,getElem?_eq_some_iff→g_,map_nil→h_
namespace Go.Proofs.YtlajhmoomlgopaaGreat
open Go.Abs
set_option maxRecDepth 100000
set_option maxHeartbeats 8000000
set_option linter.unusedSimpArgs false
set_option linter.unusedVariables false
def rlKey (r:Rl):List UInt8×Int×Int:=(r.name,r.arity,r.locals)
theorem rlKey_mem {M L:List Rl} (h:M.map rlKey=L.map rlKey) {r:Rl} (hr:r∈M):∃y,y∈L∧r.name=y.name∧r.arity=y.arity∧r.locals=y.locals:=by
 have h1:rlKey r∈L.map rlKey:=by rw [←h];exact List.mem_map_of_mem hr
 obtain ⟨y,hy,e⟩:=List.mem_map.1 h1
 unfold rlKey at e
 simp only [Prod.mk.injEq] at e
 exact ⟨y,hy,e.1.symm,e.2.1.symm,e.2.2.symm⟩
theorem rlKey_len {M L:List Rl} (h:M.map rlKey=L.map rlKey):M.length=L.length∧sgL M=sgL L:=by
 refine ⟨by simpa using congrArg List.length h,?_⟩
 have h1:=congrArg (List.map fun k:List UInt8×Int×Int=>(k.1,k.2.1)) h
 simpa [sgL,rlKey,Function.comp_def] using h1
theorem rlKey_names {M L:List Rl} (h:M.map rlKey=L.map rlKey):M.map Rl.name=L.map Rl.name:=by
 have h1:=congrArg (List.map fun k:List UInt8×Int×Int=>k.1) h
 simpa [rlKey,Function.comp_def] using h1
theorem set_key {M:List Rl} {k:Nat} {r:Rl} (b:Gl) (hr:M[k]? = some r):(M.set k ⟨r.name,r.arity,r.locals,b⟩).map rlKey=M.map rlKey:=by
 apply List.ext_getElem?
 intro j
 rw [e_,e_,List.getElem?_set]
 split
 ·rename_i e;subst e
  rw [hr,if_pos (g_.1 hr).1];rfl
 ·rfl
theorem set_body {S:List (List UInt8×Int)} {mode:Int} {M:List Rl} {k:Nat} {r:Rl} {b:Gl} (hr:M[k]? = some r) (hb:b.drB S (r.arity+r.locals) mode) (h:∀j r,j<k→M[j]? = some r→r.body.drB S (r.arity+r.locals) mode):∀j r',j<k+1→(M.set k ⟨r.name,r.arity,r.locals,b⟩)[j]? = some r'→r'.body.drB S (r'.arity+r'.locals) mode:=by
 intro j r' hj hm
 rw [List.getElem?_set] at hm
 split at hm
 ·split at hm
  ·cases hm;exact hb
  ·cases hm
 ·rename_i hne
  exact h j r' (by omega) hm
theorem l14Draw_R (B:List UInt8) (hB:B.length≤1048576) (mode:Int) (i h:Int) (h0:0≤i) (h1:i≤B.length):ACalls Tryz.prog 31 [.ptr 0 0,.d (.int .i64 mode)] [cuO B i h] (fun c H'=>∃p i' h',c=.d (.agg (Pg.enc p))∧H'=[cuO B i' h']∧p.drP mode∧0≤i'∧i'≤B.length):=by
 have hmx:maxLen=9223372036854775807:=rfl
 have hbl:=l01Below_R B i h hB h0 h1 3
 refine aE_ Tryz.func31 ?_
 refine run_sound Tryz.func31 mixed 4 _ _ (by kernel_rfl) ?_
 simp only [go_sem,seval,run.eq_1]
 refine AW.adoptBB 2 0 7 81 (by decide) rfl rfl ?_
 refine run_sound Tryz.func31 mixed 3 _ _ (by kernel_rfl) ?_
 simp only [go_sem,seval,run.eq_1]
 repeat' (first
  | (simp (disch:=omega) only [j6])
  | ((first
   | (refine (ACalls.emb hbl [0] rfl rfl rfl (by decide) rfl ?_)<;>(rintro c H' ⟨x,i2,h2,rfl,rfl,⟨x0,x1⟩,b3,b4⟩ _;refine ⟨rfl,rfl,?_⟩))
   | (refine ⟨sd,?_⟩))<;>(try simp only [go_sem,seval,run.eq_1]))
  | fail)
 obtain ⟨k,hk,hk1,hk3⟩:∃k:Nat,(1+x).toNat=k∧1≤k∧k≤3:=⟨(1+x).toNat,rfl,by omega,by omega⟩
 have hts:List.take k [[D.str [112]],[D.str [113]],[D.str [114]]]=strD (drNames.take k):=by unfold strD;rw [List.map_take];rfl
 have hkl:(drNames.take k).length=k:=(drNames_take hk3).2.2
 obtain ⟨NL,hNL⟩:∃NL,drNames.take k=NL:=⟨_,rfl⟩
 rw [hNL] at hts hkl
 subst hkl
 simp only [hk,hts,strD_len]
 refine rS_ Tryz.func31 ?_
 simp only [go_sem,seval]
 refine AW.rng NL [0,1,4,5,18,19] 20 18 (fun u:Nat×List Rl×Int×Int=>[]) (fun _ u=>[cuO B u.2.2.1 u.2.2.2,.box [.nil0],.box [.own 3 u.1],.buf u.1 7 81 (u.2.1.map Rl.enc)]) (fun r u=>u.2.1.map Rl.name++r=NL∧(∀y,y∈u.2.1→1≤y.arity∧y.arity≤2∧0≤y.locals∧y.locals≤1)∧0≤u.2.2.1∧u.2.2.1≤B.length) (0,[],i2,h2) rfl (by simp only [strD_len]) ⟨rfl,(fun y hy=>by cases hy),b3,b4⟩ (by refine ⟨by simp [mkS,cuO_eq,strD_len],by simp [mkS,cuO_eq,strD_len],by simp only [mkS,a_,b_,O.refsLt,C.refsLt,C.refsLt1,all_dmap];first | done | rfl | (simp;done),?_⟩;simp [mkS,Abs.get,C.refsLtT,C.refsLt,C.refsLt1]) (fun ii nm r u hxi hdr hlt hm hinv hnext=>?_) (fun u hinv=>?_)
 ·obtain ⟨q,L,i3,h3⟩:=u
  obtain ⟨j1,j2,j3,j4⟩:=hinv
  dsimp only at j1 j2 j3 j4 hnext ⊢
  have hnx:=fun a b c d s'=>hnext (a,b,c,d) s'
  clear hnext
  have hxx:=strD_at hxi
  have hii:(ii:Int)<(NL.length:Int):=hlt
  have hLl:L.length≤3:=by
   have:=congrArg List.length j1
   simp only [d_,c_,f_] at this
   omega
  have hb2:=l01Below_R B i3 h3 hB j3 j4 2
  refine run_sound Tryz.func31 mixed 9 _ _ (by kernel_rfl) ?_
  simp only [go_sem,seval,run.eq_1,hii,j5 hxx,strD_len]
  refine AW.drawA mixed #[true,true,true,true,true,true,true,true,true,true,true,true,false] [(2,.box [.own 3 q])] [] [0,1,2,3,6,4,5,7,8,9,10,11] [12] none (by kernel_rfl) trivial (by simp [holdsB]) ?_
  simp only [go_sem,seval]
  repeat' (first
   | (simp (disch:=omega) only [j6])
   | ((first
    | (refine (ACalls.emb hb2 [0] rfl rfl rfl (by decide) rfl ?_)<;>(rintro c H' ⟨a1,i4,h4,rfl,rfl,⟨y0,y1⟩,d3,d4⟩ _;refine ⟨rfl,rfl,?_⟩))
    | (refine (ACalls.emb (l01Below_R B i4 h4 hB d3 d4 2) [0] rfl rfl rfl (by decide) rfl ?_)<;>(rintro c H' ⟨a2,i5,h5,rfl,rfl,⟨z0,z1⟩,e3,e4⟩ _;refine ⟨rfl,rfl,?_⟩))
    | (refine ⟨sd,?_⟩))<;>(try simp only [go_sem,seval]))
   | fail)
  have wa:IntKind.i64.wrap (1+a1)=1+a1:=by rw [j6 (by omega) (by omega)]
  have hRe:(Rl.mk nm (1+a1) a2 ⟨0,[],[],[]⟩).enc=[.str nm,.int .i64 (1+a1),.int .i64 a2,.int .i64 0,.str [],.sl [],.sl []]:=rfl
  refine rS_ Tryz.func31 ?_
  simp only [go_sem,seval,wa]
  repeat' (first
   | (simp (disch:=omega) only [j6])
   | fail)
  all_goals refine hnx (q+1) (L++[Rl.mk nm (1+a1) a2 ⟨0,[],[],[]⟩]) i5 h5 _ ⟨by rw [List.map_append,List.append_assoc];exact j1,fun y hy=>by
   rcases List.mem_append.1 hy with hy | hy
   ·exact j2 y hy
   ·simp at hy;subst hy;exact ⟨by dsimp only;omega,by dsimp only;omega,by dsimp only;omega,by dsimp only;omega⟩,e3,e4⟩ (by refine ⟨by simp [mkS,cuO_eq,hRe,strD_len],by simp [mkS,cuO_eq,hRe,strD_len],by simp only [mkS,a_,b_,O.refsLt,C.refsLt,C.refsLt1,all_dmap];first | done | rfl | (simp;done),?_⟩;simp [mkS,Abs.get,C.refsLtT,C.refsLt,C.refsLt1])
 ·obtain ⟨q,L,i3,h3⟩:=u
  obtain ⟨j1,j2,j3,j4⟩:=hinv
  dsimp only at j1 j2 j3 j4 ⊢
  simp only [h_,List.append_nil] at j1
  have hLl:L.length=NL.length:=by rw [←j1,c_]
  have hml:∀l:List Rl,(l.map Rl.enc).length=l.length:=fun l=>c_ _
  refine run_sound Tryz.func31 mixed 7 _ _ (by kernel_rfl) ?_
  simp only [go_sem,seval,run.eq_1]
  refine AW.regA ?_
  simp only [go_sem,seval,hml]
  refine rS_ Tryz.func31 ?_
  simp only [go_sem,seval]
  refine AW.lp [0,1,4,5,38,39] (fun u:Nat×List Rl×Int×Int=>[(40,.d (.int .i64 (u.1:Int)))]) (fun _ u=>[cuO B u.2.2.1 u.2.2.2,.box [.nil0],.box [.own 3 q],.buf q 7 81 (u.2.1.map Rl.enc)]) (fun u=>u.2.1.map rlKey=L.map rlKey∧u.1≤L.length∧(∀j r,j<u.1→u.2.1[j]? = some r→r.body.drB (sgL L) (r.arity+r.locals) mode)∧0≤u.2.2.1∧u.2.2.1≤B.length) (fun u=>L.length - u.1) (0,L,i3,h3) ⟨rfl,Nat.zero_le _,(fun j r hj _=>absurd hj (Nat.not_lt_zero _)),j3,j4⟩ (by refine ⟨by simp [mkS,cuO_eq],by simp [mkS,cuO_eq],by simp only [mkS,a_,b_,O.refsLt,C.refsLt,C.refsLt1,all_dmap];first | done | rfl | (simp;done),?_⟩;simp [mkS,Abs.get,C.refsLtT,C.refsLt,C.refsLt1]) ?_
  rintro ⟨k,M,i4,h4⟩ ⟨m1,m2,m3,m4,m5⟩ hnext
  dsimp only at m1 m2 m3 m4 m5 hnext ⊢
  have hnx:=fun a b c d s'=>hnext (a,b,c,d) s'
  clear hnext
  obtain ⟨n1,n2⟩:=rlKey_len m1
  have hha:∀r,r∈M→isRel r.name=true∧1≤r.arity∧r.arity≤2∧0≤r.locals∧r.locals≤1:=fun r hr=>by
   obtain ⟨y,hy,e1,e2,e3⟩:=rlKey_mem m1 hr
   have hyn:y.name∈NL:=by rw [←j1];exact List.mem_map_of_mem hy
   rw [←hNL] at hyn
   obtain ⟨g1,g2,g3,g4⟩:=j2 y hy
   exact ⟨by rw [e1];exact ((drNames_take hk3).2.1 _ hyn).1,by omega,by omega,by omega,by omega⟩
  by_cases hkL:k=L.length
  ·subst hkL
   clear hnx
   refine AW.frzBox 2 0 3 rfl rfl rfl (by decide) ?_
   simp only [go_sem,seval]
   have hlt:¬(L.length:Int)<(L.length:Int):=by omega
   have hfin:Pg.drP mode ⟨M⟩:=⟨⟨L.length,by omega,by omega,by rw [rlKey_names m1,j1,hLl,hNL]⟩,fun r hr=>by
    obtain ⟨f1,f2,f3,f4,f5⟩:=hha r hr
    obtain ⟨j,hj⟩:=List.mem_iff_getElem?.1 hr
    refine ⟨f2,f3,f4,f5,?_⟩
    have:=m3 j r (by have:=(g_.1 hj).1;dsimp only at this;omega) hj
    rw [←n2] at this;exact this⟩
   refine rS_ Tryz.func31 ?_
   simp only [go_sem,seval,hlt]
   repeat' (first
    | (exact ⟨⟨M⟩,_,_,by rw [Pg.enc_eq],rfl,hfin,m4,m5⟩)
    | fail)
  ·have hkl:(k:Int)<(L.length:Int):=by omega
   obtain ⟨r,hr⟩:∃r,M[k]? = some r:=⟨M[k]'(by omega),List.getElem?_eq_getElem _⟩
   obtain ⟨g1,g2,g3,g4,g5⟩:=hha r (List.mem_of_getElem? hr)
   have hre:(M.map Rl.enc)[k]? = some r.enc:=by rw [e_,hr];rfl
   have hRe:r.enc=[.str r.name,.int .i64 r.arity,.int .i64 r.locals,.int .i64 r.body.kind,.str r.body.name,.sl (r.body.terms.map Tm.enc),.sl (r.body.goals.map Gl.enc)]:=Rl.enc_eq r
   have hcl:=l14Clause_R B hB M (by omega) (by omega) (fun y hy=>by obtain ⟨f1,f2,f3,f4,f5⟩:=hha y hy;exact ⟨f1,by omega,by omega⟩) (r.arity+r.locals) (by omega) 0 (by omega) mode i4 h4 m4 m5 q 81
   rw [show ((0:Nat):Int)=0 from rfl] at hcl
   have wn:IntKind.i64.wrap (r.arity+r.locals)=r.arity+r.locals:=by rw [j6 (by omega) (by omega)]
   refine run_sound Tryz.func31 mixed 8 _ _ (by kernel_rfl) ?_
   simp only [go_sem,seval,run.eq_1,hkl]
   refine AW.regA ?_
   simp only [go_sem,seval,hml,n1,hkl,j5 hre,hRe]
   repeat' (first
    | ((refine ⟨sd,?_⟩)<;>(try simp only [go_sem,seval,hml,n1,hkl,j5 hre,hRe]))
    | fail)
   refine run_sound Tryz.func31 mixed 3 _ _ (by kernel_rfl) ?_
   simp only [go_sem,seval,run.eq_1,wn,hRe]
   refine AW.regU ?_
   simp only [go_sem,seval]
   repeat' (first
    | ((refine (ACalls.emb hcl [0,3] rfl rfl rfl (by decide) rfl ?_)<;>(rintro c H' ⟨g,i5,h5,rfl,rfl,dg,c3,c4⟩ _;refine ⟨rfl,rfl,?_⟩))<;>(try simp only [go_sem,seval]))
    | fail)
   rw [n2] at dg
   have hb3:=l01Below_R B i5 h5 hB c3 c4 3
   refine rS_ Tryz.func31 ?_
   simp only [go_sem,seval]
   repeat' (first
    | ((refine (ACalls.emb hb3 [0] rfl rfl rfl (by decide) rfl ?_)<;>(rintro c H' ⟨y,i6,h6,rfl,rfl,⟨y0,y1⟩,d3,d4⟩ _;refine ⟨rfl,rfl,?_⟩))<;>(try simp only [go_sem,seval]))
    | fail)
   obtain ⟨k0,hk0,hk02⟩:∃k0:Nat,y=(k0:Int)∧k0≤2:=⟨y.toNat,by omega,by omega⟩
   subst hk0
   refine AW.lp [0,1,4,5,8,10,11,38,39,40] (fun u:Nat×Nat×List Gl×Int×Int=>[(12,.d (.int .i64 (u.1:Int)))]) (fun _ u=>[cuO B u.2.2.2.1 u.2.2.2.2,.box [.nil0],.box [.own 3 q],.buf q 7 81 (M.map Rl.enc),.box [.d (.str r.name),.d (.int .i64 r.arity),.d (.int .i64 r.locals),.d (.int .i64 r.body.kind),.d (.str r.body.name),.d (.sl (r.body.terms.map Tm.enc)),.d (.sl (r.body.goals.map Gl.enc))],.buf u.2.1 4 48 (u.2.2.1.map Gl.enc),.box [.d (.int .i64 8),.d (.str []),.nil0,.own 5 u.2.1]]) (fun u=>u.1+u.2.2.1.length≤3∧1≤u.2.2.1.length∧(∀g,g∈u.2.2.1→g.drC (sgL L) (r.arity+r.locals) mode)∧0≤u.2.2.2.1∧u.2.2.2.1≤B.length) (fun u=>u.1) (k0,1,[g],i6,h6) ⟨by simp;omega,by simp,(fun y hy=>by simp at hy;subst hy;exact dg),d3,d4⟩ (by refine ⟨by simp [mkS,cuO_eq],by simp [mkS,cuO_eq],by simp only [mkS,a_,b_,O.refsLt,C.refsLt,C.refsLt1,all_dmap];first | done | rfl | (simp;done),?_⟩;simp [mkS,Abs.get,C.refsLtT,C.refsLt,C.refsLt1]) ?_
   rintro ⟨kk,q2,gs,i7,h7⟩ ⟨p1,p2,p3,p4,p5⟩ hnext
   dsimp only at p1 p2 p3 p4 p5 hnext ⊢
   have hny:=fun a b c d e s'=>hnext (a,b,c,d,e) s'
   clear hnext
   by_cases hk0:kk=0
   ·subst hk0
    clear hny
    refine AW.frzBox 6 3 5 rfl rfl rfl (by decide) ?_
    simp only [go_sem,seval]
    have hgd:(M.map Rl.enc).getD k []=r.enc:=by rw [List.getD_eq_getElem?_getD,hre];rfl
    have hset:∀b:Gl,(Rl.mk r.name r.arity r.locals b).enc=[.str r.name,.int .i64 r.arity,.int .i64 r.locals,.int .i64 b.kind,.str b.name,.sl (b.terms.map Tm.enc),.sl (b.goals.map Gl.enc)]:=fun b=>Rl.enc_eq _
    have wj:IntKind.i64.wrap ((k:Int)+1)=((k+1:Nat):Int):=by rw [j6 (by omega) (by omega)];omega
    have hgl:(gs.map Gl.enc).length=gs.length:=c_ _
    by_cases hg1:gs.length=1
    ·obtain ⟨g0,rfl⟩:∃g0,gs=[g0]:=List.length_eq_one_iff.1 hg1
     have hoc:=l01Once_R B hB 2 i7 h7 p4 p5
     refine run_sound Tryz.func31 mixed 10 _ _ (by kernel_rfl) ?_
     simp only [go_sem,seval,run.eq_1]
     repeat' (first
      | ((refine (ACalls.emb hoc [0] rfl rfl rfl (by decide) rfl ?_)<;>(rintro c H' ⟨b,i8,h8,rfl,rfl,f3,f4⟩ _;cases b<;>refine ⟨rfl,rfl,?_⟩))<;>(try simp only [go_sem,seval,run.eq_1]))
      | fail)
     ·have hs:=hset ⟨8,[],[],[g0]⟩
      dsimp only [Gl.kind,Gl.name,Gl.terms,Gl.goals] at hs
      simp only [h_,List.map_cons] at hs
      refine AW.regT ?_
      simp only [go_sem,seval,hgd,hRe,hml,n1,hkl]
      repeat' (first
       | ((refine ⟨sd,?_⟩)<;>(try simp only [go_sem,seval,hgd,hRe,hml,n1,hkl]))
       | fail)
      refine rS_ Tryz.func31 ?_
      simp only [go_sem,seval,wj]
      refine hnx (k+1) (M.set k ⟨r.name,r.arity,r.locals,⟨8,[],[],[g0]⟩⟩) i8 h8 _ ⟨by rw [←m1];exact set_key _ hr,by dsimp only;omega,set_body hr (.inr ⟨rfl,rfl,rfl,by simp [Gl.goals],p3⟩) m3,f3,f4⟩ (by dsimp only;omega) (by refine ⟨by simp [mkS,cuO_eq,hr,hRe,hs],by simp [mkS,cuO_eq,hr,hRe,hs],by simp only [mkS,a_,b_,O.refsLt,C.refsLt,C.refsLt1,all_dmap];first | done | rfl | (simp;done),?_⟩;simp [mkS,Abs.get,C.refsLtT,C.refsLt,C.refsLt1])
     ·have hs:=hset g0
      have hge:=Gl.enc_eq g0
      refine AW.regT ?_
      simp only [go_sem,seval,hgd,hRe,hml,n1,hkl,hge]
      repeat' (first
       | ((refine ⟨sd,?_⟩)<;>(try simp only [go_sem,seval,hgd,hRe,hml,n1,hkl,hge]))
       | fail)
      refine rS_ Tryz.func31 ?_
      simp only [go_sem,seval,wj]
      refine hnx (k+1) (M.set k ⟨r.name,r.arity,r.locals,g0⟩) i8 h8 _ ⟨by rw [←m1];exact set_key _ hr,by dsimp only;omega,set_body hr (.inl (p3 g0 (by simp))) m3,f3,f4⟩ (by dsimp only;omega) (by refine ⟨by simp [mkS,cuO_eq,hr,hRe,hs],by simp [mkS,cuO_eq,hr,hRe,hs],by simp only [mkS,a_,b_,O.refsLt,C.refsLt,C.refsLt1,all_dmap];first | done | rfl | (simp;done),?_⟩;simp [mkS,Abs.get,C.refsLtT,C.refsLt,C.refsLt1])
    ·have hg1':¬(gs.length:Int)=1:=by omega
     have hs:=hset ⟨8,[],[],gs⟩
     dsimp only [Gl.kind,Gl.name,Gl.terms,Gl.goals] at hs
     simp only [h_] at hs
     refine run_sound Tryz.func31 mixed 10 _ _ (by kernel_rfl) ?_
     simp only [go_sem,seval,run.eq_1,hgl,hg1']
     refine AW.regT ?_
     simp only [go_sem,seval,hgd,hRe,hml,n1,hkl]
     repeat' (first
      | ((refine ⟨sd,?_⟩)<;>(try simp only [go_sem,seval,hgd,hRe,hml,n1,hkl]))
      | fail)
     refine rS_ Tryz.func31 ?_
     simp only [go_sem,seval,wj]
     refine hnx (k+1) (M.set k ⟨r.name,r.arity,r.locals,⟨8,[],[],gs⟩⟩) i7 h7 _ ⟨by rw [←m1];exact set_key _ hr,by dsimp only;omega,set_body hr (.inr ⟨rfl,rfl,rfl,by simp [Gl.goals];omega,p3⟩) m3,p4,p5⟩ (by dsimp only;omega) (by refine ⟨by simp [mkS,cuO_eq,hr,hRe,hs],by simp [mkS,cuO_eq,hr,hRe,hs],by simp only [mkS,a_,b_,O.refsLt,C.refsLt,C.refsLt1,all_dmap];first | done | rfl | (simp;done),?_⟩;simp [mkS,Abs.get,C.refsLtT,C.refsLt,C.refsLt1])
   ·obtain ⟨kk,rfl⟩:∃k',kk=k'+1:=⟨kk - 1,by omega⟩
    have e1:(0:Int)<((kk+1:Nat):Int):=by omega
    have e1':(0:Int)<(kk:Int)+1:=by omega
    have wk1:IntKind.i64.wrap ((kk:Int)+1 - 1)=(kk:Int):=by rw [j6 (by omega) (by omega)];omega
    have hb5:=l01Below_R B i7 h7 hB p4 p5 5
    refine run_sound Tryz.func31 mixed 7 _ _ (by kernel_rfl) ?_
    simp only [go_sem,seval,run.eq_1,e1,e1']
    refine AW.drawA mixed #[true,true,true,true,true,true,true,true,true,true,true,true,true,true,false] [(2,.box [.own 3 q]),(6,.box [.d (.int .i64 8),.d (.str []),.nil0,.own 5 q2])] [] [0,1,2,3,4,5,6,9,7,8,10,11,12,13] [14] none (by kernel_rfl) trivial (by simp [holdsB]) ?_
    simp only [go_sem,seval]
    repeat' (first
     | ((refine (ACalls.emb hb5 [0] rfl rfl rfl (by decide) rfl ?_)<;>(rintro c H' ⟨z,i8,h8,rfl,rfl,⟨z0,z1⟩,f3,f4⟩ _;refine ⟨rfl,rfl,?_⟩))<;>(try simp only [go_sem,seval]))
     | fail)
    obtain ⟨cn,hc1,hc2⟩:∃cn:Nat,IntKind.i64.wrap (Int.tdiv z 2)=(cn:Int)∧cn≤2:=by
     rcases (show z=0∨z=1∨z=2∨z=3∨z=4 by omega) with rfl | rfl | rfl | rfl | rfl
     ·exact ⟨0,by decide,by omega⟩
     ·exact ⟨0,by decide,by omega⟩
     ·exact ⟨1,by decide,by omega⟩
     ·exact ⟨1,by decide,by omega⟩
     ·exact ⟨2,by decide,by omega⟩
    rw [hc1]
    have hcl:=l14Clause_R B hB M (by omega) (by omega) (fun y hy=>by obtain ⟨f1,f2,f3,f4,f5⟩:=hha y hy;exact ⟨f1,by omega,by omega⟩) (r.arity+r.locals) (by omega) cn hc2 mode i8 h8 f3 f4 q 81
    refine (ACalls.emb hcl [0,3] rfl rfl rfl (by decide) rfl ?_)
    rintro c H' ⟨g',i9,h9,rfl,rfl,dg',o3,o4⟩ _
    refine ⟨rfl,rfl,?_⟩
    simp only [go_sem,seval]
    repeat' (first
     | ((refine ⟨sd,?_⟩)<;>(try simp only [go_sem,seval]))
     | fail)
    rw [n2] at dg'
    have hge:=Gl.enc_eq g'
    refine rS_ Tryz.func31 ?_
    simp only [go_sem,seval,wk1,hge]
    all_goals refine hny kk (q2+1) (gs++[g']) i9 h9 _ ⟨by rw [d_];dsimp only [f_,List.length_nil];omega,by rw [d_];dsimp only [f_,List.length_nil];omega,fun w hw=>by
     rcases List.mem_append.1 hw with hw | hw
     ·exact p3 w hw
     ·simp at hw;subst hw;exact dg',o3,o4⟩ (by dsimp only;omega) (by refine ⟨by simp [mkS,cuO_eq,hge],by simp [mkS,cuO_eq,hge],by simp only [mkS,a_,b_,O.refsLt,C.refsLt,C.refsLt1,all_dmap];first | done | rfl | (simp;done),?_⟩;simp [mkS,Abs.get,C.refsLtT,C.refsLt,C.refsLt1])
end Go.Proofs.YtlajhmoomlgopaaGreat
