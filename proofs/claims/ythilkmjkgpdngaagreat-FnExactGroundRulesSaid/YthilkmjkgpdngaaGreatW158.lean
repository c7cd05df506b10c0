import Derived.Test.YthilkmjkgpdngaaGreatW107
open List renaming append_nil→a_,mem_of_getElem?→b_,all_cons→c_,nil_append→d_,all_nil→e_,length_map→f_,all_append→g_
namespace Go.Proofs.YthilkmjkgpdngaaGreat
open Go.Abs
set_option maxRecDepth 100000
set_option maxHeartbeats 8000000
set_option linter.unusedSimpArgs false
set_option linter.unusedVariables false
def grR (o:Option (List RV)) (c:C) (H:List O):Prop:=match o with
 | some l=>c=.tup [.own 0 1,.d (.bool true)]∧∃e,H=[.buf 1 6 e (l.map rvE)]
 | none=>c=.tup [.d (.sl []),.d (.bool false)]∧H=[.hole]
theorem grR_none:grR none=fun c H=>c=.tup [.d (.sl []),.d (.bool false)]∧H=[.hole]:=rfl
theorem grR_some (l:List RV):grR (some l)=fun c H=>c=.tup [.own 0 1,.d (.bool true)]∧∃e,H=[.buf 1 6 e (l.map rvE)]:=rfl
theorem groundRules_B (p:Pg) (u:List V) (hp:pgOk p=true) (hw:wtL p.enc≤1048576) (hu:Uni u):ACalls Tryz.prog 32 [.d (.agg p.enc),.d (.sl (u.map V.enc))] [.hole] (grR (p.gr u)):=by
 have hmx:maxLen=9223372036854775807:=rfl
 have hul:=hu.le
 have hup:=hu.pos
 obtain ⟨RES,hRES⟩:∃RES,grR (p.gr u)=RES:=⟨_,rfl⟩
 rw [hRES]
 have hbz:∀y,y∈p.rels.map bodE→y.length=1:=fun y hy=>by obtain ⟨b,_,rfl⟩:=List.mem_map.1 hy;rfl
 have hpl:p.rels.length≤8:=by
  unfold pgOk at hp;rw [Bool.and_eq_true,decide_eq_true_eq] at hp;exact hp.1
 refine aE_ Tryz.func32 ?_
 refine run_sound Tryz.func32 mixed 5 _ _ (by kernel_rfl) ?_
 simp only [go_sem,seval,run.eq_1]
 refine AW.adopt 6 1 56 (by decide) rfl ?_
 refine rS_ Tryz.func32 ?_
 simp only [go_sem,seval]
 refine AW.rng p.rels [1,2,30,31] 32 30 (fun L:List Rl=>[(6,.own 2 L.length)]) (fun _ L=>[.hole,.box (p.enc.map .d),.grow L.length 1 56 (L.map bodE)]) (fun r L=>p.rels=L++r∧L.all (Rl.gOk u)=true) [] rfl (by simp) ⟨rfl,rfl⟩ wk1_ (fun i x r L hxi hdr hlt hm hinv hnext=>?_) (fun L hinv=>?_)
 ·obtain ⟨i1,i2⟩:=hinv
  have hxm:=b_ hxi
  obtain ⟨z1,z2,z3,z4⟩:=Pg.dims hp hxm
  have hLl:L.length≤8:=by have:=congrArg List.length i1;simp at this;omega
  obtain ⟨n,hn⟩:∃n:Nat,x.arity+x.locals=(n:Int):=⟨(x.arity+x.locals).toNat,by omega⟩
  have hnn:(x.arity+x.locals).toNat=n:=by omega
  have hcl:=clausesOf_fn x.body (by have:=Pg.wt_rels hxm;have:=Rl.wt_body x;omega)
  rw [Gl.cls_same] at hcl
  have hwy:=ways_fn u.length n 4096 hul (by omega) (by omega)
  have hsw:=sways_1 (b:=u.length) (L:=4096) (n:=n) hup
  have hwr:IntKind.i64.wrap (x.arity+x.locals)=(n:Int):=by rw [hn];exact wrap_ok (by omega) (by omega)
  have hgo:x.gOk u=(decide (x.body.clsS.length≤64) && decide (u.length ^ n≤4096)):=by unfold Rl.gOk Rl.ways;rw [hnn]
  by_cases h64:x.body.clsS.length≤64
  ·rw [if_pos h64] at hcl
   unfold clsR at hcl
   rw [Option.getD_some,Option.isSome_some] at hcl
   by_cases h4:u.length ^ n≤4096
   ·have hg:x.gOk u=true:=by rw [hgo,decide_eq_true h64,decide_eq_true h4];rfl
    have hmn:min (sways u.length 4096 n 1) (4096+1)≤4096:=by have:=hsw.1.1 h4;omega
    have n1:¬(4096:Int)<((min (sways u.length 4096 n 1) (4096+1):Nat):Int):=by omega
    generalize (min (sways u.length 4096 n 1) (4096+1):Nat)=W at *
    refine rS_ Tryz.func32 ?_
    simp only [go_sem,seval,hlt,idx_of hxi]
    repeat' (first
     | (simp (disch:=omega) only [wrap_ok])
     | ((first
      | (refine hcl.calls rfl ?_)
      | (refine hwy.calls rfl ?_)
      | (refine ⟨sd,?_⟩))<;>(try simp only [go_sem,seval,hlt,idx_of hxi,hwr,n1]))
     | fail)
    refine hnext (L++[x]) _ ⟨by rw [i1];simp,by rw [g_,i2];simp [hg]⟩ (by refine ⟨by simp [mkS,bodE_eq],by simp [mkS,bodE_eq],by simp only [mkS,c_,e_,O.refsLt,C.refsLt,C.refsLt1,all_dmap];first | done | rfl | (simp;done),?_⟩;simp [mkS,Abs.get,C.refsLtT,C.refsLt,C.refsLt1,bodE_eq])
   ·have hg:x.gOk u=false:=by rw [hgo,decide_eq_false h4,Bool.and_false]
    have hmn:4096<min (sways u.length 4096 n 1) (4096+1):=by
     have:¬sways u.length 4096 n 1≤4096:=fun h=>h4 (hsw.1.2 h)
     omega
    have n1:(4096:Int)<((min (sways u.length 4096 n 1) (4096+1):Nat):Int):=by omega
    rw [Pg.gr_bad hxm hg,grR_none] at hRES
    rw [←hRES]
    generalize (min (sways u.length 4096 n 1) (4096+1):Nat)=W at *
    refine rS_ Tryz.func32 ?_
    simp only [go_sem,seval,hlt,idx_of hxi]
    repeat' (first
     | ((first
      | (refine hcl.calls rfl ?_)
      | (refine hwy.calls rfl ?_))<;>(try simp only [go_sem,seval,hlt,idx_of hxi,hwr,n1]))
     | fail)
  ·have hg:x.gOk u=false:=by rw [hgo,decide_eq_false h64,Bool.false_and]
   rw [if_neg h64] at hcl
   unfold clsR at hcl
   rw [Option.getD_none,Option.isSome_none] at hcl
   rw [Pg.gr_bad hxm hg,grR_none] at hRES
   rw [←hRES]
   refine rS_ Tryz.func32 ?_
   simp only [go_sem,seval,hlt,idx_of hxi]
   repeat' (first
    | ((refine hcl.calls rfl ?_)<;>(try simp only [go_sem,seval,hlt,idx_of hxi]))
    | fail)
 ·obtain ⟨i1,i2⟩:=hinv
  rw [a_] at i1
  subst i1
  have hgr:=fun hl=>Pg.gr_some i2 hl
  refine run_sound Tryz.func32 mixed 8 _ _ (by kernel_rfl) ?_
  simp only [go_sem,seval,run.eq_1]
  refine AW.adoptB 11 6 64 (by decide) rfl ?_
  refine rS_ Tryz.func32 ?_
  simp only [go_sem,seval]
  have hgok:∀x,x∈p.rels→x.gOk u=true:=List.all_eq_true.1 i2
  clear i2
  generalize hGN:Pg.gnd u p.rels=GN at hgr
  refine AW.rng p.rels [1,6,62,63] 64 62 (fun L:List RV=>[(11,.own 3 L.length)]) (fun _ L=>[.hole,.box (p.enc.map .d),.grow p.rels.length 1 56 (p.rels.map bodE),.buf L.length 6 64 (L.map rvE)]) (fun r L=>GN=L++Pg.gnd u r∧L.length≤2000) [] rfl (by simp) ⟨hGN.symm,by simp⟩ wk1_ (fun i x r L hxi hdr hlt hm hinv hnext=>?_) (fun L hinv=>?_)
  ·obtain ⟨i1,i2⟩:=hinv
   have hxm:=b_ hxi
   obtain ⟨z1,z2,z3,z4⟩:=Pg.dims hp hxm
   obtain ⟨n,hn⟩:∃n:Nat,x.arity+x.locals=(n:Int):=⟨(x.arity+x.locals).toNat,by omega⟩
   have hnn:(x.arity+x.locals).toNat=n:=by omega
   have hn12:n≤12:=by omega
   have hwr:IntKind.i64.wrap (x.arity+x.locals)=(n:Int):=by rw [hn];exact wrap_ok (by omega) (by omega)
   have hwy:=ways_fn u.length n 4096 hul (by omega) (by omega)
   have hsw:=sways_1 (b:=u.length) (L:=4096) (n:=n) hup
   have hgx:=hgok x hxm
   have hgo:x.gOk u=(decide (x.body.clsS.length≤64) && decide (u.length ^ n≤4096)):=by unfold Rl.gOk Rl.ways;rw [hnn]
   rw [hgo,Bool.and_eq_true,decide_eq_true_eq,decide_eq_true_eq] at hgx
   obtain ⟨h64,h4⟩:=hgx
   have hW:x.ways u=u.length ^ n:=by unfold Rl.ways;rw [hnn]
   have hmn:min (sways u.length 4096 n 1) (4096+1)=x.ways u:=by rw [hsw.2 h4,hW];omega
   rw [hmn] at hwy
   rw [←hW] at h4
   have hbe:(p.rels.map bodE)[i]? = some [.sl (x.body.clsS.map encC)]:=by rw [List.getElem?_map,hxi];rfl
   have hbm:(p.rels.map bodE).length=p.rels.length:=f_ _
   have hcs:∀c,c∈x.body.clsS→∀g,g∈c→g.inst n:=fun c hc g hg=>Gl.inst_sub (Pg.body_inst hp hxm (m:=n) hn.symm).1 g (clsS_sub hc hg)
   have hcl:∀c,c∈x.body.clsS→c.length≤60:=fun c hc=>Nat.le_trans (Gl.clsS_row x.body c hc).1 (Pg.body_inst hp hxm (m:=n) hn.symm).2.2.2.2.2
   have hgn:Pg.gnd u (x :: r)=rvsB u x (x.ways u) 0 x.body.clsS++Pg.gnd u r:=rfl
   rw [hgn] at i1
   clear hgn hsw hmn hgo hW hgok
   have hxar:x.enc=[.str x.name,.int .i64 x.arity,.int .i64 x.locals]++x.body.enc:=by unfold Rl.enc;simp
   generalize hCS:x.body.clsS=CS at *
   generalize hWW:x.ways u=W at *
   refine rS_ Tryz.func32 ?_
   simp only [go_sem,seval,hlt,idx_of hxi,hwr,hbm]
   repeat' (first
    | ((refine hwy.calls rfl ?_)<;>(try simp only [go_sem,seval,hlt,idx_of hxi,hwr,hbm,idx_of hbe]))
    | fail)
   refine AW.rng CS [1,6,13,14,15,62,63,64,81,82] 83 81 (fun L:List RV=>[(11,.own 3 L.length)]) (fun _ L=>[.hole,.box (p.enc.map .d),.grow p.rels.length 1 56 (p.rels.map bodE),.buf L.length 6 64 (L.map rvE),.box (x.enc.map .d)]) (fun cs L=>GN=L++(rvsB u x W ((CS.length - cs.length:Nat):Int) cs++Pg.gnd u r)∧L.length≤2000) L rfl (by simp) ⟨by rw [Nat.sub_self];exact i1,i2⟩ wk1_ (fun ci c cs L hci hdc hltc hmc hinv hnc=>?_) (fun L hinv=>?_)
   ·obtain ⟨i1,i2⟩:=hinv
    have hcm:=b_ hci
    have hdl:=congrArg List.length hdc
    simp only [List.length_drop,List.length_cons] at hdl
    have hcs:=hcs c hcm
    have hcl:=hcl c hcm
    have hcil:ci<CS.length:=(List.getElem?_eq_some_iff.1 hci).1
    rw [List.length_cons,show CS.length - (cs.length+1)=ci by omega,rvsB_s,List.append_assoc] at i1
    have hnc:=fun (L:List RV) s' (h2:L.length≤2000) (h1:GN=L++(rvsB u x W ((ci+1:Nat):Int) cs++Pg.gnd u r))=>hnc L s' ⟨by rw [show CS.length - cs.length=ci+1 by omega];exact h1,h2⟩
    rw [show ((ci:Int)+1)=((ci+1:Nat):Int) by omega] at i1
    generalize hX:rvsB u x W ((ci+1:Nat):Int) cs++Pg.gnd u r=X at *
    refine rS_ Tryz.func32 ?_
    simp only [go_sem,seval,hltc,idx_of hci,encC_eq]
    refine AW.lp [1,6,13,14,15,16,17,62,63,64,81,82,83] (fun u:Nat×List RV=>[(18,.d (.int .i64 (u.1:Int))),(11,.own 3 u.2.length)]) (fun _ y=>[.hole,.box (p.enc.map .d),.grow p.rels.length 1 56 (p.rels.map bodE),.buf y.2.length 6 64 (y.2.map rvE),.box (x.enc.map .d)]) (fun y=>y.1≤W∧GN=y.2++(rvsC u x (ci:Int) c y.1 (W - y.1)++X)∧y.2.length≤2000) (fun y=>W - y.1) (0,L) ⟨Nat.zero_le _,i1,i2⟩ wk1_ ?_
    rintro ⟨w,L1⟩ ⟨j1,j2,j3⟩ hnw
    dsimp only at j1 j2 j3 hnw ⊢
    have hnw:=fun w' L' s' h=>hnw (w',L') s' h
    clear i1 i2
    by_cases hwW:w<W
    ·have n1:(w:Int)<(W:Int):=by omega
     have hvl:=gVals_len u n w
     have hvm:=gVals_mem hup n w
     rw [show W - w=(W - (w+1))+1 by omega,rvsC_s] at j2
     have hrk:rvK u x (ci:Int) c w=if rvFine u c (gVals u n w)=true then some (rvOf x (ci:Int) c (gVals u n w)) else none:=by unfold rvK;rw [hnn]
     rw [hrk,List.append_assoc] at j2
     have hng:¬(n:Int)<0:=by omega
     obtain ⟨G,hG⟩:∃G,gVals u n w=G:=⟨_,rfl⟩
     rw [hG] at j2 hvl hvm
     clear hrk
     refine rS_ Tryz.func32 ?_
     simp only [go_sem,seval,n1,hng]
     repeat' (first
      | ((refine ⟨sd,?_⟩)<;>(try simp only [go_sem,seval,n1,hng]))
      | fail)
     refine AW.lp [1,6,11,13,14,15,16,17,18,19,62,63,64,81,82,83] (fun v:List V×Nat=>[(21,.d (.int .i64 (v.1.length:Int))),(20,.d (.int .i64 (v.2:Int)))]) (fun _ v=>[.hole,.box (p.enc.map .d),.grow p.rels.length 1 56 (p.rels.map bodE),.buf L1.length 6 64 (L1.map rvE),.box (x.enc.map .d),.row 4 74 (v.1.map V.enc++List.replicate (n - v.1.length) [.int .i64 0,.int .i64 0,.str [],.sl []])]) (fun v=>v.1++gVals u (n - v.1.length) v.2=G∧v.1.length≤n∧v.2≤w) (fun v=>n - v.1.length) ([],w) ⟨hG,Nat.zero_le _,Nat.le_refl _⟩ wk1_ ?_
     rintro ⟨vs,y⟩ ⟨k1,k2,k3⟩ hnv
     dsimp only at k1 k2 k3 hnv ⊢
     have hnv:=fun v' y' s' h=>hnv (v',y') s' h
     by_cases hvn:vs.length<n
     ·have n2:(vs.length:Int)<(n:Int):=by omega
      have hm1:y % u.length<u.length:=Nat.mod_lt _ (by omega)
      obtain ⟨v,hv⟩:∃v,u[y % u.length]? = some v:=⟨_,List.getElem?_eq_getElem hm1⟩
      have hve:u.getD (y % u.length) .nil=v:=by rw [List.getD_eq_getElem?_getD,hv];rfl
      have hvd:(u.map V.enc)[y % u.length]? = some v.enc:=by rw [List.getElem?_map,hv];rfl
      have hml:(u.map V.enc).length=u.length:=f_ _
      have hdv:y / u.length≤y:=Nat.div_le_self _ _
      have hrm:=tmodN y u.length
      have hqd:=tdivN y u.length
      have h0:¬(u.length:Int)=0:=by omega
      rw [show n - vs.length=(n - (vs.length+1))+1 by omega] at k1
      have hre:gVals u (n - (vs.length+1)+1) y=v :: gVals u (n - (vs.length+1)) (y / u.length):=by rw [←hve];rfl
      rw [hre] at k1
      clear hve hre
      generalize y % u.length=ym at *
      generalize y / u.length=yq at *
      have w1:IntKind.i64.wrap (yq:Int)=(yq:Int):=wrap_ok (by omega) (by omega)
      have w2:IntKind.i64.wrap ((vs.length:Int)+1)=(vs.length:Int)+1:=wrap_ok (by omega) (by omega)
      have n3:(ym:Int)<(u.length:Int):=by omega
      refine rS_ Tryz.func32 ?_
      simp only [go_sem,seval,n2,idx_of hvd,hrm,hqd,h0,w1,w2,n3,hml]
      repeat' (first
       | ((refine ⟨sd,?_⟩)<;>(try simp only [go_sem,seval,n2,idx_of hvd,hrm,hqd,h0,w1,w2,n3,hml]))
       | fail)
      rw [mk_step vs v hvn]
      refine hnv (vs++[v]) yq _ ⟨by rw [←k1];simp,by simp;omega,by omega⟩ (by simp;omega) wk1_
     ·have n2:¬(vs.length:Int)<(n:Int):=by omega
      rw [show n - vs.length=0 by omega] at k1 ⊢
      have e0:gVals u 0 y=[]:=rfl
      rw [e0,a_] at k1
      subst k1
      clear hnv
      refine run_sound Tryz.func32 mixed 6 _ _ (by kernel_rfl) ?_
      simp only [go_sem,seval,run.eq_1,n2]
      refine AW.freeze 19 5 rfl rfl (by simp;omega) ?_
      try rw [List.replicate_zero,a_]
      refine AW.drawA mixed #[true,true,true,true,true,true,true,true,true,true,true,false] [(4,.box (x.enc.map .d))] [] [0,1,2,3,4,7,8,10,5,6,9] [11] (some (10,22,64,[.string ⟨#[]⟩,.slice none 0 0,.int .i64 0,.slice none 0 0,.slice none 0 0,.slice none 0 0])) (by kernel_rfl) tz64 (by simp [holdsB]) ?_
      simp only [go_sem,seval]
      refine ⟨z1,by omega,?_⟩
      refine AW.adoptGB 6 4 2 61 (by decide) rfl rfl ?_
      refine AW.adoptGB 6 5 2 61 (by decide) rfl rfl ?_
      refine rS_ Tryz.func32 ?_
      simp only [go_sem,seval]
      have hfa:=rvFine_all u vs c
      clear hvm
      refine AW.rng c [1,6,11,13,14,15,16,17,18,19,22,62,63,64,81,82,83,125,126] 127 125 (fun a:Bool×List FcV×List FcV=>[(23,.d (.bool a.1))]) (fun _ a=>[.hole,.box (p.enc.map .d),.grow p.rels.length 1 56 (p.rels.map bodE),.buf L1.length 6 64 (L1.map rvE),.box (x.enc.map .d),.dead,.box [.d (.str x.name),.d (.sl ((vs.take x.arity.toNat).map V.enc)),.d (.int .i64 ci),.d (.sl (vs.map V.enc)),.own 7 a.2.1.length,.own 8 a.2.2.length],.grow a.2.1.length 2 61 (a.2.1.map fcE),.grow a.2.2.length 2 61 (a.2.2.map fcE)]) (fun s a=>∃d,c=d++s∧a.2.1.length≤d.length∧a.2.2.length≤d.length∧(a.1=true→a.2.1=clsPos (valAt vs) d∧a.2.2=clsNeg (valAt vs) d∧d.all (okG u vs)=true)∧(a.1=false→c.all (okG u vs)=false)) (true,[],[]) rfl (by simp) ⟨[],rfl,by simp,by simp,fun _=>⟨rfl,rfl,rfl⟩,fun h=>by cases h⟩ wk1_ (fun gi g s a hgi hdg hltg hmg hinv hng2=>?_) (fun a hinv=>?_)
      ·obtain ⟨fine,P,N⟩:=a
       obtain ⟨d,d1,d2,d3,d4,d5⟩:=hinv
       dsimp only at d2 d3 d4 d5 hng2 ⊢
       have hng2:=fun b P N s' h=>hng2 (b,P,N) s' h
       cases fine with
       | false =>
        have hff:=d5 rfl
        rw [hfa,hff,if_neg (by simp),Option.toList_none,d_] at j2
        have hn5:¬(2000:Int)<(L1.length:Int):=by omega
        have w7:IntKind.i64.wrap ((w:Int)+1)=((w+1:Nat):Int):=by rw [wrap_ok (by omega) (by omega)];omega
        refine runG_sound Tryz.func32 mixed 200 _ _ (by kernel_rfl) ?_
        simp only [go_sem,seval,hn5,w7,hltg,idx_of hgi]
        refine hnw (w+1) L1 _ ⟨by omega,j2,j3⟩ (by dsimp only;omega) wk1_
       | true =>
        obtain ⟨e1,e2,e3⟩:=d4 rfl
        clear d4 d5
        have hgm:=b_ hgi
        have hgn:=hcs g hgm
        rw [←hvl] at hgn
        have hok:(d++[g]).all (okG u vs)=okG u vs g:=by rw [g_,e3];simp
        have hbad:okG u vs g=false→c.all (okG u vs)=false:=fun h=>by rw [d1,g_,c_,h];simp
        have hd60:d.length≤60:=by have:=congrArg List.length d1;simp at this;omega
        have hP60:P.length≤60:=by omega
        have hN60:N.length≤60:=by omega
        have hps:=clsPos_snoc (valAt vs) d g
        have hns:=clsNeg_snoc (valAt vs) d g
        by_cases h9:g.kind=9
        ·have hcf:=callFact_fn g vs hgn
         have hog:okG u vs g=inUV u (g.callV (valAt vs)):=by unfold okG;rw [if_pos h9]
         have hin:=inUniverse_fn u (g.callV (valAt vs)).2 (by omega)
         rw [show ((g.callV (valAt vs)).2.all fun t=>decide (t∈u))=okG u vs g from hog.symm] at hin
         have hFe:=fcE_eq (g.callV (valAt vs))
         rw [if_pos h9,←e1] at hps
         rw [if_neg (by omega),a_,←e2] at hns
         change Gives _ _ _ (.d (.agg (fcE (g.callV (valAt vs))))) at hcf
         generalize g.callV (valAt vs)=F at *
         generalize okG u vs g=ok at *
         refine rS_ Tryz.func32 ?_
         simp only [go_sem,seval,hltg,idx_of hgi,h9]
         repeat' (first
          | (simp (disch:=omega) only [wrap_ok])
          | ((first
           | (refine hcf.calls rfl ?_)
           | (refine hin.calls rfl ?_)
           | (refine ⟨sd,?_⟩))<;>(try simp only [go_sem,seval,hltg,idx_of hgi,h9,hFe]))
          | fail)
         refine hng2 ok (P++[F]) N _ ⟨d++[g],by rw [d1];simp,by simp;omega,by simp;omega,fun h=>⟨hps.symm,hns.symm,hok.trans h⟩,hbad⟩ (by refine ⟨by simp [mkS,hFe],by simp [mkS,hFe],by simp only [mkS,c_,e_,O.refsLt,C.refsLt,C.refsLt1,all_dmap];first | done | rfl | (simp;done),?_⟩;simp [mkS,Abs.get,C.refsLtT,C.refsLt,C.refsLt1,hFe])
        ·rw [if_neg h9,a_,←e1] at hps
         by_cases h10:g.kind=10
         ·obtain ⟨y,hy⟩:=Gl.shape_not hgn.1 h10
          have hcf:=callFact_fn y vs (Gl.inst_sub hgn y (sub_not hy))
          have hog:okG u vs g=inUV u (y.callV (valAt vs)):=by unfold okG;rw [if_neg h9,if_pos h10,hy];rfl
          have hin:=inUniverse_fn u (y.callV (valAt vs)).2 (by omega)
          rw [show ((y.callV (valAt vs)).2.all fun t=>decide (t∈u))=okG u vs g from hog.symm] at hin
          have hFe:=fcE_eq (y.callV (valAt vs))
          rw [if_pos h10,hy,←e2] at hns
          change Gives _ _ _ (.d (.agg (fcE (y.callV (valAt vs))))) at hcf
          change clsNeg (valAt vs) (d++[g])=N++[y.callV (valAt vs)] at hns
          generalize y.callV (valAt vs)=F at *
          generalize okG u vs g=ok at *
          have hy0:g.goals[0]? = some y:=by rw [hy];rfl
          have hy1:(0:Int)<(g.goals.length:Int):=by rw [hy];simp
          refine rS_ Tryz.func32 ?_
          simp only [go_sem,seval,hltg,idx_of hgi,h9,h10,idx_of hy0,hy1]
          repeat' (first
           | (simp (disch:=omega) only [wrap_ok])
           | ((first
            | (refine hcf.calls rfl ?_)
            | (refine hin.calls rfl ?_)
            | (refine ⟨sd,?_⟩))<;>(try simp only [go_sem,seval,hltg,idx_of hgi,h9,h10,hFe,idx_of hy0,hy1]))
           | fail)
          refine hng2 ok P (N++[F]) _ ⟨d++[g],by rw [d1];simp,by simp;omega,by simp;omega,fun h=>⟨hps.symm,hns.symm,hok.trans h⟩,hbad⟩ (by refine ⟨by simp [mkS,hFe],by simp [mkS,hFe],by simp only [mkS,c_,e_,O.refsLt,C.refsLt,C.refsLt1,all_dmap];first | done | rfl | (simp;done),?_⟩;simp [mkS,Abs.get,C.refsLtT,C.refsLt,C.refsLt1,hFe])
         ·have htw:=trueWith_fn g vs hgn
          have hog:okG u vs g=g.testV (valAt vs):=by unfold okG;rw [if_neg h9,if_neg h10]
          rw [←hog] at htw
          rw [if_neg h10,a_,←e2] at hns
          generalize okG u vs g=ok at *
          refine rS_ Tryz.func32 ?_
          simp only [go_sem,seval,hltg,idx_of hgi,h9,h10]
          repeat' (first
           | (simp (disch:=omega) only [wrap_ok])
           | ((refine htw.calls rfl ?_)<;>(try simp only [go_sem,seval,hltg,idx_of hgi,h9,h10]))
           | fail)
          refine hng2 ok P N _ ⟨d++[g],by rw [d1];simp,by simp;omega,by simp;omega,fun h=>⟨hps.symm,hns.symm,hok.trans h⟩,hbad⟩ wk1_
      ·obtain ⟨fine,P,N⟩:=a
       obtain ⟨d,d1,d2,d3,d4,d5⟩:=hinv
       dsimp only at d2 d3 d4 d5 ⊢
       rw [a_] at d1
       subst d1
       cases fine with
       | false =>
        have hff:=d5 rfl
        rw [hfa,hff,if_neg (by simp),Option.toList_none,d_] at j2
        have hn5:¬(2000:Int)<(L1.length:Int):=by omega
        have w7:IntKind.i64.wrap ((w:Int)+1)=((w+1:Nat):Int):=by rw [wrap_ok (by omega) (by omega)];omega
        refine runG_sound Tryz.func32 mixed 200 _ _ (by kernel_rfl) ?_
        simp only [go_sem,seval,hn5,w7,e0]
        refine hnw (w+1) L1 _ ⟨by omega,j2,j3⟩ (by dsimp only;omega) wk1_
       | true =>
        obtain ⟨e1,e2,e3⟩:=d4 rfl
        subst e1 e2
        rw [hfa,e3,if_pos rfl,Option.toList_some] at j2
        have hrE:=rvE_eq (rvOf x (ci:Int) c vs)
        unfold rvOf at hrE
        dsimp only at hrE
        have hrF:rvOf x (ci:Int) c vs=⟨(x.name,vs.take x.arity.toNat),(ci:Int),vs,clsPos (valAt vs) c,clsNeg (valAt vs) c⟩:=rfl
        rw [hrF] at j2
        generalize clsPos (valAt vs) c=P at *
        generalize clsNeg (valAt vs) c=N at *
        generalize (RV.mk (x.name,vs.take x.arity.toNat) (ci:Int) vs P N)=RR at *
        have w7:IntKind.i64.wrap ((w:Int)+1)=((w+1:Nat):Int):=by rw [wrap_ok (by omega) (by omega)];omega
        have hrl:(L1.map rvE).length=L1.length:=f_ _
        have hj2:GN=(L1++[RR])++(rvsC u x (ci:Int) c (w+1) (W - (w+1))++X):=by rw [j2];simp
        by_cases h20:L1.length<2000
        ·have hn5:¬(2000:Int)<(L1.length:Int)+1:=by omega
         refine runG_sound Tryz.func32 mixed 200 _ _ (by kernel_rfl) ?_
         simp only [go_sem,seval,hn5,w7,hrl]
         repeat' (first
          | ((refine ⟨sd,?_⟩)<;>(try simp only [go_sem,seval,hn5,w7,hrl]))
          | fail)
         refine hnw (w+1) (L1++[RR]) _ ⟨by omega,hj2,by simp;omega⟩ (by dsimp only;omega) (by refine ⟨by simp [mkS,hrE],by simp [mkS,hrE],by simp only [mkS,c_,e_,O.refsLt,C.refsLt,C.refsLt1,all_dmap];first | done | rfl | (simp;done),?_⟩;simp [mkS,Abs.get,C.refsLtT,C.refsLt,C.refsLt1,hrE])
        ·have hn5:(2000:Int)<(L1.length:Int)+1:=by omega
         rw [Pg.gr_none (hGN.trans hj2) (by simp;omega),grR_none] at hRES
         rw [←hRES]
         refine runG_sound Tryz.func32 mixed 200 _ _ (by kernel_rfl) ?_
         simp only [go_sem,seval,hn5,w7,hrl]
         repeat' (first
          | ((refine ⟨sd,?_⟩)<;>(try simp only [go_sem,seval,hn5,w7,hrl]))
          | fail)
         all_goals omega
    ·have n1:¬(w:Int)<(W:Int):=by omega
     rw [show W - w=0 by omega] at j2
     have e0:rvsC u x (ci:Int) c w 0=[]:=rfl
     rw [e0,d_] at j2
     refine rS_ Tryz.func32 ?_
     simp only [go_sem,seval,n1]
     repeat' (first
      | (simp (disch:=omega) only [wrap_ok])
      | (refine hnc L1 _ j3 j2 wk1_)
      | fail)
     all_goals refine hnc L1 _ j3 (by rw [hX];exact j2) wk1_
   ·obtain ⟨i1,i2⟩:=hinv
    have e0:rvsB u x W ((CS.length - ([]:List (List Gl)).length:Nat):Int) []=[]:=rfl
    rw [e0,d_] at i1
    refine rS_ Tryz.func32 ?_
    simp only [go_sem,seval]
    repeat' (first
     | (simp (disch:=omega) only [wrap_ok])
     | fail)
    all_goals refine hnext L _ ⟨i1,i2⟩ wk1_
  ·obtain ⟨i1,i2⟩:=hinv
   have e0:Pg.gnd u []=[]:=rfl
   rw [e0,a_] at i1
   subst i1
   rw [hgr i2,grR_some] at hRES
   rw [←hRES]
   refine AW.placeBuf 11 3 0 rfl rfl rfl (by decide) ?_
   refine rS_ Tryz.func32 ?_
   simp only [go_sem,seval]
   repeat' (first
    | (exact ⟨_,rfl⟩)
    | fail)
end Go.Proofs.YthilkmjkgpdngaaGreat
