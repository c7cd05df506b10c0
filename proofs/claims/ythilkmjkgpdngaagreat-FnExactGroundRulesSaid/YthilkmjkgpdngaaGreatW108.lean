import Derived.Test.YthilkmjkgpdngaaGreatW107
import Derived.Test.YthilkmjkgpdngaaGreatW41
import Derived.Test.YthilkmjkgpdngaaGreatW20
import Derived.Test.YthilkmjkgpdngaaGreatW22
open List renaming mem_of_getElem?→a_,all_cons→b_,append_assoc→c_,all_nil→d_,all_eq_true→e_,append_nil→g_
open Bool renaming and_eq_true→f_
namespace Go.Proofs.YthilkmjkgpdngaaGreat
open Go.Abs
set_option maxRecDepth 100000
set_option maxHeartbeats 8000000
set_option linter.unusedSimpArgs false
set_option linter.unusedVariables false
theorem l02CopyAll_gn (l:List Tm) (hw:wtR (l.map Tm.enc)≤2000000):Gives Tryz.prog 26 [.sl (l.map Tm.enc)] (.d (.sl (l.map Tm.enc))):=by
 have h:=l02CopyAll_T l hw
 refine ACalls.frozen (ds:=[.sl (l.map Tm.enc)]) (m:=1) h (fun c H' ⟨h1,e,B,h2⟩ _=>?_)
 subst h1 h2;rfl
theorem l02CopyAll_V (l:List V) (hw:wtR (l.map V.enc)≤2000000):Gives Tryz.prog 26 [.sl (l.map V.enc)] (.d (.sl (l.map V.enc))):=by
 have h:=l02CopyAll_gn (l.map V.tm) (by rw [enc_tms];exact hw)
 rw [enc_tms] at h;exact h
theorem l18Copy_V (l:List FcV) (hl:l.length≤2000000) (hw:∀x,x∈l→wtR (x.2.map V.enc)≤2000000):Gives Tryz.prog 27 [.sl (l.map fcE)] (.d (.sl (l.map fcE))):=by
 have hmx:maxLen=9223372036854775807:=rfl
 refine aE_ Tryz.func27 ?_
 refine rS_ Tryz.func27 ?_
 simp only [go_sem,seval]
 refine AW.adopt 3 2 61 (by decide) rfl ?_
 refine AW.rng l [7,8] 9 7 (fun p:List FcV=>[(3,.own 0 p.length)]) (fun _ p=>[.grow p.length 2 61 (p.map fcE)]) (fun r p=>p++r=l) [] rfl (by simp) rfl wk1_ (fun i x r p hxi hdr hlt hm hinv hnext=>?_) (fun p hinv=>?_)
 ·have hxm:=a_ hxi
  have hc:=l02CopyAll_V x.2 (hw x hxm)
  have hpl:p.length+(r.length+1)=l.length:=by rw [←hinv];simp
  have hxe:=fcE_eq x
  generalize hX:fcE x=X at *
  subst hxe
  refine run_sound Tryz.func27 mixed 9 _ _ (by kernel_rfl) ?_
  simp only [go_sem,seval,run.eq_1,hlt,idx_of hxi,hX]
  refine AW.drawA mixed #[true,true,true,true,true,true,true,true,true,false] [(1,.box [.d (.str x.1),.d (.sl (x.2.map V.enc))])] [] [0,1,2,3,4,5,6,7,8] [9] none (by kernel_rfl) trivial (by simp [holdsB]) ?_
  simp only [go_sem,seval]
  repeat' (first
   | ((first
    | (refine hc.calls rfl ?_)
    | (refine ⟨sd,?_⟩))<;>(try simp only [go_sem,seval]))
   | fail)
  refine rS_ Tryz.func27 ?_
  simp only [go_sem,seval]
  repeat' (first
   | (simp (disch:=omega) only [wrap_ok])
   | fail)
  refine hnext (p++[x]) _ (by simp [←hinv]) (by refine ⟨by simp [mkS,hX],by simp [mkS,hX],by simp only [mkS,b_,d_,O.refsLt,C.refsLt,C.refsLt1,all_dmap];first | done | rfl | (simp;done),?_⟩;simp [mkS,Abs.get,C.refsLtT,C.refsLt,C.refsLt1])
 ·simp only [g_] at hinv
  subst hinv
  refine rS_ Tryz.func27 ?_
  simp only [go_sem,seval]
theorem posLen {c:List Gl} {n:Nat} (h:∀g,g∈c→g.inst n) (f:Int→V):∀x,x∈clsPos f c→x.2.length≤4:=fun x hx=>by
 unfold clsPos at hx
 obtain ⟨g,hg,rfl⟩:=List.mem_map.1 hx
 rw [List.mem_filter] at hg
 have:=(Gl.shape_len (h g hg.1).1).1
 simp [Gl.callV];exact this
theorem negLen {c:List Gl} {n:Nat} (h:∀g,g∈c→g.inst n) (f:Int→V):∀x,x∈clsNeg f c→x.2.length≤4:=fun x hx=>by
 unfold clsNeg at hx
 obtain ⟨y,hy,rfl⟩:=List.mem_map.1 hx
 obtain ⟨g,hg,hgy⟩:=List.mem_filterMap.1 hy
 rw [List.mem_filter] at hg
 have hym:y∈g.goals:=by cases hq:g.goals with | nil=>rw [hq] at hgy;cases hgy | cons a b=>rw [hq] at hgy;cases hgy;simp
 have:=(Gl.shape_len (Gl.inst_goals (h g hg.1) y hym).1).1
 simp [Gl.callV];exact this
theorem uniwts {u:List V} (hu:Uni u) (l:List V) (hl:∀v,v∈l→v∈u) (hn:l.length≤12):wtR (l.map V.enc)≤2000000:=by
 have:=oks_wtV l (e_.2 fun v hv=>hu.ok v (hl v hv))
 omega
theorem inUV_wt {u:List V} (hu:Uni u) {fs:List FcV} (h:fs.all (inUV u)=true) (hl:∀x,x∈fs→x.2.length≤4):∀x,x∈fs→wtR (x.2.map V.enc)≤2000000:=fun x hx=>by
 have h1:=e_.1 h x hx
 unfold inUV at h1
 have h2:=hl x hx
 exact uniwts hu _ (fun v hv=>by simpa using e_.1 h1 v hv) (by omega)
def Over (G L R:List RV):Prop:=(L.length≤2000∧G=L++R)∨(L.length=2001∧∃X,G=L++X)
theorem Over.le {G L R:List RV} (h:Over G L R):L.length≤2001:=by rcases h with h | h<;>omega
theorem Over.full {G L R R':List RV} (h:Over G L R) (hl:¬L.length≤2000):Over G L R':=by
 rcases h with h | h
 ·omega
 ·exact Or.inr h
theorem Over.step {G L R R':List RV} {o:Option RV} (h:Over G L R) (hl:L.length≤2000) (hr:R=o.toList++R'):Over G (L++o.toList) R':=by
 rcases h with ⟨h1,h2⟩ | h
 ·subst hr
  have e:G=(L++o.toList)++R':=by rw [h2,c_]
  have h3:(L++o.toList).length≤2001:=by cases o<;>simp<;>omega
  by_cases h4:(L++o.toList).length≤2000
  ·exact Or.inl ⟨h4,e⟩
  ·exact Or.inr ⟨by omega,_,e⟩
 ·omega
def vrs (n:Nat):List (List D):=intsD ((List.range n).map fun i:Nat=>(i:Int))
theorem vrs_0:vrs 0=[]:=rfl
theorem vrs_s (n:Nat):vrs (n+1)=vrs n++[[.int .i64 (n:Int)]]:=by simp [vrs,intsD,List.range_succ]
@[go_sem] theorem vrs_len (n:Nat):(vrs n).length=n:=by simp [vrs,intsD]
theorem sGroundRules_V (p:Pg) (u:List V) (hp:pgOk p=true) (hw:wtL p.enc≤1048576) (hu:Uni u) (hua:Gives Tryz.prog 20 [.sl (u.map V.enc)] (.d (.bool true))):Gives Tryz.prog 6 [.agg p.enc,.sl (u.map V.enc)] (grC (p.gr u)):=by
 have hmx:maxLen=9223372036854775807:=rfl
 have hul:=hu.le
 have hup:=hu.pos
 have ha:=sProgramOk_fn p (by omega)
 rw [hp] at ha
 have hml:(u.map V.enc).length=u.length:=List.length_map _
 obtain ⟨RES,hRES⟩:∃RES,grC (p.gr u)=RES:=⟨_,rfl⟩
 rw [hRES]
 have hpl:p.rels.length≤8:=by
  unfold pgOk at hp;rw [f_,decide_eq_true_eq] at hp;exact hp.1
 refine aE_ Tryz.func6 ?_
 refine rS_ Tryz.func6 ?_
 simp only [go_sem,seval]
 repeat' (first
  | ((first
   | (refine ha.calls rfl ?_)
   | (refine hua.calls rfl ?_))<;>(try simp only [go_sem,seval]))
  | fail)
 obtain ⟨GN,hGN⟩:∃GN,Pg.gnd u p.rels=GN:=⟨_,rfl⟩
 refine AW.adopt 6 6 64 (by decide) rfl ?_
 refine AW.rng p.rels [1,29,30] 31 29 (fun L:List RV=>[(6,.own 1 L.length)]) (fun _ L=>[.box (p.enc.map .d),.grow L.length 6 64 (L.map rvE)]) (fun r L=>(∃d,p.rels=d++r∧d.all (Rl.gOk u)=true)∧Over GN L (Pg.gnd u r)) [] rfl (by simp) ⟨⟨[],rfl,rfl⟩,Or.inl ⟨by simp,hGN.symm⟩⟩ wk1_ (fun i x r L hxi hdr hlt hm hinv hnext=>?_) (fun L hinv=>?_)
 ·obtain ⟨⟨dn,i0,i1⟩,i2⟩:=hinv
  have hxm:=a_ hxi
  obtain ⟨z1,z2,z3,z4⟩:=Pg.dims hp hxm
  obtain ⟨n,hn⟩:∃n:Nat,x.arity+x.locals=(n:Int):=⟨(x.arity+x.locals).toNat,by omega⟩
  have hnn:(x.arity+x.locals).toNat=n:=by omega
  have hn12:n≤12:=by omega
  have hL1:=i2.le
  have hwr:IntKind.i64.wrap (x.arity+x.locals)=(n:Int):=by rw [hn];exact wrap_ok (by omega) (by omega)
  obtain ⟨hbi,_,_,_,_,hbc⟩:=Pg.body_inst hp hxm (m:=n) hn.symm
  have hbg:glOk x.body=true:=by simp only [glOk,f_,decide_eq_true_eq,glOk];exact ⟨by omega,hbi.1⟩
  have hcl:=sClausesOf_fn x.body (by have:=Pg.wt_rels hxm;have:=Rl.wt_body x;omega)
  have hwy:=l08Ways_fn u.length n 4096 hul (by omega) (by omega)
  have hsw:=sways_1 (b:=u.length) (L:=4096) (n:=n) hup
  have hgo:x.gOk u=(decide (x.body.clsS.length≤64) && decide (u.length ^ n≤4096)):=by unfold Rl.gOk Rl.ways;rw [hnn]
  have hW:x.ways u=u.length ^ n:=by unfold Rl.ways;rw [hnn]
  have hxar:x.enc=[.str x.name,.int .i64 x.arity,.int .i64 x.locals]++x.body.enc:=by unfold Rl.enc;simp
  refine run_sound Tryz.func6 mixed 12 _ _ (by kernel_rfl) ?_
  simp only [go_sem,seval,run.eq_1,hlt,idx_of hxi]
  refine AW.adopt 9 1 3 (by decide) rfl ?_
  refine run_sound Tryz.func6 mixed 3 _ _ (by kernel_rfl) ?_
  simp only [go_sem,seval,run.eq_1]
  refine AW.lp [1,6,8,29,30,31] (fun y:Nat=>[(10,.d (.int .i64 (y:Int))),(9,.own 3 y)]) (fun _ y=>[.box (p.enc.map .d),.grow L.length 6 64 (L.map rvE),.box (x.enc.map .d),.grow y 1 3 (vrs y)]) (fun y=>y≤n) (fun y=>n - y) 0 (Nat.zero_le _) (by refine ⟨by simp [mkS,vrs_0],by simp [mkS,vrs_0],by simp only [mkS,b_,d_,O.refsLt,C.refsLt,C.refsLt1,all_dmap];first | done | rfl | (simp;done),?_⟩;simp [mkS,Abs.get,C.refsLtT,C.refsLt,C.refsLt1]) ?_
  intro y hy hny
  by_cases hyn:y<n
  ·have n1:(y:Int)<(n:Int):=by omega
   have w1:IntKind.i64.wrap ((y:Int)+1)=((y+1:Nat):Int):=by rw [wrap_ok (by omega) (by omega)];omega
   refine rS_ Tryz.func6 ?_
   simp only [go_sem,seval,hwr,n1,w1]
   repeat' (first
    | ((refine ⟨sd,?_⟩)<;>(try simp only [go_sem,seval,hwr,n1,w1]))
    | fail)
   refine hny (y+1) _ (by omega) (by omega) (by refine ⟨by simp [mkS,vrs_s],by simp [mkS,vrs_s],by simp only [mkS,b_,d_,O.refsLt,C.refsLt,C.refsLt1,all_dmap];first | done | rfl | (simp;done),?_⟩;simp [mkS,Abs.get,C.refsLtT,C.refsLt,C.refsLt1])
  have hyy:y=n:=by omega
  subst hyy
  clear hny
  have n1:¬(y:Int)<(y:Int):=by omega
  refine run_sound Tryz.func6 mixed 6 _ _ (by kernel_rfl) ?_
  simp only [go_sem,seval,run.eq_1,hwr,n1]
  refine AW.readG 9 3 rfl rfl ?_
  by_cases h64:x.body.clsS.length≤64
  ·rw [if_pos ⟨hbg,h64⟩] at hcl
   unfold clsR at hcl
   rw [Option.getD_some,Option.isSome_some] at hcl
   by_cases h4:u.length ^ y≤4096
   ·have hg : x.gOk u=true:=by rw [hgo,decide_eq_true h64,decide_eq_true h4];rfl
    rw [hsw.2 h4,←hW] at hwy
    rw [←hW] at h4
    have hcs:∀c,c∈x.body.clsS→∀g,g∈c→g.inst y:=fun c hc g hg=>Gl.inst_sub hbi g (clsS_sub hc hg)
    have hcn:∀c,c∈x.body.clsS→c.length≤60:=fun c hc=>Nat.le_trans (Gl.clsS_row x.body c hc).1 hbc
    have hgn:Pg.gnd u (x :: r)=rvsB u x (x.ways u) 0 x.body.clsS++Pg.gnd u r:=rfl
    rw [hgn] at i2
    clear hgn hsw hgo hW hbg
    have hnext:=fun (L:List RV) s' (h:Over GN L (Pg.gnd u r))=>hnext L s' ⟨⟨dn++[x],by rw [i0];simp,by rw [List.all_append,i1];simp [hg]⟩,h⟩
    generalize hCS:x.body.clsS=CS at *
    generalize hWW:x.ways u=W at *
    have n2:¬(4096:Int)<(W:Int):=by omega
    refine rS_ Tryz.func6 ?_
    simp only [go_sem,seval,n2]
    repeat' (first
     | ((first
      | (refine hcl.calls rfl ?_)
      | (refine hwy.calls rfl ?_))<;>(try simp only [go_sem,seval,n2]))
     | fail)
    refine AW.rng CS [1,8,9,13,29,30,31,66,67] 68 66 (fun L:List RV=>[(6,.own 1 L.length)]) (fun _ L=>[.box (p.enc.map .d),.grow L.length 6 64 (L.map rvE),.box (x.enc.map .d),.grow y 1 3 (vrs y)]) (fun cs L=>Over GN L (rvsB u x W ((CS.length - cs.length:Nat):Int) cs++Pg.gnd u r)) L rfl (by simp) (by rw [Nat.sub_self];exact i2) wk1_ (fun ci c cs L hci hdc hltc hmc hinv hnc=>?_) (fun L hinv=>?_)
    ·have hcm:=a_ hci
     have hdl:=congrArg List.length hdc
     simp only [List.length_drop,List.length_cons] at hdl
     have hcs:=hcs c hcm
     have hcn:=hcn c hcm
     have hcil:ci<CS.length:=(List.getElem?_eq_some_iff.1 hci).1
     rw [List.length_cons,show CS.length - (cs.length+1)=ci by omega,rvsB_s,c_] at hinv
     have hnc:=fun (L:List RV) s' (h1:Over GN L (rvsB u x W ((ci+1:Nat):Int) cs++Pg.gnd u r))=>hnc L s' (by rw [show CS.length - cs.length=ci+1 by omega];exact h1)
     rw [show ((ci:Int)+1)=((ci+1:Nat):Int) by omega] at hinv
     generalize hX:rvsB u x W ((ci+1:Nat):Int) cs++Pg.gnd u r=X at *
     refine rS_ Tryz.func6 ?_
     simp only [go_sem,seval,hltc,idx_of hci,encC_eq]
     refine AW.lp [1,8,9,13,14,15,29,30,31,66,67,68] (fun q:Nat×List RV=>[(16,.d (.int .i64 (q.1:Int))),(6,.own 1 q.2.length)]) (fun _ q=>[.box (p.enc.map .d),.grow q.2.length 6 64 (q.2.map rvE),.box (x.enc.map .d),.grow y 1 3 (vrs y)]) (fun q=>q.1≤W∧Over GN q.2 (rvsC u x (ci:Int) c q.1 (W - q.1)++X)) (fun q=>W - q.1) (0,L) ⟨Nat.zero_le _,hinv⟩ wk1_ ?_
     rintro ⟨w,L1⟩ ⟨j1,j2⟩ hnw
     dsimp only at j1 j2 hnw ⊢
     have hnw:=fun w' L' s' h=>hnw (w',L') s' h
     have hL2:=j2.le
     by_cases hwW:w<W
     ·have n3:(w:Int)<(W:Int):=by omega
      by_cases hw2:L1.length≤2000
      ·have n4:(L1.length:Int)≤2000:=by omega
       have hvl:=gVals_len u y w
       have hvm:=gVals_mem hup y w
       rw [show W - w=(W - (w+1))+1 by omega,rvsC_s,c_] at j2
       have hrk:rvK u x (ci:Int) c w=if rvFine u c (gVals u y w)=true then some (rvOf x (ci:Int) c (gVals u y w)) else none:=by unfold rvK;rw [hnn]
       have hva:Gives Tryz.prog 24 [.sl (vrs y),.sl (u.map V.enc),.int .i64 w] (.d (.sl (bdD (gVals u y w)))):=l08Values_fn u y w hup (by omega) (by omega) (by omega)
       have w7:IntKind.i64.wrap ((w:Int)+1)=((w+1:Nat):Int):=by rw [wrap_ok (by omega) (by omega)];omega
       generalize gVals u y w=vs at *
       have hru:=l18Rule_fn x (ci:Int) c vs (by rw [hvl];exact hcs) (by omega) z1 z3 (by omega) (by omega)
       rw [←rvOf_ru] at hru
       have hre:∀d,(rvOf x (ci:Int) d vs).ru.enc=rvE (rvOf x (ci:Int) d vs):=fun d=>rfl
       rw [hre,rvE_eq] at hru
       unfold rvFine at hrk
       cases hh:clsHolds (valAt vs) c with
       | false =>
        rw [hh] at hru hrk
        rw [hrk] at j2
        refine run_sound Tryz.func6 mixed 8 _ _ (by kernel_rfl) ?_
        simp only [go_sem,seval,run.eq_1,n3,n4]
        refine AW.drawA mixed #[true,true,true,true,true,true,true,true,true,true,true,true,false,false] [(2,.box (x.enc.map .d))] [] [0,1,2,3,4,5,11,6,7,8,9,10] [12,13] (some (11,17,64,[.string ⟨#[]⟩,.slice none 0 0,.int .i64 0,.slice none 0 0,.slice none 0 0,.slice none 0 0])) (by kernel_rfl) tz64 (by simp [holdsB]) ?_
        simp only [go_sem,seval]
        repeat' (first
         | ((first
          | (refine hva.calls rfl ?_)
          | (refine hru.calls rfl ?_))<;>(try simp only [go_sem,seval]))
         | fail)
        refine rS_ Tryz.func6 ?_
        simp only [go_sem,seval]
        repeat' (first
         | (simp (disch:=omega) only [wrap_ok])
         | fail)
        refine hnw (w+1) L1 _ ⟨by omega,j2⟩ (by dsimp only;omega) wk1_
       | true =>
        have hpre:=(clsPre_all hh).1
        rw [hh,hpre] at hru
        rw [hh,Bool.true_and] at hrk
        have hiP:=l18Inside_fn (clsPos (valAt vs) c) u (by omega)
        have hiN:=l18Inside_fn (clsNeg (valAt vs) c) u (by omega)
        have hrF:rvOf x (ci:Int) c vs=⟨(x.name,vs.take x.arity.toNat),(ci:Int),vs,clsPos (valAt vs) c,clsNeg (valAt vs) c⟩:=rfl
        have hpl:=posLen hcs (valAt vs)
        have hnl:=negLen hcs (valAt vs)
        rw [hrF] at hru hrk
        dsimp only at hru
        have hP1:=clsPos_len (valAt vs) c
        have hN1:=clsNeg_len (valAt vs) c
        generalize clsPos (valAt vs) c=P at *
        generalize clsNeg (valAt vs) c=N at *
        by_cases hin:(P.all (inUV u) && N.all (inUV u))=true
        ·rw [hin,if_pos rfl] at hrk
         rw [hrk] at j2
         rw [f_] at hin
         rw [hin.1] at hiP
         rw [hin.2] at hiN
         have hcP:=l18Copy_V P (by omega) (inUV_wt hu hin.1 hpl)
         have hcN:=l18Copy_V N (by omega) (inUV_wt hu hin.2 hnl)
         have hcV:=l02CopyAll_V vs (uniwts hu vs hvm (by omega))
         have hcA:=l02CopyAll_V (vs.take x.arity.toNat) (uniwts hu _ (fun v hv=>hvm v (List.mem_of_mem_take hv)) (by simp;omega))
         have hrE:=rvE_eq (RV.mk (x.name,vs.take x.arity.toNat) (ci:Int) vs P N)
         dsimp only at hrE
         have hj2:Over GN (L1++[RV.mk (x.name,vs.take x.arity.toNat) (ci:Int) vs P N]) (rvsC u x (ci:Int) c (w+1) (W - (w+1))++X):=j2.step (o:=some _) hw2 rfl
         generalize (RV.mk (x.name,vs.take x.arity.toNat) (ci:Int) vs P N)=RR at *
         refine run_sound Tryz.func6 mixed 8 _ _ (by kernel_rfl) ?_
         simp only [go_sem,seval,run.eq_1,n3,n4]
         refine AW.drawA mixed #[true,true,true,true,true,true,true,true,true,true,true,true,false,false] [(2,.box (x.enc.map .d))] [] [0,1,2,3,4,5,11,6,7,8,9,10] [12,13] (some (11,17,64,[.string ⟨#[]⟩,.slice none 0 0,.int .i64 0,.slice none 0 0,.slice none 0 0,.slice none 0 0])) (by kernel_rfl) tz64 (by simp [holdsB]) ?_
         simp only [go_sem,seval]
         repeat' (first
          | ((first
           | (refine hva.calls rfl ?_)
           | (refine hru.calls rfl ?_))<;>(try simp only [go_sem,seval]))
          | fail)
         refine rS_ Tryz.func6 ?_
         simp only [go_sem,seval]
         repeat' (first
          | ((first
           | (refine hiP.calls rfl ?_)
           | (refine hiN.calls rfl ?_)
           | (refine hcP.calls rfl ?_)
           | (refine hcN.calls rfl ?_)
           | (refine hcV.calls rfl ?_)
           | (refine hcA.calls rfl ?_)
           | (refine ⟨sd,?_⟩))<;>(try simp only [go_sem,seval,w7]))
          | fail)
         refine hnw (w+1) (L1++[RR]) _ ⟨by omega,hj2⟩ (by dsimp only;omega) (by refine ⟨by simp [mkS,hrE],by simp [mkS,hrE],by simp only [mkS,b_,d_,O.refsLt,C.refsLt,C.refsLt1,all_dmap];first | done | rfl | (simp;done),?_⟩;simp [mkS,Abs.get,C.refsLtT,C.refsLt,C.refsLt1,hrE])
        ·rw [if_neg hin] at hrk
         rw [hrk] at j2
         cases hp1:P.all (inUV u) with
         | false =>
          rw [hp1] at hiP
          refine run_sound Tryz.func6 mixed 8 _ _ (by kernel_rfl) ?_
          simp only [go_sem,seval,run.eq_1,n3,n4]
          refine AW.drawA mixed #[true,true,true,true,true,true,true,true,true,true,true,true,false,false] [(2,.box (x.enc.map .d))] [] [0,1,2,3,4,5,11,6,7,8,9,10] [12,13] (some (11,17,64,[.string ⟨#[]⟩,.slice none 0 0,.int .i64 0,.slice none 0 0,.slice none 0 0,.slice none 0 0])) (by kernel_rfl) tz64 (by simp [holdsB]) ?_
          simp only [go_sem,seval]
          repeat' (first
           | ((first
            | (refine hva.calls rfl ?_)
            | (refine hru.calls rfl ?_))<;>(try simp only [go_sem,seval]))
           | fail)
          refine rS_ Tryz.func6 ?_
          simp only [go_sem,seval]
          repeat' (first
           | ((refine hiP.calls rfl ?_)<;>(try simp only [go_sem,seval,w7]))
           | fail)
          refine hnw (w+1) L1 _ ⟨by omega,j2⟩ (by dsimp only;omega) wk1_
         | true =>
          rw [hp1] at hiP
          have hp2:N.all (inUV u)=false:=by rw [hp1,Bool.true_and] at hin;simpa using hin
          rw [hp2] at hiN
          refine run_sound Tryz.func6 mixed 8 _ _ (by kernel_rfl) ?_
          simp only [go_sem,seval,run.eq_1,n3,n4]
          refine AW.drawA mixed #[true,true,true,true,true,true,true,true,true,true,true,true,false,false] [(2,.box (x.enc.map .d))] [] [0,1,2,3,4,5,11,6,7,8,9,10] [12,13] (some (11,17,64,[.string ⟨#[]⟩,.slice none 0 0,.int .i64 0,.slice none 0 0,.slice none 0 0,.slice none 0 0])) (by kernel_rfl) tz64 (by simp [holdsB]) ?_
          simp only [go_sem,seval]
          repeat' (first
           | ((first
            | (refine hva.calls rfl ?_)
            | (refine hru.calls rfl ?_))<;>(try simp only [go_sem,seval]))
           | fail)
          refine rS_ Tryz.func6 ?_
          simp only [go_sem,seval]
          repeat' (first
           | ((first
            | (refine hiP.calls rfl ?_)
            | (refine hiN.calls rfl ?_))<;>(try simp only [go_sem,seval,w7]))
           | fail)
          refine hnw (w+1) L1 _ ⟨by omega,j2⟩ (by dsimp only;omega) wk1_
      ·have n4:¬(L1.length:Int)≤2000:=by omega
       refine rS_ Tryz.func6 ?_
       simp only [go_sem,seval,n3,n4]
       repeat' (first
        | (simp (disch:=omega) only [wrap_ok])
        | fail)
       all_goals refine hnc L1 _ (j2.full hw2) wk1_
     ·have n3:¬(w:Int)<(W:Int):=by omega
      rw [show W - w=0 by omega] at j2
      have e0:rvsC u x (ci:Int) c w 0=[]:=rfl
      rw [e0,List.nil_append] at j2
      refine rS_ Tryz.func6 ?_
      simp only [go_sem,seval,n3]
      repeat' (first
       | (simp (disch:=omega) only [wrap_ok])
       | fail)
      all_goals refine hnc L1 _ j2 wk1_
    ·have e0:rvsB u x W ((CS.length - ([]:List (List Gl)).length:Nat):Int) []=[]:=rfl
     rw [e0,List.nil_append] at hinv
     refine rS_ Tryz.func6 ?_
     simp only [go_sem,seval]
     repeat' (first
      | (simp (disch:=omega) only [wrap_ok])
      | fail)
     all_goals refine hnext L _ hinv wk1_
   ·have hg:x.gOk u=false:=by rw [hgo,decide_eq_false h4,Bool.and_false]
    have h41:¬sways u.length 4096 y 1≤4096:=fun h=>h4 (hsw.1.2 h)
    have n2:(4096:Int)<(sways u.length 4096 y 1:Int):=by omega
    rw [Pg.gr_bad hxm hg,grC_none] at hRES
    rw [←hRES]
    generalize sways u.length 4096 y 1=W at *
    refine rS_ Tryz.func6 ?_
    simp only [go_sem,seval,n2]
    repeat' (first
     | ((first
      | (refine hcl.calls rfl ?_)
      | (refine hwy.calls rfl ?_))<;>(try simp only [go_sem,seval,n2]))
     | fail)
  ·have hg:x.gOk u=false:=by rw [hgo,decide_eq_false h64,Bool.false_and]
   rw [if_neg (fun h=>h64 h.2)] at hcl
   unfold clsR at hcl
   rw [Option.getD_none,Option.isSome_none] at hcl
   rw [Pg.gr_bad hxm hg,grC_none] at hRES
   rw [←hRES]
   generalize sways u.length 4096 y 1=W at *
   refine rS_ Tryz.func6 ?_
   simp only [go_sem,seval]
   repeat' (first
    | ((first
     | (refine hcl.calls rfl ?_)
     | (refine hwy.calls rfl ?_))<;>(try simp only [go_sem,seval]))
    | fail)
 ·obtain ⟨⟨dn,i0,i1⟩,i2⟩:=hinv
  rw [g_] at i0
  subst i0
  have e0:Pg.gnd u []=[]:=rfl
  rw [e0] at i2
  rcases i2 with ⟨h1,h2⟩ | ⟨h1,X,h2⟩
  ·rw [g_] at h2
   rw [Pg.gr_some i1 (by rw [hGN,h2];exact h1),hGN,h2,grC_some] at hRES
   rw [←hRES]
   have n5:¬(2000:Int)<(L.length:Int):=by omega
   refine rS_ Tryz.func6 ?_
   simp only [go_sem,seval,n5]
  ·rw [Pg.gr_none (hGN.trans h2) (by omega),grC_none] at hRES
   rw [←hRES]
   have n5:(2000:Int)<(L.length:Int):=by omega
   refine rS_ Tryz.func6 ?_
   simp only [go_sem,seval,n5]
def Pg.grO (p:Pg) (u:List Tm):Option (List RV):=if pgOk p=true∧uniOk u=true then p.gr (u.map Tm.V) else none
theorem sGroundRules_fn (p:Pg) (u:List Tm) (hw:wtL p.enc≤1048576) (hwu:∀t,t∈u→wtL t.enc≤1048576) (hlu:u.length≤9000000):Gives Tryz.prog 6 [.agg p.enc,.sl (u.map Tm.enc)] (grC (Pg.grO p u)):=by
 have ha:=sProgramOk_fn p (by omega)
 have hb:=sUniverseOk_fn u hwu hlu
 unfold Pg.grO
 by_cases h1:pgOk p=true
 ·by_cases h2:uniOk u=true
  ·rw [if_pos ⟨h1,h2⟩]
   obtain ⟨hu,he⟩:=Uni.of h2
   rw [h2] at hb
   have hee:u.map Tm.enc=(u.map Tm.V).map V.enc:=by rw [←enc_tms,←he]
   rw [hee] at hb ⊢
   exact sGroundRules_V p _ h1 hw hu hb
  ·rw [if_neg (fun h=>h2 h.2),grC_none]
   rw [h1] at ha
   simp only [Bool.not_eq_true] at h2
   rw [h2] at hb
   refine aE_ Tryz.func6 ?_
   refine rS_ Tryz.func6 ?_
   simp only [go_sem,seval]
   repeat' (first
    | ((first
     | (refine ha.calls rfl ?_)
     | (refine hb.calls rfl ?_))<;>(try simp only [go_sem,seval]))
    | fail)
 ·rw [if_neg (fun h=>h1 h.1),grC_none]
  simp only [Bool.not_eq_true] at h1
  rw [h1] at ha
  refine aE_ Tryz.func6 ?_
  refine rS_ Tryz.func6 ?_
  simp only [go_sem,seval]
  repeat' (first
   | ((refine ha.calls rfl ?_)<;>(try simp only [go_sem,seval]))
   | fail)
end Go.Proofs.YthilkmjkgpdngaaGreat
