import Derived.Test.YtehkgphockcjdaaGreatW106
import Derived.Test.YtehkgphockcjdaaGreatP16
import Derived.Test.YtehkgphockcjdaaGreatA10
import Derived.Test.YtehkgphockcjdaaGreatW170
import Derived.Test.YtehkgphockcjdaaGreatW173
import Derived.Test.YtehkgphockcjdaaGreatW14
open List renaming length_map→a_,all_cons→b_,all_nil→c_,length_cons→d_,length_append→e_,mem_of_getElem?→f_,getElem?_map→g_,append_nil→i_,flatMap_cons→j_,map_map→k_
open Nat renaming le_trans→h_
namespace Go.Proofs.YtehkgphockcjdaaGreat
open Go.Abs
set_option maxRecDepth 100000
set_option maxHeartbeats 8000000
set_option linter.unusedSimpArgs false
set_option linter.unusedVariables false
def rowB (x:List V):List D:=[.sl (bdD x)]
@[go_sem] theorem rowB_len (x:List V):(rowB x).length=1:=rfl
theorem bdsF_snoc:∀(x:List V) (i:Nat) (t:V),bdsF i (x++[t])=bdsF i x++[⟨((i+x.length:Nat):Int),t.tm⟩]
 | [],i,t=>rfl
 | v :: r,i,t=>by
  simp only [List.cons_append,bdsF,bdsF_snoc r (i+1) t,d_]
  rw [show i+1+r.length=i+(r.length+1) by omega]
theorem bdD_snoc (x:List V) (t:V):bdD (x++[t])=bdD x++[.int .i64 (x.length:Int) :: t.enc]:=by
 unfold bdD
 rw [bdsF_snoc,List.map_append,Nat.zero_add]
 simp [Bd.enc,V.enc]
theorem assignments_fn (U:List V) (n:Nat) (hn:n≤4) (hU:U.length≤8):Gives Tryz.prog 30 [.sl (intsD ((List.range n).map fun i:Nat=>(i:Int))),.sl (U.map V.enc)] (.d (.sl ((asgF U n).map rowB))):=by
 have hmx:maxLen=9223372036854775807:=rfl
 have hmu:(U.map V.enc).length=U.length:=a_ _
 have hmr:∀l:List (List V),(l.map rowB).length=l.length:=fun l=>a_ _
 obtain ⟨VS,hVS⟩:∃z,(List.range n).map (fun i:Nat=>(i:Int))=z:=⟨_,rfl⟩
 have hvl:VS.length=n:=by rw [←hVS];simp
 have hva:∀i,i<n→VS[i]? = some (i:Int):=fun i hi=>by rw [←hVS,g_,List.getElem?_range hi];rfl
 rw [hVS]
 clear hVS
 have hrl:(intsD VS).length=n:=by rw [←hvl];simp [intsD]
 have hpow:∀m,m≤4→(asgF U m).length≤4096:=fun m hm=>by
  rw [asgF_len]
  exact h_ (Nat.pow_le_pow_left hU m) (h_ (Nat.pow_le_pow_right (by omega) hm) (by decide))
 obtain ⟨RA,hRA⟩:∃RA:Nat→List (List D),RA=fun m=>(asgF U m).map rowB:=⟨_,rfl⟩
 have has0:RA 0=[[D.sl []]]:=by rw [hRA];rfl
 have hRn:(asgF U n).map rowB=RA n:=by rw [hRA]
 rw [hRn]
 refine aE_ Tryz.func30 ?_
 refine rS_ Tryz.func30 ?_
 simp only [go_sem,seval,hrl]
 rw [←has0]
 refine AW.rng VS [1,15,16] 17 15 (fun m:Nat=>[(5,.d (.sl (RA m)))]) (fun _ _=>[]) (fun r m=>m+r.length=n) 0 rfl (by rw [hrl,hvl]) (by rw [hvl,Nat.zero_add]) (by refine ⟨by simp [mkS,has0,hrl],by simp [mkS,has0,hrl],by simp only [mkS,b_,c_,O.refsLt,C.refsLt,C.refsLt1,all_dmap];first | done | rfl | (simp;done),?_⟩;simp [mkS,Abs.get,C.refsLtT,C.refsLt,C.refsLt1]) (fun i x r m hxi hdr hlt hm hinv hnext=>?_) (fun m hinv=>?_)
 ·have hdl:=congrArg List.length hdr
  simp only [List.length_drop,hvl,d_] at hdl hinv
  have hil:=(List.getElem?_eq_some_iff.1 hxi).1
  rw [hvl] at hil
  rw [hva i hil] at hxi
  cases hxi
  obtain rfl:m=i:=by omega
  have hpl:=hpow (m+1) (by omega)
  have hlt2:(m:Int)<(n:Int):=by omega
  have hat:(intsD VS)[m]? = some [.int .i64 (m:Int)]:=by simp [intsD,hva m hil]
  have wm:IntKind.i64.wrap ((m:Int)+1)=(m:Int)+1:=by rw [wrap_ok (by omega) (by omega)]
  have hnx:=fun s'=>hnext (m+1) s' (by omega)
  clear hnext
  have hrl2:∀y,y∈asgF U m→y.length=m:=fun y hy=>((asgF_mem U m y).1 hy).1
  have hstep:asgF U (m+1)=(asgF U m).flatMap fun y=>U.map fun t=>y++[t]:=rfl
  obtain ⟨NX,hNX⟩:∃z,asgF U (m+1)=z:=⟨_,rfl⟩
  have e1:RA m=(asgF U m).map rowB:=by rw [hRA]
  have e2:RA (m+1)=(asgF U (m+1)).map rowB:=by rw [hRA]
  rw [e1]
  rw [e2] at hnx
  rw [hNX] at hstep hpl hnx
  clear e1 e2 hRn has0 hRA
  generalize asgF U m=RS at *
  refine run_sound Tryz.func30 mixed 11 _ _ (by kernel_rfl) ?_
  simp only [go_sem,seval,run.eq_1,hlt2,idx_of hat,hrl]
  refine AW.adopt 8 1 58 (by decide) rfl ?_
  refine rS_ Tryz.func30 ?_
  simp only [go_sem,seval,hmr]
  refine AW.rng RS [1,7,15,16,17,22,23] 24 22 (fun ac:List (List V)=>[(8,.own 0 ac.length)]) (fun _ ac=>[.grow ac.length 1 58 (ac.map rowB)]) (fun r ac=>ac++r.flatMap (fun y=>U.map fun t=>y++[t])=NX) [] rfl (by simp) hstep.symm wk3_ (fun j y rs ac hyj hds hjt hm2 hinv2 hn2=>?_) (fun ac hinv2=>?_)
  ·have hyl:=hrl2 y (f_ hyj)
   have hye:(RS.map rowB)[j]? = some [.sl (bdD y)]:=by rw [g_,hyj];rfl
   have hy5:∀y',y'∈bdD y→y'.length=5:=fun y' hy'=>by
    obtain ⟨b,_,rfl⟩:=List.mem_map.1 hy';exact Bd.enc_len b
   have hbl:(bdD y).length=y.length:=by unfold bdD;rw [a_,bdsF_len]
   have wj:IntKind.i64.wrap ((j:Int)+1)=(j:Int)+1:=by rw [wrap_ok (by omega) (by omega)]
   rw [j_] at hinv2
   refine rS_ Tryz.func30 ?_
   simp only [go_sem,seval,hjt,idx_of hye,hmu]
   refine AW.rng U [1,7,10,15,16,17,22,23,24,28,29] 30 28 (fun ac:List (List V)=>[(8,.own 0 ac.length)]) (fun _ ac=>[.grow ac.length 1 58 (ac.map rowB)]) (fun r ac=>ac++(r.map (fun t=>y++[t])++rs.flatMap (fun y=>U.map fun t=>y++[t]))=NX) ac rfl (by simp) hinv2 wk3_ (fun jj t rt ac2 hti hdt htl hm3 hinv3 hn3=>?_) (fun ac2 hinv3=>?_)
   ·have hal:=congrArg List.length hinv3
    simp only [e_,a_,d_] at hal
    have wjj:IntKind.i64.wrap ((jj:Int)+1)=(jj:Int)+1:=by rw [wrap_ok (by omega) (by omega)]
    have hrow:rowB (y++[t])=[.sl (bdD y++[.int .i64 (m:Int) :: t.enc])]:=by unfold rowB;rw [bdD_snoc,hyl]
    refine run_sound Tryz.func30 mixed 9 _ _ (by kernel_rfl) ?_
    simp only [go_sem,seval,run.eq_1,htl,idx_of hti,hbl,wjj]
    refine AW.drawN mixed #[true,true,true,true,true,true,true,true,true,true,false,false] [(1,.box (t.enc.map .d))] 10 [10,11] (by kernel_rfl) (by simp [holdsB]) (fun A Q h0 hq hp hQ0 hQ1=>?_)
    refine hq _ _ 0 _ _ (by kernel_rfl) ?_
    simp only [go_sem,seval,hbl]
    refine hq _ _ 2 _ _ (by kernel_rfl) ?_
    simp only [go_sem,seval,hbl]
    refine hq _ _ 4 _ _ (by kernel_rfl) ?_
    simp only [go_sem,seval,hbl]
    refine hq _ _ 5 _ _ (by kernel_rfl) ?_
    simp only [go_sem,seval,hbl]
    refine hq _ _ 6 _ _ (by kernel_rfl) ?_
    simp only [go_sem,seval,hbl]
    refine hp _ _ [1,7] _ _ (by kernel_rfl) (by simp) ?_
    simp only [go_sem,seval,hbl]
    refine ⟨?_,?_⟩
    ·refine hp _ _ [3,7] _ _ (by kernel_rfl) (by simp) ?_
     simp only [go_sem,seval,hbl]
     refine ⟨⟨hy5,by omega,by omega,?_⟩,?_⟩
     ·refine hp _ _ [7] _ _ (by kernel_rfl) (by simp) ?_
      simp only [go_sem,seval,hbl]
      refine hp _ _ [8] _ _ (by kernel_rfl) (by simp) ?_
      simp only [go_sem,seval,hbl]
      refine ⟨by omega,by omega,?_⟩
      refine hp _ _ [9] _ _ (by kernel_rfl) (by simp) ?_
      simp only [go_sem,seval,hbl]
      refine h0 _ ?_
      refine hQ1 _ _ _ _ ?_
      simp only [go_sem,seval,hbl]
      refine ⟨by omega,by omega,?_⟩
      refine hQ1 _ _ _ _ ?_
      simp only [go_sem,seval,hbl]
      refine hQ0 _ _ ?_
      refine rS_ Tryz.func30 ?_
      simp only [go_sem,seval,wjj,hbl]
      refine hn3 (ac2++[y++[t]]) _ (by simpa using hinv3) (by refine ⟨by simp [mkS,hrow],by simp [mkS,hrow],by simp only [mkS,b_,c_,O.refsLt,C.refsLt,C.refsLt1,all_dmap];first | done | rfl | (simp;done),?_⟩;simp [mkS,Abs.get,C.refsLtT,C.refsLt,C.refsLt1])
     ·refine hp _ _ [3] _ _ (by kernel_rfl) (by simp) ?_
      simp only [go_sem,seval,hbl]
      refine ⟨hy5,by omega,by omega,?_⟩
      refine hp _ _ [8] _ _ (by kernel_rfl) (by simp) ?_
      simp only [go_sem,seval,hbl]
      refine ⟨by omega,by omega,?_⟩
      refine hp _ _ [9] _ _ (by kernel_rfl) (by simp) ?_
      simp only [go_sem,seval,hbl]
      refine h0 _ ?_
      refine hQ1 _ _ _ _ ?_
      simp only [go_sem,seval,hbl]
      refine ⟨by omega,by omega,?_⟩
      refine hQ1 _ _ _ _ ?_
      simp only [go_sem,seval,hbl]
      refine hQ0 _ _ ?_
      refine rS_ Tryz.func30 ?_
      simp only [go_sem,seval,wjj,hbl]
      refine hn3 (ac2++[y++[t]]) _ (by simpa using hinv3) (by refine ⟨by simp [mkS,hrow],by simp [mkS,hrow],by simp only [mkS,b_,c_,O.refsLt,C.refsLt,C.refsLt1,all_dmap];first | done | rfl | (simp;done),?_⟩;simp [mkS,Abs.get,C.refsLtT,C.refsLt,C.refsLt1])
    ·refine hp _ _ [1] _ _ (by kernel_rfl) (by simp) ?_
     simp only [go_sem,seval,hbl]
     refine hp _ _ [3] _ _ (by kernel_rfl) (by simp) ?_
     simp only [go_sem,seval,hbl]
     refine ⟨hy5,by omega,by omega,?_⟩
     refine hp _ _ [8] _ _ (by kernel_rfl) (by simp) ?_
     simp only [go_sem,seval,hbl]
     refine ⟨by omega,by omega,?_⟩
     refine hp _ _ [9] _ _ (by kernel_rfl) (by simp) ?_
     simp only [go_sem,seval,hbl]
     refine h0 _ ?_
     refine hQ1 _ _ _ _ ?_
     simp only [go_sem,seval,hbl]
     refine ⟨by omega,by omega,?_⟩
     refine hQ1 _ _ _ _ ?_
     simp only [go_sem,seval,hbl]
     refine hQ0 _ _ ?_
     refine rS_ Tryz.func30 ?_
     simp only [go_sem,seval,wjj,hbl]
     refine hn3 (ac2++[y++[t]]) _ (by simpa using hinv3) (by refine ⟨by simp [mkS,hrow],by simp [mkS,hrow],by simp only [mkS,b_,c_,O.refsLt,C.refsLt,C.refsLt1,all_dmap];first | done | rfl | (simp;done),?_⟩;simp [mkS,Abs.get,C.refsLtT,C.refsLt,C.refsLt1])
   ·refine rS_ Tryz.func30 ?_
    simp only [go_sem,seval,wj,hmu]
    refine hn2 ac2 _ (by simpa using hinv3) wk3_
  ·rw [List.flatMap_nil,i_] at hinv2
   subst hinv2
   refine AW.readG 8 0 rfl rfl ?_
   refine rS_ Tryz.func30 ?_
   simp only [go_sem,seval,wm]
   refine hnx _ wk3_
 ·obtain rfl:m=n:=by simpa using hinv
  refine rS_ Tryz.func30 ?_
  simp only [go_sem,seval,hrl,hvl]
def afR (o:Option (List FcV)) (c:C) (H:List O):Prop:=match o with
 | some l=>c=.tup [.own 0 1,.d (.bool true)]∧∃e B,H=[.tree 1 2 e (l.map fcE) B none]
 | none=>c=.tup [.d (.sl []),.d (.bool false)]∧H=[.hole]
theorem nF_up {U:List V}:∀l:List Rl,nF U l≤2001 * l.length
 | []=>Nat.le_refl _
 | r :: q=>by have:=nF_up (U:=U) q;simp only [nF,d_];omega
theorem facts_rows (F:List FcV):F.map fcE=(F.map fun f=>(f.1,f.2.map V.enc)).map fun f=>[D.str f.1,.sl f.2]:=by
 rw [k_];exact List.map_congr_left (fun f _=>fcE_eq f)
theorem intsR_succ (k:Nat):intsD ((List.range (k+1)).map fun i:Nat=>(i:Int))=intsD ((List.range k).map fun i:Nat=>(i:Int))++[[.int .i64 (k:Int)]]:=by
 simp [intsD,List.range_succ]
theorem iAllFacts_T (p:Pg) (u:List Tm) (hw:wtL p.enc≤1048576) (hwu0:wtR (u.map Tm.enc)≤1048576):ACalls Tryz.prog 9 [.d (.agg p.enc),.d (.sl (u.map Tm.enc))] [.hole] (afR (allF p u)):=by
 have hmx:maxLen=9223372036854775807:=rfl
 have hwu:∀t,t∈u→wtL t.enc≤1048576:=fun t ht=>h_ (wtR_mem (List.mem_map.2 ⟨t,ht,rfl⟩)) hwu0
 have hlu:u.length≤9000000:=by have:=wtR_len (u.map Tm.enc);simp at this;omega
 have hok:=iProgramOk_fn p (by omega)
 have hun:=iUniverseOk_fn u hwu hlu
 unfold allF
 by_cases hp:pgOk p=true
 ·rw [hp] at hok
  by_cases hq:uniOk u=true
  ·rw [hq] at hun
   rw [if_pos ⟨hp,hq⟩]
   obtain ⟨hu,hue⟩:=Uni.of hq
   have hUe:u.map Tm.enc=(u.map Tm.V).map V.enc:=by have h:=congrArg (List.map Tm.enc) hue;rw [enc_tms] at h;exact h
   rw [hUe] at hun ⊢
   generalize u.map Tm.V=U at *
   clear hue hwu hlu hq hwu0
   have hul:=hu.le
   have hup:=hu.pos
   have hmu:(U.map V.enc).length=U.length:=a_ _
   have hmf:∀l:List FcV,(l.map fcE).length=l.length:=fun l=>a_ _
   have hrl8:p.rels.length≤8:=by
    unfold pgOk at hp
    simp only [Bool.and_eq_true,decide_eq_true_eq] at hp
    exact hp.1
   have hnu:=nF_up (U:=U) p.rels
   have hPe:=Pg.enc_eq p
   refine aE_ Tryz.func9 ?_
   refine rS_ Tryz.func9 ?_
   simp only [go_sem,seval]
   repeat' (first
    | ((first
     | (refine hok.calls rfl ?_)
     | (refine hun.calls rfl ?_))<;>(try simp only [go_sem,seval]))
    | fail)
   refine AW.rng p.rels [1,2,28,29] 30 28 (fun m:Nat=>[(6,.d (.int .i64 (m:Int)))]) (fun _ _=>[.hole,.box [.d (.sl (p.rels.map Rl.enc))]]) (fun q m=>m+nF U q=nF U p.rels) 0 rfl (by simp) (by simp) (by refine ⟨by simp [mkS,Pg.enc_eq],by simp [mkS,Pg.enc_eq],by simp only [mkS,b_,c_,O.refsLt,C.refsLt,C.refsLt1,all_dmap];first | done | rfl | (simp;done),?_⟩;simp [mkS,Abs.get,C.refsLtT,C.refsLt,C.refsLt1]) (fun ii x s m hxi hdr hlt hm hinv hnext=>?_) (fun m hinv=>?_)
   ·have hxm:=f_ hxi
    obtain ⟨z1,z2,z3,z4⟩:=Pg.dims hp hxm
    obtain ⟨a,ha,ha4⟩:∃a:Nat,x.arity=(a:Int)∧a≤4:=⟨x.arity.toNat,by omega,by omega⟩
    have hRe:=Rl.enc_eq x
    rw [ha] at hRe
    simp only [nF] at hinv
    have hwy:=ways_fn U.length a 2000 hul (by omega) (by omega)
    rw [show x.arity.toNat=a by omega] at hinv
    generalize min (sways U.length 2000 a 1) (2000+1)=W at *
    have wi:IntKind.i64.wrap ((ii:Int)+1)=(ii:Int)+1:=by rw [wrap_ok (by omega) (by omega)]
    have wm:IntKind.i64.wrap ((m:Int)+(W:Int))=(m:Int)+(W:Int):=by rw [wrap_ok (by omega) (by omega)]
    refine rS_ Tryz.func9 ?_
    simp only [go_sem,seval,hlt,idx_of hxi,hRe,ha,hmu,wm]
    repeat' (first
     | ((refine hwy.calls rfl ?_)<;>(try simp only [go_sem,seval,hlt,idx_of hxi,hRe,ha,hmu,wi,wm]))
     | fail)
    refine hnext (m+W) _ (by omega) (by refine ⟨by simp [mkS,Pg.enc_eq],by simp [mkS,Pg.enc_eq],by simp only [mkS,b_,c_,O.refsLt,C.refsLt,C.refsLt1,all_dmap];first | done | rfl | (simp;done),?_⟩;simp [mkS,Abs.get,C.refsLtT,C.refsLt,C.refsLt1])
   ·simp only [nF,Nat.add_zero] at hinv
    subst hinv
    unfold allI
    by_cases hc:nF U p.rels≤2000
    ·have n2:¬(2000:Int)<(nF U p.rels:Int):=by omega
     rw [if_pos hc]
     unfold afR
     dsimp only
     refine run_sound Tryz.func9 mixed 12 _ _ (by kernel_rfl) ?_
     simp only [go_sem,seval,run.eq_1,n2]
     obtain ⟨FIN,hFIN⟩:∃z,p.rels.flatMap (relF U)=z:=⟨_,rfl⟩
     rw [hFIN]
     have hpow:∀r:Rl,r∈p.rels→(relF U r).length≤4096:=fun r hr=>by
      obtain ⟨z1,z2,_,_⟩:=Pg.dims hp hr
      unfold relF
      rw [a_,asgF_len]
      exact h_ (Nat.pow_le_pow_left hul _) (h_ (Nat.pow_le_pow_right (by omega) (show r.arity.toNat≤4 by omega)) (by decide))
     have hFl:FIN.length≤32768:=by
      have key:∀l:List Rl,(∀r,r∈l→(relF U r).length≤4096)→(l.flatMap (relF U)).length≤4096 * l.length:=fun l=>by
       induction l with
       | nil=>intro _;simp
       | cons r q ih =>
        intro h
        have h1:=ih (fun x hx=>h x (by simp [hx]))
        have h2:=h r (by simp)
        rw [j_,e_,d_];omega
      have:=key p.rels hpow
      rw [hFIN] at this;omega
     refine AW.adoptT 9 2 57 (by decide) rfl ?_
     refine rS_ Tryz.func9 ?_
     simp only [go_sem,seval]
     refine AW.rng p.rels [1,46,47] 48 46 (fun ac:List FcV×(Nat→Prop)=>[(9,.own 2 ac.1.length)]) (fun _ ac=>[.hole,.box [.d (.sl (p.rels.map Rl.enc))],.tree ac.1.length 2 57 (ac.1.map fcE) ac.2 none]) (fun q ac=>ac.1++q.flatMap (relF U)=FIN) ([],fun _=>False) rfl (by simp) hFIN (by refine ⟨by simp [mkS,Pg.enc_eq],by simp [mkS,Pg.enc_eq],by simp only [mkS,b_,c_,O.refsLt,C.refsLt,C.refsLt1,all_dmap];first | done | rfl | (simp;done),?_⟩;simp [mkS,Abs.get,C.refsLtT,C.refsLt,C.refsLt1]) (fun ii x s ac hxi hdr hlt hm hinv hnext=>?_) (fun ac hinv=>?_)
     ·obtain ⟨Fs,B⟩:=ac
      dsimp only at hinv hnext ⊢
      have hxm:=f_ hxi
      obtain ⟨z1,z2,z3,z4⟩:=Pg.dims hp hxm
      obtain ⟨a,ha,ha4⟩:∃a:Nat,x.arity=(a:Int)∧a≤4:=⟨x.arity.toNat,by omega,by omega⟩
      have hRe:=Rl.enc_eq x
      rw [ha] at hRe
      rw [j_] at hinv
      have hrF:relF U x=(asgF U a).map fun y=>(x.name,y):=by
       unfold relF;rw [show x.arity.toNat=a by omega]
      have wi:IntKind.i64.wrap ((ii:Int)+1)=(ii:Int)+1:=by rw [wrap_ok (by omega) (by omega)]
      have has:=assignments_fn U a ha4 hul
      obtain ⟨RI,hRI⟩:∃z:Nat→List (List D),z=fun k=>intsD ((List.range k).map fun i:Nat=>(i:Int)):=⟨_,rfl⟩
      have hR0:RI 0=[]:=by rw [hRI];rfl
      have hRs:∀k,RI (k+1)=RI k++[[.int .i64 (k:Int)]]:=fun k=>by rw [hRI];exact intsR_succ k
      have hRl:∀k,(RI k).length=k:=fun k=>by rw [hRI];simp [intsD]
      have hRa:intsD ((List.range a).map fun i:Nat=>(i:Int))=RI a:=by rw [hRI]
      rw [hRa] at has
      clear hRa hRI
      have hnx:=fun G B' s'=>hnext (G,B') s'
      clear hnext
      dsimp only at hnx
      refine rS_ Tryz.func9 ?_
      simp only [go_sem,seval,hlt,idx_of hxi,hRe]
      refine AW.adopt 12 1 3 (by decide) rfl ?_
      refine AW.lp [1,9,11,46,47,48] (fun k:Nat=>[(13,.d (.int .i64 (k:Int))),(12,.own 4 k)]) (fun _ k=>[.hole,.box [.d (.sl (p.rels.map Rl.enc))],.tree Fs.length 2 57 (Fs.map fcE) B none,.box (x.enc.map .d),.grow k 1 3 (RI k)]) (fun k=>k≤a) (fun k=>a - k) 0 (Nat.zero_le _) (by refine ⟨by simp [mkS,hRe,hR0],by simp [mkS,hRe,hR0],by simp only [mkS,b_,c_,O.refsLt,C.refsLt,C.refsLt1,all_dmap];first | done | rfl | (simp;done),?_⟩;simp [mkS,Abs.get,C.refsLtT,C.refsLt,C.refsLt1]) ?_
      intro k hk hnk
      by_cases hka:k<a
      ·have n1:(k:Int)<(a:Int):=by omega
       have wk:IntKind.i64.wrap ((k:Int)+1)=(k:Int)+1:=by rw [wrap_ok (by omega) (by omega)]
       refine rS_ Tryz.func9 ?_
       simp only [go_sem,seval,n1,hRe,wk,hRl]
       repeat' (first
        | ((refine ⟨sd,?_⟩)<;>(try simp only [go_sem,seval,n1,hRe,wk,hRl]))
        | fail)
       refine hnk (k+1) _ (by omega) (by omega) (by refine ⟨by simp [mkS,hRe,hRs],by simp [mkS,hRe,hRs],by simp only [mkS,b_,c_,O.refsLt,C.refsLt,C.refsLt1,all_dmap];first | done | rfl | (simp;done),?_⟩;simp [mkS,Abs.get,C.refsLtT,C.refsLt,C.refsLt1])
      ·obtain rfl:k=a:=by omega
       have n1:¬(k:Int)<(k:Int):=by omega
       refine AW.readG 12 4 rfl rfl ?_
       have hml:((asgF U k).map rowB).length=(asgF U k).length:=a_ _
       refine rS_ Tryz.func9 ?_
       simp only [go_sem,seval,n1,hRe,hml]
       repeat' (first
        | ((refine has.calls rfl ?_)<;>(try simp only [go_sem,seval,n1,hRe,hml]))
        | fail)
       refine AW.rng (asgF U k) [1,11,46,47,48,65,66] 67 65 (fun ac:List FcV×(Nat→Prop)=>[(9,.own 2 (Fs.length+ac.1.length))]) (fun _ ac=>[.hole,.box [.d (.sl (p.rels.map Rl.enc))],.tree (Fs.length+ac.1.length) 2 57 ((Fs++ac.1).map fcE) ac.2 none,.box (x.enc.map .d)]) (fun r ac=>ac.1++r.map (fun y=>(x.name,y))=relF U x) ([],B) rfl (by simp) (by rw [hrF];rfl) (by refine ⟨by simp [mkS,hRe],by simp [mkS,hRe],by simp only [mkS,b_,c_,O.refsLt,C.refsLt,C.refsLt1,all_dmap];first | done | rfl | (simp;done),?_⟩;simp [mkS,Abs.get,C.refsLtT,C.refsLt,C.refsLt1]) (fun j y ry ac hyj hds hjt hm2 hinv2 hn2=>?_) (fun ac hinv2=>?_)
       ·obtain ⟨G,B2⟩:=ac
        dsimp only at hinv2 hn2 ⊢
        have hye:((asgF U k).map rowB)[j]? = some [.sl (bdD y)]:=by rw [g_,hyj];rfl
        have hbl:(bdD y).length=y.length:=by unfold bdD;rw [a_,bdsF_len]
        have hyl:y.length=k:=((asgF_mem U k y).1 (f_ hyj)).1
        have hGl:G.length+(ry.length+1)≤4096:=by
         have h1:=congrArg List.length hinv2
         have h2:=hpow x hxm
         simp only [e_,a_,d_] at h1
         omega
        have hFsl:Fs.length≤32768:=by
         have h1:=congrArg List.length hinv
         simp only [e_] at h1
         omega
        have wj:IntKind.i64.wrap ((j:Int)+1)=(j:Int)+1:=by rw [wrap_ok (by omega) (by omega)]
        have hn3:=fun G' B' s'=>hn2 (G',B') s'
        clear hn2
        dsimp only at hn3
        refine rS_ Tryz.func9 ?_
        simp only [go_sem,seval,hjt,idx_of hye,hRe,hbl]
        refine AW.adoptTB 4 1 4 62 (by decide) rfl rfl ?_
        refine AW.rng y [1,9,11,16,46,47,48,65,66,67,74,75] 76 74 (fun vs:List V×(Nat→Prop)=>[]) (fun _ vs=>[.hole,.box [.d (.sl (p.rels.map Rl.enc))],.tree (Fs.length+G.length) 2 57 ((Fs++G).map fcE) B2 none,.box (x.enc.map .d),.box [.d (.str x.name),.own 5 vs.1.length],.tree vs.1.length 4 62 (vs.1.map V.enc) vs.2 none]) (fun r vs=>vs.1++r=y) ([],fun _=>False) rfl hbl rfl (by refine ⟨by simp [mkS,hRe],by simp [mkS,hRe],by simp only [mkS,b_,c_,O.refsLt,C.refsLt,C.refsLt1,all_dmap];first | done | rfl | (simp;done),?_⟩;simp [mkS,Abs.get,C.refsLtT,C.refsLt,C.refsLt1]) (fun jj v s2 vs hvi hds2 hjt2 hm3 hinv3 hn4=>?_) (fun vs hinv3=>?_)
        ·obtain ⟨vs,B3⟩:=vs
         dsimp only at hinv3 hn4 ⊢
         have hbe:(bdD y)[jj]? = some (.int .i64 (jj:Int) :: v.enc):=by
          unfold bdD
          rw [g_,bdsF_at y 0 jj v hvi]
          simp [Bd.enc,V.enc]
         have hcp:=copyTerm_T v
         unfold cpT at hcp
         have hvl:vs.length≤4:=by
          have h1:=congrArg List.length hinv3
          simp only [e_,d_] at h1
          omega
         have wjj:IntKind.i64.wrap ((jj:Int)+1)=(jj:Int)+1:=by rw [wrap_ok (by omega) (by omega)]
         have hmv:(vs.map V.enc).length=vs.length:=a_ _
         refine AW.hole ?_
         refine run_sound Tryz.func9 mixed 9 _ _ (by kernel_rfl) ?_
         simp only [go_sem,seval,run.eq_1,hjt2,idx_of hbe,hbl]
         refine AW.drawA mixed #[true,true,true,true,true,true,true,false,false] [(4,.box [.d (.str x.name),.own 5 vs.length]),(7,.box (.d (.int .i64 (jj:Int)) :: v.enc.map .d))] [] [0,1,2,3,4,5,6] [7,8] none (by kernel_rfl) trivial (by simp [holdsB]) ?_
         simp only [go_sem,seval,hmv]
         repeat' (first
          | ((first
           | (refine ACalls.fresh (ds:=[.agg v.enc]) (m:=1) hcp [6] rfl rfl (by simp) (by simp) ?_<;>(rintro c H' ⟨rfl,e2,B4,rfl⟩ _;refine ⟨rfl,rfl,?_⟩))
           | (refine all_intro (fun Bz=>?_))
           | (refine ⟨sd,?_⟩))<;>(try simp only [go_sem,seval,hmv]))
          | fail)
         refine rS_ Tryz.func9 ?_
         simp only [go_sem,seval,wjj]
         refine hn4 (vs++[v],Bz) _ (by rw [←hinv3];simp) (by refine ⟨by simp [mkS,V.enc_eq v,hRe],by simp [mkS,V.enc_eq v,hRe],by simp only [mkS,b_,c_,O.refsLt,C.refsLt,C.refsLt1,all_dmap];first | done | rfl | (simp;done),?_⟩;simp [mkS,Abs.get,C.refsLtT,C.refsLt,C.refsLt1])
        ·obtain ⟨vs,B3⟩:=vs
         dsimp only at hinv3 ⊢
         rw [i_] at hinv3
         subst hinv3
         refine run_sound Tryz.func9 mixed 5 _ _ (by kernel_rfl) ?_
         simp only [go_sem,seval,run.eq_1,hbl]
         have hfr:fcE (x.name,vs)=[.str x.name,.sl (vs.map V.enc)]:=fcE_eq _
         have hmG:((Fs++G).map fcE).length=Fs.length+G.length:=by rw [a_,e_]
         refine AW.regT ?_
         simp only [go_sem,seval,hmG,hmf]
         repeat' (first
          | ((first
           | (refine all_intro (fun Bq=>?_))
           | (refine ⟨sd,?_⟩))<;>(try simp only [go_sem,seval,hmG,hmf]))
          | fail)
         refine rS_ Tryz.func9 ?_
         simp only [go_sem,seval,wj]
         refine hn3 (G++[(x.name,vs)]) Bq _ (by simpa using hinv2) (by refine ⟨by simp [mkS,hfr,hRe,Nat.add_assoc],by simp [mkS,hfr,hRe,Nat.add_assoc],by simp only [mkS,b_,c_,O.refsLt,C.refsLt,C.refsLt1,all_dmap];first | done | rfl | (simp;done),?_⟩;simp [mkS,Abs.get,C.refsLtT,C.refsLt,C.refsLt1];omega)
       ·obtain ⟨G,B2⟩:=ac
        dsimp only at hinv2 ⊢
        rw [List.map_nil,i_] at hinv2
        subst hinv2
        refine rS_ Tryz.func9 ?_
        simp only [go_sem,seval,wi,hml]
        refine hnx (Fs++relF U x) B2 _ (by simpa using hinv) (by refine ⟨by simp [mkS,Pg.enc_eq],by simp [mkS,Pg.enc_eq],by simp only [mkS,b_,c_,O.refsLt,C.refsLt,C.refsLt1,all_dmap];first | done | rfl | (simp;done),?_⟩;simp [mkS,Abs.get,C.refsLtT,C.refsLt,C.refsLt1])
     ·obtain ⟨G,B⟩:=ac
      dsimp only at hinv ⊢
      rw [List.flatMap_nil,i_] at hinv
      subst hinv
      rw [facts_rows G]
      refine AW.crate 2 rfl (fun qs hqs=>?_)
      obtain ⟨ps,h1,h2⟩:=rp_of G qs hqs
      have hst:=sortFacts_R ps (by rw [←h2,a_] at hFl;omega) B
      rw [h2] at hst
      rw [←h1]
      have e1:(ps.map rpP).map rawF=ps.map rawE:=by rw [k_];rfl
      have e2:(ps.map rpP).map crF=ps.map crE:=by rw [k_];rfl
      rw [e1,e2]
      refine AW.freezeB 9 2 rfl rfl ?_
      refine rS_ Tryz.func9 ?_
      simp only [go_sem,seval]
      repeat' (first
       | ((first
        | (refine (ACalls.emb hst [0,3] rfl rfl rfl (by decide) rfl ?_)<;>(rintro c H' ⟨rfl,e1,rfl⟩ _;refine ⟨rfl,rfl,?_⟩))
        | (refine ⟨by assumption,?_⟩))<;>(try simp only [go_sem,seval]))
       | fail)
    ·have n2:(2000:Int)<(nF U p.rels:Int):=by omega
     rw [if_neg hc]
     unfold afR
     dsimp only
     refine rS_ Tryz.func9 ?_
     simp only [go_sem,seval,n2]
  ·have hqf:uniOk u=false:=by simpa using hq
   rw [hqf] at hun
   rw [if_neg (fun h=>hq h.2)]
   unfold afR
   dsimp only
   refine aE_ Tryz.func9 ?_
   refine rS_ Tryz.func9 ?_
   simp only [go_sem,seval]
   repeat' (first
    | ((first
     | (refine hok.calls rfl ?_)
     | (refine hun.calls rfl ?_))<;>(try simp only [go_sem,seval]))
    | fail)
 ·have hpf:pgOk p=false:=by simpa using hp
  rw [hpf] at hok
  rw [if_neg (fun h=>hp h.1)]
  unfold afR
  dsimp only
  refine aE_ Tryz.func9 ?_
  refine rS_ Tryz.func9 ?_
  simp only [go_sem,seval]
  repeat' (first
   | ((refine hok.calls rfl ?_)<;>(try simp only [go_sem,seval]))
   | fail)
end Go.Proofs.YtehkgphockcjdaaGreat
