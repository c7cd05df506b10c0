import Derived.Test.YtjbidjeijodmnaaGreatW148
import Derived.Test.YtjbidjeijodmnaaGreatW70
import Derived.Test.YtjbidjeijodmnaaGreatW35
import Derived.Test.YtjbidjeijodmnaaGreatW15
import Derived.Test.YtjbidjeijodmnaaGreatW8
import Derived.Test.YtjbidjeijodmnaaGreatP15
import Derived.Test.YtjbidjeijodmnaaGreatA10
namespace Go.Proofs.YtjbidjeijodmnaaGreat
open Go.Abs
set_option maxRecDepth 100000
set_option maxHeartbeats 8000000
set_option linter.unusedSimpArgs false
set_option linter.unusedVariables false
theorem index_fn (p:Pg) (s:List UInt8):Gives Tryz.prog 10 [.agg p.enc,.str s] (.d (.int .i64 (p.find s))):=by
 refine ACalls.enter (fn:=Tryz.f10) Tryz.func10 rfl (by show 2≤_;decide) ?_
 refine run_sound Tryz.func10 mixed 200 _ _ (by kernel_rfl) ?_
 simp only [go_sem,seval]
 refine AW.rng p.rels [1,8,9] 10 8 (fun _:Unit=>[]) (fun H _=>H) (fun r _=>findR r s ((p.rels.length - r.length:Nat):Int)=p.find s) () rfl (by simp) (by simp [Pg.find]) (by refine ⟨by simp [mkS],by simp [mkS],by simp [mkS,O.refsLt,C.refsLt,C.refsLt1],?_⟩;simp [mkS,Abs.get,C.refsLtT,C.refsLt,C.refsLt1]) (fun i x r acc hxi hdr hlt hm hinv hnext=>?_) (fun acc hinv=>?_)
 ·have hdl:=drop_len hdr
  have hdl2:p.rels.length - r.length=i+1:=by have:=congrArg List.length hdr;simp at this;omega
  simp only [List.length_cons,hdl,findR] at hinv
  rw [hdl2] at hnext
  refine run_sound Tryz.func10 mixed 200 _ _ (by kernel_rfl) ?_
  simp only [go_sem,seval,hlt,idx_of hxi]
  repeat' (first
   | ((refine br_n (fun hq=>?_) (fun hq=>?_))<;>(try simp only [go_sem,seval,hq]))
   | (simp (disch:=omega) only [wrap_ok])
   | (refine hnext () _ ?_ (by refine ⟨by simp [mkS],by simp [mkS],by simp [mkS,O.refsLt,C.refsLt,C.refsLt1],?_⟩;simp [mkS,Abs.get,C.refsLtT,C.refsLt,C.refsLt1]))
   | fail)
  all_goals clear hnext
  ·rw [←hinv];simp [*]
  ·rw [←hinv];simp [*]
 ·simp only [findR] at hinv
  refine run_sound Tryz.func10 mixed 200 _ _ (by kernel_rfl) ?_
  simp only [go_sem,seval]
  rw [hinv]
theorem cpD (p:Pg) (hw:wtL p.enc≤1048576):Gives Tryz.prog 5 [.agg p.enc] (.d (.sl ((cpV p).map encI2))):=by
 refine ACalls.frozen (ds:=[.agg p.enc]) (m:=1) (iComponents_T p hw) (fun c H' ⟨h1,e,B,h2⟩ _=>?_)
 subst h1 h2;rfl
theorem cbD (p:Pg) (hw:wtL p.enc≤1048576):Gives Tryz.prog 6 [.agg p.enc] (.d (.sl ((cbV p).map encI2))):=by
 refine ACalls.frozen (ds:=[.agg p.enc]) (m:=1) (iCalledBy_T p hw) (fun c H' ⟨h1,e,B,h2⟩ _=>?_)
 subst h1 h2;rfl
theorem stD (p:Pg) {B:Bool} {V:List Int} (hst:p.StV B V) (hok:pgOk p=true) (hw:wtL p.enc≤1048576):Gives Tryz.prog 7 [.agg p.enc] (.tup [.d (.sl (intsD V)),.d (.bool B)]):=by
 have h:=iStrata_T p hst hw
 rw [if_pos hok,hok,Bool.true_and] at h
 refine ACalls.frozen (ds:=[.agg p.enc]) (m:=1) h (fun c H' ⟨h1,e,B,h2⟩ _=>?_)
 subst h1 h2;rfl
theorem coD2 (t:Gl) (neg:Bool) (hw:wtL t.enc≤1048576) (hok:glOk t=true):Gives Tryz.prog 9 [.agg t.enc,.bool neg] (.d (.sl (strD (t.callsI neg false)))):=by
 have h:=iCallsOf_T t neg hw
 rw [if_pos hok] at h
 refine ACalls.frozen (ds:=[.agg t.enc,.bool neg]) (m:=1) h (fun c H' ⟨h1,e,B,h2⟩ _=>?_)
 subst h1 h2;rfl
theorem body_glOk {p:Pg} (h:pgOk p=true) {r:Rl} (hr:r∈p.rels):glOk r.body=true:=by
 unfold pgOk at h
 rw [Bool.and_eq_true] at h
 obtain ⟨i,hi⟩:=okL_mem h.2 r hr
 unfold Pg.relOk at hi
 simp only [Bool.and_eq_true,decide_eq_true_eq] at hi
 have hc:=hi.1.1.1.2
 have hs:=hi.1.1.2
 unfold glOk
 rw [Bool.and_eq_true,decide_eq_true_eq]
 exact ⟨by omega,hs⟩
theorem getD_at {l:List Int} {i:Nat} {x:Int} (h:l[i]? = some x):l.getD i 0=x:=by rw [List.getD_eq_getElem?_getD,h];rfl
theorem ints_get {l:List Int} {i:Nat} (h:i<l.length):(intsD l)[i]? = some [.int .i64 (l.getD i 0)]:=intsD_at (by rw [List.getD_eq_getElem?_getD,List.getElem?_eq_getElem h];rfl)
theorem rep_snoc (k:Nat) (x:Int):List.replicate k x++[x]=List.replicate (k+1) x:=by rw [←List.replicate_succ']
theorem lawFnComponents_R (B:List UInt8):ACalls Tryz.prog 3 [.d (.sl (bytesD B))] [] (fun c H'=>c=.d (.bool true)∧H'=[]):=by
 have hmx:maxLen=9223372036854775807:=rfl
 refine ACalls.enter (fn:=Tryz.f3) Tryz.func3 rfl (by show 1≤_;decide) ?_
 refine run_sound Tryz.func3 mixed 10 _ _ (by kernel_rfl) ?_
 simp only [go_sem,seval,run.eq_1,bytesD_len]
 refine br_intro (fun hq=>?_) (fun hq=>?_)
 ·simp only [go_sem,seval]
 simp only [decide_eq_false_iff_not,Int.not_lt] at hq
 have hB:B.length≤1048576:=by omega
 clear hq
 have hmk:=MakeProgram_R B hB
 simp only [go_sem,seval,bytesD_len]
 refine ACalls.emb hmk [] rfl rfl rfl (by decide) rfl ?_
 rintro c H' ⟨p,rfl,rfl,hf⟩ _
 refine ⟨rfl,rfl,?_⟩
 have hPe:=Pg.enc_eq p
 have hml:∀l:List Rl,(l.map Rl.enc).length=l.length:=fun l=>List.length_map _
 have hmi:∀l:List (List Int),(l.map encI2).length=l.length:=fun l=>List.length_map _
 obtain ⟨hC,_,hp8⟩:=cRows_ok hf.ok
 have hCl:=cRows_len p
 obtain ⟨SB,SV,hst,s1,s2,s3⟩:=p.strata_of
 have hwt:wtL p.enc≤1048576:=by have:=hf.wt;omega
 have hcp:=cpD p hwt
 have hcb:=cbD p hwt
 have hsd:=stD p hst hf.ok hwt
 have hip:=iIsPositive_fn p hwt
 have hix:=fun s=>index_fn p s
 rw [show cpV p=cpsV (cRows p) from if_pos hf.ok] at hcp
 rw [show cbV p=cRows p from if_pos hf.ok] at hcb
 rw [hPe] at hcp hcb hsd hip
 simp only [hPe] at hix
 have hPl:=PlR.init (cRows p)
 have hEd:=Pg.edges_ok hf.ok
 have hgl:=fun r hr=>body_glOk hf.ok (r:=r) hr
 have hwb:∀r,r∈p.rels→wtL r.body.enc≤1048576:=fun r hr=>by
  have h1:=(Rl.wt_body r).1
  have h2:=Pg.wt_rels hr
  omega
 simp only [go_sem,seval,hPe,run.eq_1]
 refine run_sound Tryz.func3 mixed 1 _ _ (by kernel_rfl) ?_
 simp only [go_sem,seval,run.eq_1]
 refine AW.adoptB 4 1 3 (by decide) rfl ?_
 refine run_sound Tryz.func3 mixed 200 _ _ (by kernel_rfl) ?_
 simp only [go_sem,seval,hml]
 refine AW.rng p.rels [3,30] 31 29 (fun k:Nat=>[(4,.own 1 k)]) (fun _ k=>[.box [.d (.sl (p.rels.map Rl.enc))],.buf k 1 3 (intsD (List.replicate k (-1)))]) (fun r k=>k+r.length=p.rels.length) 0 rfl (by simp) (by simp) (by refine ⟨by simp [mkS,hPe,intsD],by simp [mkS,hPe,intsD],by simp only [mkS,List.all_cons,List.all_nil,O.refsLt,C.refsLt,C.refsLt1,all_dmap];first | done | rfl | (simp;done),?_⟩;simp [mkS,Abs.get,C.refsLtT,C.refsLt,C.refsLt1]) (fun ii x r k hxi hdr hlt hm hinv hnext=>?_) (fun k hinv=>?_)
 ·have hrs:intsD (List.replicate k (-1))++[[.int .i64 (-1)]]=intsD (List.replicate (k+1) (-1)):=by rw [←intsD_one,←intsD_append,rep_snoc]
  have hrl:(intsD (List.replicate k (-1))).length=k:=by rw [intsD_len,List.length_replicate]
  have wi:IntKind.i64.wrap ((ii:Int)+1)=((ii+1:Nat):Int):=by rw [wrap_ok (by omega) (by omega)];omega
  refine run_sound Tryz.func3 mixed 200 _ _ (by kernel_rfl) ?_
  simp only [go_sem,seval,hlt,hrl,wi]
  repeat' (first
   | ((refine ⟨sd,?_⟩)<;>(try simp only [go_sem,seval,hlt,hrl,wi]))
   | fail)
  simp only [List.length_cons] at hinv
  all_goals try refine hnext (k+1) _ (by omega) (by refine ⟨by simp [mkS,hrs,wi],by simp [mkS,hrs,wi],by simp only [mkS,List.all_cons,List.all_nil,O.refsLt,C.refsLt,C.refsLt1,all_dmap];first | done | rfl | (simp;done),?_⟩;simp [mkS,Abs.get,C.refsLtT,C.refsLt,C.refsLt1])
 simp only [List.length_nil,Nat.add_zero] at hinv
 subst hinv
 rw [←hCl]
 rw [←hCl] at hEd
 refine run_sound Tryz.func3 mixed 200 _ _ (by kernel_rfl) ?_
 simp only [go_sem,seval,hmi]
 repeat' (first
  | ((refine hcp.calls rfl ?_)<;>(try simp only [go_sem,seval,hmi]))
  | fail)
 refine AW.rng (cpsV (cRows p)) [3,4,38,39] 40 38 (fun PL:List Int=>[]) (fun _ PL=>[.box [.d (.sl (p.rels.map Rl.enc))],.buf (cRows p).length 1 3 (intsD PL)]) (fun r PL=>∃k0:Nat,k0+r.length=(cpsV (cRows p)).length∧PlR (cRows p) r k0 PL) (List.replicate (cRows p).length (-1)) rfl (by simp) ⟨0,by simp,hPl⟩ (by refine ⟨by simp [mkS,hCl],by simp [mkS,hCl],by simp only [mkS,List.all_cons,List.all_nil,O.refsLt,C.refsLt,C.refsLt1,all_dmap];first | done | rfl | (simp;done),?_⟩;simp [mkS,Abs.get,C.refsLtT,C.refsLt,C.refsLt1]) (fun ii c r PL hxi hdr hlt hm hinv hnext=>?_) (fun PL hinv=>?_)
 ·obtain ⟨k0,hk0,hP⟩:=hinv
  obtain ⟨hPL,hfr,hPn⟩:=hP.next hC (by omega)
  have hdl:=congrArg List.length hdr
  simp only [List.length_drop,List.length_cons] at hdl hk0
  obtain rfl:k0=ii:=by omega
  have hxx:((cpsV (cRows p)).map encI2)[k0]? = some [.sl (intsD c)]:=by rw [List.getElem?_map,hxi];rfl
  refine run_sound Tryz.func3 mixed 200 _ _ (by kernel_rfl) ?_
  simp only [go_sem,seval,hlt,idx_of hxx,intsD_len]
  refine AW.rng c [3,4,5,38,39,40,45,46] 47 45 (fun PL:List Int=>[]) (fun _ PL=>[.box [.d (.sl (p.rels.map Rl.enc))],.buf (cRows p).length 1 3 (intsD PL)]) (fun s Q=>∃pre,c=pre++s∧Q=plSet k0 PL pre) PL rfl (by simp [intsD]) ⟨[],rfl,rfl⟩ (by refine ⟨by simp [mkS],by simp [mkS],by simp only [mkS,List.all_cons,List.all_nil,O.refsLt,C.refsLt,C.refsLt1,all_dmap];first | done | rfl | (simp;done),?_⟩;simp [mkS,Abs.get,C.refsLtT,C.refsLt,C.refsLt1]) (fun jj x s Q hyi hds hjt hm2 hinv2 hnx=>?_) (fun Q hinv2=>?_)
  ·obtain ⟨pre,hpre,rfl⟩:=hinv2
   obtain ⟨hx,hQl,hQx⟩:=hfr pre x s hpre
   obtain ⟨n,rfl⟩:∃n:Nat,x=n:=⟨x.toNat,by omega⟩
   rw [Int.toNat_natCast] at hQx
   have hyy:=intsD_at hyi
   have hzz:(intsD (plSet (k0:Int) PL pre))[n]? = some [.int .i64 (-1)]:=by rw [ints_get (by omega),hQx]
   have hQl2:(intsD (plSet (k0:Int) PL pre)).length=(cRows p).length:=by rw [intsD_len,hQl]
   have n0:¬(n:Int)<0:=by omega
   have n1:¬((cRows p).length:Int)≤(n:Int):=by omega
   have n2:(n:Int)<((cRows p).length:Int):=by omega
   refine run_sound Tryz.func3 mixed 11 _ _ (by kernel_rfl) ?_
   simp only [go_sem,seval,run.eq_1,hjt,idx_of hyy]
   refine AW.regG ?_
   simp only [go_sem,seval,idx_of hzz,hQl2,n0,n1,n2]
   repeat' (first
    | ((refine ⟨sd,?_⟩)<;>(try simp only [go_sem,seval,idx_of hzz,hQl2,n0,n1,n2]))
    | fail)
   refine run_sound Tryz.func3 mixed 2 _ _ (by kernel_rfl) ?_
   simp only [go_sem,seval,run.eq_1]
   refine AW.regT ?_
   simp only [go_sem,seval,idx_of hzz,hQl2,n0,n1,n2]
   repeat' (first
    | ((refine ⟨sd,?_⟩)<;>(try simp only [go_sem,seval,idx_of hzz,hQl2,n0,n1,n2]))
    | fail)
   have wj:IntKind.i64.wrap ((jj:Int)+1)=(jj:Int)+1:=by rw [wrap_ok (by omega) (by omega)]
   refine run_sound Tryz.func3 mixed 200 _ _ (by kernel_rfl) ?_
   simp only [go_sem,seval,wj]
   have hps:plSet (k0:Int) PL (pre++[(n:Int)])=(plSet (k0:Int) PL pre).set n k0:=by unfold plSet;rw [List.foldl_append];rfl
   have hst2:=intsD_set (plSet (k0:Int) PL pre) n (k0:Int)
   refine hnx (plSet (k0:Int) PL (pre++[(n:Int)])) _ ⟨pre++[(n:Int)],by rw [hpre];simp,rfl⟩ (by refine ⟨by simp [mkS,wj,hps,hzz,←hst2],by simp [mkS,wj,hps,hzz,←hst2],by simp only [mkS,List.all_cons,List.all_nil,O.refsLt,C.refsLt,C.refsLt1,all_dmap];first | done | rfl | (simp;done),?_⟩;simp [mkS,Abs.get,C.refsLtT,C.refsLt,C.refsLt1])
  ·obtain ⟨pre,hpre,rfl⟩:=hinv2
   rw [List.append_nil] at hpre
   subst hpre
   have wi:IntKind.i64.wrap ((k0:Int)+1)=(k0:Int)+1:=by rw [wrap_ok (by omega) (by omega)]
   refine run_sound Tryz.func3 mixed 200 _ _ (by kernel_rfl) ?_
   simp only [go_sem,seval,wi]
   refine hnext (plSet (k0:Int) PL c) _ ⟨k0+1,by omega,hPn⟩ (by refine ⟨by simp [mkS,wi],by simp [mkS,wi],by simp only [mkS,List.all_cons,List.all_nil,O.refsLt,C.refsLt,C.refsLt1,all_dmap];first | done | rfl | (simp;done),?_⟩;simp [mkS,Abs.get,C.refsLtT,C.refsLt,C.refsLt1])
 ·obtain ⟨k0,hk0,hP⟩:=hinv
  obtain ⟨hPL,hP0,hPo⟩:=hP.done hC
  refine AW.freezeB 4 1 rfl rfl ?_
  have hip':=hip
  have hVl:SB=true→SV.length=(cRows p).length:=fun h=>by rw [hCl];exact (s1 h).1
  have hVe:SB=true→∀(i:Nat) (r:Rl),p.rels[i]? = some r→∀e,e∈r.edges→SV.getD (p.find e.1).toNat 0+e.2≤SV.getD i 0:=fun h=>(s1 h).2.2
  have hil:(intsD PL).length=(cRows p).length:=by rw [intsD_len,hPL]
  cases SB with
  | true =>
   have hvl:=hVl rfl
   have hve:=hVe rfl
   have hv0:=s3 rfl
   have hil2:(intsD SV).length=(cRows p).length:=by rw [intsD_len,hvl]
   refine run_sound Tryz.func3 mixed 200 _ _ (by kernel_rfl) ?_
   simp only [go_sem,seval,hmi,hil,hil2]
   repeat' (first
    | ((first
     | (refine hcb.calls rfl ?_)
     | (refine hsd.calls rfl ?_))<;>(try simp only [go_sem,seval,hmi,hil,hil2]))
    | fail)
   refine AW.rng (cRows p) [3,4,10,11,102,103] 104 102 (fun _:Unit=>[]) (fun H _=>H) (fun _ _=>True) () rfl (by simp) trivial (by refine ⟨by simp [mkS],by simp [mkS],by simp only [mkS,List.all_cons,List.all_nil,O.refsLt,C.refsLt,C.refsLt1,all_dmap];first | done | rfl | (simp;done),?_⟩;simp [mkS,Abs.get,C.refsLtT,C.refsLt,C.refsLt1]) (fun ii row r u hxi hdr hlt hm hinv hnext=>?_) (fun u hinv=>?_)
   ·have hxx:((cRows p).map encI2)[ii]? = some [.sl (intsD row)]:=by rw [List.getElem?_map,hxi];rfl
    have hii:ii<(cRows p).length:=(List.getElem?_eq_some_iff.1 hxi).1
    have hrw:relRow (cRows p) (ii:Int)=row:=by unfold relRow;rw [Int.toNat_natCast,List.getD_eq_getElem?_getD,hxi];rfl
    obtain ⟨a,ha⟩:∃a,PL[ii]? = some a:=⟨_,List.getElem?_eq_getElem (by omega)⟩
    have ha0:0≤a:=by have:=hP0 ii hii;rwa [getD_at ha] at this
    have hpi:=intsD_at ha
    have wi:IntKind.i64.wrap ((ii:Int)+1)=(ii:Int)+1:=by rw [wrap_ok (by omega) (by omega)]
    refine run_sound Tryz.func3 mixed 200 _ _ (by kernel_rfl) ?_
    simp only [go_sem,seval,hlt,idx_of hxx,intsD_len]
    refine AW.rng row [3,4,10,11,12,102,103,104,109,110] 111 109 (fun _:Unit=>[]) (fun H _=>H) (fun _ _=>True) () rfl (by simp [intsD]) trivial (by refine ⟨by simp [mkS],by simp [mkS],by simp only [mkS,List.all_cons,List.all_nil,O.refsLt,C.refsLt,C.refsLt1,all_dmap];first | done | rfl | (simp;done),?_⟩;simp [mkS,Abs.get,C.refsLtT,C.refsLt,C.refsLt1]) (fun jj x s u2 hyi hds hjt hm2 hinv2 hnx=>?_) (fun u2 hinv2=>?_)
    ·obtain ⟨hx,hxo⟩:=hPo ii x hii (by rw [hrw];exact List.mem_of_getElem? hyi)
     obtain ⟨n,rfl⟩:∃n:Nat,x=n:=⟨x.toNat,by omega⟩
     rw [Int.toNat_natCast,getD_at ha] at hxo
     have hyy:=intsD_at hyi
     obtain ⟨b,hb⟩:∃b,PL[n]? = some b:=⟨_,List.getElem?_eq_getElem (by omega)⟩
     rw [getD_at hb] at hxo
     have hzz:=intsD_at hb
     have n0:¬(n:Int)<0:=by omega
     have n1:¬(PL.length:Int)≤(n:Int):=by omega
     have n2:¬a<b:=by omega
     have wj:IntKind.i64.wrap ((jj:Int)+1)=(jj:Int)+1:=by rw [wrap_ok (by omega) (by omega)]
     refine run_sound Tryz.func3 mixed 200 _ _ (by kernel_rfl) ?_
     simp only [go_sem,seval,hjt,idx_of hyy,idx_of hzz,idx_of hpi,n0,n1,n2,wj,intsD_len]
     repeat' (first
      | ((refine ⟨sd,?_⟩)<;>(try simp only [go_sem,seval,hjt,idx_of hyy,idx_of hzz,idx_of hpi,n0,n1,n2,wj,intsD_len]))
      | fail)
     all_goals try refine hnx () _ trivial (by refine ⟨by simp [mkS,wj],by simp [mkS,wj],by simp only [mkS,List.all_cons,List.all_nil,O.refsLt,C.refsLt,C.refsLt1,all_dmap];first | done | rfl | (simp;done),?_⟩;simp [mkS,Abs.get,C.refsLtT,C.refsLt,C.refsLt1])
    ·obtain ⟨x0,hx0⟩:∃x0,p.rels[ii]? = some x0:=⟨_,List.getElem?_eq_getElem (by omega)⟩
     have hxm:=List.mem_of_getElem? hx0
     have hre:(p.rels.map Rl.enc)[ii]? = some x0.enc:=by rw [List.getElem?_map,hx0];rfl
     have hci:(ii:Int)<(p.rels.length:Int):=by omega
     have hf0:=coD2 x0.body false (hwb x0 hxm) (hgl x0 hxm)
     have hf1:=coD2 x0.body true (hwb x0 hxm) (hgl x0 hxm)
     have a0:¬a<0:=by omega
     obtain ⟨sv,hsv⟩:∃sv,SV[ii]? = some sv:=⟨_,List.getElem?_eq_getElem (by omega)⟩
     have hsi:=intsD_at hsv
     have hz0:Pg.all false p=true→sv=0:=fun h=>by have:=hv0 h ii;rwa [getD_at hsv] at this
     have hve2:=hve ii x0 hx0
     refine run_sound Tryz.func3 mixed 200 _ _ (by kernel_rfl) ?_
     simp only [go_sem,seval,idx_of hpi,idx_of hsi,a0,idx_of hre,hci,hml,strD_len]
     repeat' (first
      | (exact absurd (hz0 (by assumption)) (by assumption))
      | ((refine br_n (fun hq=>?_) (fun hq=>?_))<;>(try simp only [go_sem,seval,idx_of hpi,idx_of hsi,a0,idx_of hre,hci,hml,strD_len,hq]))
      | ((first
       | (refine hf0.calls rfl ?_)
       | (refine (iIsPositive_fn _ sd).calls rfl ?_)
       | (refine ⟨sd,?_⟩))<;>(try simp only [go_sem,seval,idx_of hpi,idx_of hsi,a0,idx_of hre,hci,hml,strD_len]))
      | fail)
     all_goals
      refine AW.rng (x0.body.callsI false false) [3,4,10,11,12,102,103,104,160,161] 162 160 (fun _:Unit=>[]) (fun H _=>H) (fun _ _=>True) () rfl (by simp [strD]) trivial (by refine ⟨by simp [mkS],by simp [mkS],by simp only [mkS,List.all_cons,List.all_nil,O.refsLt,C.refsLt,C.refsLt1,all_dmap];first | done | rfl | (simp;done),?_⟩;simp [mkS,Abs.get,C.refsLtT,C.refsLt,C.refsLt1]) (fun jj l s u2 hyi hds hjt hm2 hinv2 hnx=>?_) (fun u2 hinv2=>?_)
      ·have hle:(l,(0:Int))∈x0.edges:=by
        unfold Rl.edges
        rw [List.mem_append]
        exact .inl (List.mem_map.2 ⟨l,List.mem_of_getElem? hyi,rfl⟩)
       obtain ⟨⟨f0,f1⟩,_⟩:=hEd ii x0 hx0 _ hle
       have hle2:=hve2 _ hle
       dsimp only at f0 f1
       obtain ⟨m,hm0⟩:∃m:Nat,p.find l=m:=⟨(p.find l).toNat,by omega⟩
       rw [hm0,Int.toNat_natCast] at f1
       have hyy:=strD_at hyi
       have hxl:=hix l
       rw [hm0] at hxl
       have m0:¬(m:Int)<0:=by omega
       have wj:IntKind.i64.wrap ((jj:Int)+1)=(jj:Int)+1:=by rw [wrap_ok (by omega) (by omega)]
       obtain ⟨b,hb⟩:∃b,SV[m]? = some b:=⟨_,List.getElem?_eq_getElem (by omega)⟩
       rw [hm0,Int.toNat_natCast,getD_at hb,getD_at hsv] at hle2
       dsimp only at hle2
       have hzz:=intsD_at hb
       have m1:¬sv<b:=by omega
       refine run_sound Tryz.func3 mixed 200 _ _ (by kernel_rfl) ?_
       simp only [go_sem,seval,hjt,idx_of hyy,wj,m0,strD_len,idx_of hzz,idx_of hsi,m1]
       repeat' (first
        | ((first
         | (refine hxl.calls rfl ?_)
         | (refine ⟨sd,?_⟩))<;>(try simp only [go_sem,seval,hjt,idx_of hyy,wj,m0,strD_len,idx_of hzz,idx_of hsi,m1]))
        | fail)
       all_goals try refine hnx () _ trivial (by refine ⟨by simp [mkS,wj],by simp [mkS,wj],by simp only [mkS,List.all_cons,List.all_nil,O.refsLt,C.refsLt,C.refsLt1,all_dmap];first | done | rfl | (simp;done),?_⟩;simp [mkS,Abs.get,C.refsLtT,C.refsLt,C.refsLt1])
      refine run_sound Tryz.func3 mixed 200 _ _ (by kernel_rfl) ?_
      simp only [go_sem,seval,idx_of hpi,a0,idx_of hre,hci,hml,strD_len]
      repeat' (first
       | ((refine hf1.calls rfl ?_)<;>(try simp only [go_sem,seval,idx_of hpi,a0,idx_of hre,hci,hml,strD_len]))
       | fail)
      refine AW.rng (x0.body.callsI true false) [3,4,10,11,12,102,103,104,192,193] 194 192 (fun _:Unit=>[]) (fun H _=>H) (fun _ _=>True) () rfl (by simp [strD]) trivial (by refine ⟨by simp [mkS],by simp [mkS],by simp only [mkS,List.all_cons,List.all_nil,O.refsLt,C.refsLt,C.refsLt1,all_dmap];first | done | rfl | (simp;done),?_⟩;simp [mkS,Abs.get,C.refsLtT,C.refsLt,C.refsLt1]) (fun jj l s u2 hyi hds hjt hm2 hinv2 hnx=>?_) (fun u2 hinv2=>?_)
      ·have hle:(l,(1:Int))∈x0.edges:=by
        unfold Rl.edges
        rw [List.mem_append]
        exact .inr (List.mem_map.2 ⟨l,List.mem_of_getElem? hyi,rfl⟩)
       obtain ⟨⟨f0,f1⟩,_⟩:=hEd ii x0 hx0 _ hle
       have hle2:=hve2 _ hle
       dsimp only at f0 f1
       obtain ⟨m,hm0⟩:∃m:Nat,p.find l=m:=⟨(p.find l).toNat,by omega⟩
       rw [hm0,Int.toNat_natCast] at f1
       have hyy:=strD_at hyi
       have hxl:=hix l
       rw [hm0] at hxl
       have m0:¬(m:Int)<0:=by omega
       have wj:IntKind.i64.wrap ((jj:Int)+1)=(jj:Int)+1:=by rw [wrap_ok (by omega) (by omega)]
       obtain ⟨b,hb⟩:∃b,SV[m]? = some b:=⟨_,List.getElem?_eq_getElem (by omega)⟩
       rw [hm0,Int.toNat_natCast,getD_at hb,getD_at hsv] at hle2
       dsimp only at hle2
       have hzz:=intsD_at hb
       have m1:¬sv≤b:=by omega
       refine run_sound Tryz.func3 mixed 200 _ _ (by kernel_rfl) ?_
       simp only [go_sem,seval,hjt,idx_of hyy,wj,m0,strD_len,idx_of hzz,idx_of hsi,m1]
       repeat' (first
        | ((first
         | (refine hxl.calls rfl ?_)
         | (refine ⟨sd,?_⟩))<;>(try simp only [go_sem,seval,hjt,idx_of hyy,wj,m0,strD_len,idx_of hzz,idx_of hsi,m1]))
        | fail)
       all_goals try refine hnx () _ trivial (by refine ⟨by simp [mkS,wj],by simp [mkS,wj],by simp only [mkS,List.all_cons,List.all_nil,O.refsLt,C.refsLt,C.refsLt1,all_dmap];first | done | rfl | (simp;done),?_⟩;simp [mkS,Abs.get,C.refsLtT,C.refsLt,C.refsLt1])
      refine run_sound Tryz.func3 mixed 200 _ _ (by kernel_rfl) ?_
      simp only [go_sem,seval,wi]
      all_goals refine hnext () _ trivial (by refine ⟨by simp [mkS,wi],by simp [mkS,wi],by simp only [mkS,List.all_cons,List.all_nil,O.refsLt,C.refsLt,C.refsLt1,all_dmap];first | done | rfl | (simp;done),?_⟩;simp [mkS,Abs.get,C.refsLtT,C.refsLt,C.refsLt1])
   ·refine run_sound Tryz.func3 mixed 200 _ _ (by kernel_rfl) ?_
    simp only [go_sem,seval]
  | false =>
   have hv0:=s2 rfl
   rw [hv0] at hip
   refine run_sound Tryz.func3 mixed 200 _ _ (by kernel_rfl) ?_
   simp only [go_sem,seval,hmi,hil,hv0]
   repeat' (first
    | ((first
     | (refine hcb.calls rfl ?_)
     | (refine hsd.calls rfl ?_)
     | (refine (iIsPositive_fn _ sd).calls rfl ?_))<;>(try simp only [go_sem,seval,hmi,hil,hv0]))
    | fail)
   refine AW.rng (cRows p) [3,4,10,11,102,103] 104 102 (fun _:Unit=>[]) (fun H _=>H) (fun _ _=>True) () rfl (by simp) trivial (by refine ⟨by simp [mkS],by simp [mkS],by simp only [mkS,List.all_cons,List.all_nil,O.refsLt,C.refsLt,C.refsLt1,all_dmap];first | done | rfl | (simp;done),?_⟩;simp [mkS,Abs.get,C.refsLtT,C.refsLt,C.refsLt1]) (fun ii row r u hxi hdr hlt hm hinv hnext=>?_) (fun u hinv=>?_)
   ·have hxx:((cRows p).map encI2)[ii]? = some [.sl (intsD row)]:=by rw [List.getElem?_map,hxi];rfl
    have hii:ii<(cRows p).length:=(List.getElem?_eq_some_iff.1 hxi).1
    have hrw:relRow (cRows p) (ii:Int)=row:=by unfold relRow;rw [Int.toNat_natCast,List.getD_eq_getElem?_getD,hxi];rfl
    obtain ⟨a,ha⟩:∃a,PL[ii]? = some a:=⟨_,List.getElem?_eq_getElem (by omega)⟩
    have ha0:0≤a:=by have:=hP0 ii hii;rwa [getD_at ha] at this
    have hpi:=intsD_at ha
    have wi:IntKind.i64.wrap ((ii:Int)+1)=(ii:Int)+1:=by rw [wrap_ok (by omega) (by omega)]
    refine run_sound Tryz.func3 mixed 200 _ _ (by kernel_rfl) ?_
    simp only [go_sem,seval,hlt,idx_of hxx,intsD_len]
    refine AW.rng row [3,4,10,11,12,102,103,104,109,110] 111 109 (fun _:Unit=>[]) (fun H _=>H) (fun _ _=>True) () rfl (by simp [intsD]) trivial (by refine ⟨by simp [mkS],by simp [mkS],by simp only [mkS,List.all_cons,List.all_nil,O.refsLt,C.refsLt,C.refsLt1,all_dmap];first | done | rfl | (simp;done),?_⟩;simp [mkS,Abs.get,C.refsLtT,C.refsLt,C.refsLt1]) (fun jj x s u2 hyi hds hjt hm2 hinv2 hnx=>?_) (fun u2 hinv2=>?_)
    ·obtain ⟨hx,hxo⟩:=hPo ii x hii (by rw [hrw];exact List.mem_of_getElem? hyi)
     obtain ⟨n,rfl⟩:∃n:Nat,x=n:=⟨x.toNat,by omega⟩
     rw [Int.toNat_natCast,getD_at ha] at hxo
     have hyy:=intsD_at hyi
     obtain ⟨b,hb⟩:∃b,PL[n]? = some b:=⟨_,List.getElem?_eq_getElem (by omega)⟩
     rw [getD_at hb] at hxo
     have hzz:=intsD_at hb
     have n0:¬(n:Int)<0:=by omega
     have n1:¬(PL.length:Int)≤(n:Int):=by omega
     have n2:¬a<b:=by omega
     have wj:IntKind.i64.wrap ((jj:Int)+1)=(jj:Int)+1:=by rw [wrap_ok (by omega) (by omega)]
     refine run_sound Tryz.func3 mixed 200 _ _ (by kernel_rfl) ?_
     simp only [go_sem,seval,hjt,idx_of hyy,idx_of hzz,idx_of hpi,n0,n1,n2,wj,intsD_len]
     repeat' (first
      | ((refine ⟨sd,?_⟩)<;>(try simp only [go_sem,seval,hjt,idx_of hyy,idx_of hzz,idx_of hpi,n0,n1,n2,wj,intsD_len]))
      | fail)
     all_goals try refine hnx () _ trivial (by refine ⟨by simp [mkS,wj],by simp [mkS,wj],by simp only [mkS,List.all_cons,List.all_nil,O.refsLt,C.refsLt,C.refsLt1,all_dmap];first | done | rfl | (simp;done),?_⟩;simp [mkS,Abs.get,C.refsLtT,C.refsLt,C.refsLt1])
    ·obtain ⟨x0,hx0⟩:∃x0,p.rels[ii]? = some x0:=⟨_,List.getElem?_eq_getElem (by omega)⟩
     have hxm:=List.mem_of_getElem? hx0
     have hre:(p.rels.map Rl.enc)[ii]? = some x0.enc:=by rw [List.getElem?_map,hx0];rfl
     have hci:(ii:Int)<(p.rels.length:Int):=by omega
     have hf0:=coD2 x0.body false (hwb x0 hxm) (hgl x0 hxm)
     have hf1:=coD2 x0.body true (hwb x0 hxm) (hgl x0 hxm)
     have a0:¬a<0:=by omega
     refine run_sound Tryz.func3 mixed 200 _ _ (by kernel_rfl) ?_
     simp only [go_sem,seval,idx_of hpi,a0,idx_of hre,hci,hml,strD_len]
     repeat' (first
      | ((first
       | (refine hf0.calls rfl ?_)
       | (refine ⟨sd,?_⟩))<;>(try simp only [go_sem,seval,idx_of hpi,a0,idx_of hre,hci,hml,strD_len]))
      | fail)
     refine AW.rng (x0.body.callsI false false) [3,4,10,11,12,102,103,104,160,161] 162 160 (fun _:Unit=>[]) (fun H _=>H) (fun _ _=>True) () rfl (by simp [strD]) trivial (by refine ⟨by simp [mkS],by simp [mkS],by simp only [mkS,List.all_cons,List.all_nil,O.refsLt,C.refsLt,C.refsLt1,all_dmap];first | done | rfl | (simp;done),?_⟩;simp [mkS,Abs.get,C.refsLtT,C.refsLt,C.refsLt1]) (fun jj l s u2 hyi hds hjt hm2 hinv2 hnx=>?_) (fun u2 hinv2=>?_)
     ·have hle:(l,(0:Int))∈x0.edges:=by
       unfold Rl.edges
       rw [List.mem_append]
       exact .inl (List.mem_map.2 ⟨l,List.mem_of_getElem? hyi,rfl⟩)
      obtain ⟨⟨f0,f1⟩,_⟩:=hEd ii x0 hx0 _ hle
      skip
      dsimp only at f0 f1
      obtain ⟨m,hm0⟩:∃m:Nat,p.find l=m:=⟨(p.find l).toNat,by omega⟩
      rw [hm0,Int.toNat_natCast] at f1
      have hyy:=strD_at hyi
      have hxl:=hix l
      rw [hm0] at hxl
      have m0:¬(m:Int)<0:=by omega
      have wj:IntKind.i64.wrap ((jj:Int)+1)=(jj:Int)+1:=by rw [wrap_ok (by omega) (by omega)]
      skip
      refine run_sound Tryz.func3 mixed 200 _ _ (by kernel_rfl) ?_
      simp only [go_sem,seval,hjt,idx_of hyy,wj,m0,strD_len]
      repeat' (first
       | ((refine hxl.calls rfl ?_)<;>(try simp only [go_sem,seval,hjt,idx_of hyy,wj,m0,strD_len]))
       | fail)
      all_goals try refine hnx () _ trivial (by refine ⟨by simp [mkS,wj],by simp [mkS,wj],by simp only [mkS,List.all_cons,List.all_nil,O.refsLt,C.refsLt,C.refsLt1,all_dmap];first | done | rfl | (simp;done),?_⟩;simp [mkS,Abs.get,C.refsLtT,C.refsLt,C.refsLt1])
     refine run_sound Tryz.func3 mixed 200 _ _ (by kernel_rfl) ?_
     simp only [go_sem,seval,idx_of hpi,a0,idx_of hre,hci,hml,strD_len]
     repeat' (first
      | ((refine hf1.calls rfl ?_)<;>(try simp only [go_sem,seval,idx_of hpi,a0,idx_of hre,hci,hml,strD_len]))
      | fail)
     refine AW.rng (x0.body.callsI true false) [3,4,10,11,12,102,103,104,192,193] 194 192 (fun _:Unit=>[]) (fun H _=>H) (fun _ _=>True) () rfl (by simp [strD]) trivial (by refine ⟨by simp [mkS],by simp [mkS],by simp only [mkS,List.all_cons,List.all_nil,O.refsLt,C.refsLt,C.refsLt1,all_dmap];first | done | rfl | (simp;done),?_⟩;simp [mkS,Abs.get,C.refsLtT,C.refsLt,C.refsLt1]) (fun jj l s u2 hyi hds hjt hm2 hinv2 hnx=>?_) (fun u2 hinv2=>?_)
     ·have hle:(l,(1:Int))∈x0.edges:=by
       unfold Rl.edges
       rw [List.mem_append]
       exact .inr (List.mem_map.2 ⟨l,List.mem_of_getElem? hyi,rfl⟩)
      obtain ⟨⟨f0,f1⟩,_⟩:=hEd ii x0 hx0 _ hle
      skip
      dsimp only at f0 f1
      obtain ⟨m,hm0⟩:∃m:Nat,p.find l=m:=⟨(p.find l).toNat,by omega⟩
      rw [hm0,Int.toNat_natCast] at f1
      have hyy:=strD_at hyi
      have hxl:=hix l
      rw [hm0] at hxl
      have m0:¬(m:Int)<0:=by omega
      have wj:IntKind.i64.wrap ((jj:Int)+1)=(jj:Int)+1:=by rw [wrap_ok (by omega) (by omega)]
      skip
      refine run_sound Tryz.func3 mixed 200 _ _ (by kernel_rfl) ?_
      simp only [go_sem,seval,hjt,idx_of hyy,wj,m0,strD_len]
      repeat' (first
       | ((refine hxl.calls rfl ?_)<;>(try simp only [go_sem,seval,hjt,idx_of hyy,wj,m0,strD_len]))
       | fail)
      all_goals try refine hnx () _ trivial (by refine ⟨by simp [mkS,wj],by simp [mkS,wj],by simp only [mkS,List.all_cons,List.all_nil,O.refsLt,C.refsLt,C.refsLt1,all_dmap];first | done | rfl | (simp;done),?_⟩;simp [mkS,Abs.get,C.refsLtT,C.refsLt,C.refsLt1])
     refine run_sound Tryz.func3 mixed 200 _ _ (by kernel_rfl) ?_
     simp only [go_sem,seval,wi]
     all_goals refine hnext () _ trivial (by refine ⟨by simp [mkS,wi],by simp [mkS,wi],by simp only [mkS,List.all_cons,List.all_nil,O.refsLt,C.refsLt,C.refsLt1,all_dmap];first | done | rfl | (simp;done),?_⟩;simp [mkS,Abs.get,C.refsLtT,C.refsLt,C.refsLt1])
   ·refine run_sound Tryz.func3 mixed 200 _ _ (by kernel_rfl) ?_
    simp only [go_sem,seval]
theorem lawFnComponents (B:List UInt8):Gives Tryz.prog 3 [.sl (bytesD B)] (.d (.bool true)):=
 ACalls.frozen (ds:=[.sl (bytesD B)]) (m:=0) (lawFnComponents_R B) (fun c H' ⟨h1,h2⟩ _=>by subst h1 h2;rfl)
end Go.Proofs.YtjbidjeijodmnaaGreat
