import Derived.Test.YtockpdkdnlkkfaaGreatW103
namespace Go.Proofs.YtockpdkdnlkkfaaGreat
open Go.Abs
set_option maxRecDepth 100000
set_option maxHeartbeats 4000000
set_option linter.unusedSimpArgs false
set_option linter.unusedVariables false
theorem sortFacts_fn (l:List FcV) (hl:l.length≤2000000):Gives Tryz.prog 39 [.sl (l.map fcE)] (.d (.sl ((sortC FcV.cmp l).map fcE))):=by
 have hmx:maxLen=9223372036854775807:=rfl
 have hmap:∀x:List FcV,(x.map fcE).length=x.length:=fun x=>List.length_map _
 refine ACalls.enter (fn:=Tryz.f39) Tryz.func39 rfl (by show 1≤_;decide) ?_
 refine run_sound Tryz.func39 mixed 3 _ _ (by kernel_rfl) ?_
 simp only [go_sem,seval,run.eq_1]
 refine AW.regS ?_
 simp only [go_sem,seval,hmap]
 refine ⟨by omega,by omega,?_⟩
 have hst:ACalls Tryz.prog 67 [.ifc 37 (.own 0 1),.fn 68 [.ptr 1 0]] [.buf 1 2 48 (l.map fcE),.box [.own 0 1]] _:=sliceStableF rfl rfl (by decide) rfl (by omega)
 refine run_sound Tryz.func39 mixed 2 _ _ (by kernel_rfl) ?_
 simp only [go_sem,seval,run.eq_1]
 refine hst.mono ?_
 rintro c H' ⟨rfl,ys,hp,hs,rfl⟩
 simp only [go_sem,seval,run.eq_1]
 refine AW.frzBox 1 0 0 rfl rfl rfl (by decide) ?_
 refine run_sound Tryz.func39 mixed 2 _ _ (by kernel_rfl) ?_
 simp only [go_sem,seval,run.eq_1]
 refine AW.adopt 4 2 48 (by decide) rfl ?_
 have hyl:ys.length=l.length:=hp.length_eq
 have hR:ddC FcV.cmp none ys=sortC FcV.cmp l:=ddC_sort FcV.cmp_lin (fun z=>hp.mem_iff) (hs.imp (fun h=>by simpa using h))
 rw [←hR]
 refine run_sound Tryz.func39 mixed 200 _ _ (by kernel_rfl) ?_
 simp only [go_sem,seval,hmap]
 refine AW.rng ys [3,15,16] 17 15 (fun p:List FcV=>[(4,.own 2 (ddC FcV.cmp none p).length)]) (fun _ p=>[.dead,.box [.d (.sl (ys.map fcE))],.grow (ddC FcV.cmp none p).length 2 48 ((ddC FcV.cmp none p).map fcE)]) (fun r p=>ys=p++r) [] rfl (by simp) rfl (by refine ⟨by simp [mkS,ddC],by simp [mkS,ddC],by simp only [mkS,List.all_cons,List.all_nil,O.refsLt,C.refsLt,C.refsLt1,all_dmap];first | done | rfl | (simp;done),?_⟩;simp [mkS,Abs.get,C.refsLtT,C.refsLt,C.refsLt1,ddC]) (fun i x r p hxi hdr hlt hm hinv hnext=>?_) (fun p hinv=>?_)
 ·have hdl:=congrArg List.length hdr
  have hil:=congrArg List.length hinv
  simp only [List.length_drop,List.length_cons,List.length_append] at hdl hil
  have hip:i=p.length:=by omega
  have hnx:=fun s'=>hnext (p++[x]) s' (by rw [hinv];simp)
  clear hnext
  have hdd:=ddC_snoc (c:=FcV.cmp) p none x
  have hddl:(ddC FcV.cmp none p).length≤p.length:=by
   have key:∀(q:List FcV) (o:Option FcV),(ddC FcV.cmp o q).length≤q.length:=fun q=>by
    induction q with
    | nil=>intro o;simp [ddC]
    | cons z q ih =>
     intro o
     cases o with
     | none=>simp only [ddC,List.length_cons];have:=ih (some z);omega
     | some w=>simp only [ddC];split<;>simp only [List.length_cons]<;>have:=ih (some z)<;>omega
   exact key p none
  rcases List.eq_nil_or_concat p with rfl | ⟨p',y,rfl⟩
  ·obtain rfl:i=0:=by simpa using hip
   have hd1:ddC FcV.cmp none ([]++[x])=[x]:=rfl
   have hd0:ddC FcV.cmp none ([]:List FcV)=[]:=rfl
   rw [hd1] at hnx
   rw [hd0]
   have z0:((0:Nat):Int)=0:=rfl
   have hlt0:(0:Int)<(ys.length:Int):=by omega
   rw [z0] at hnx
   refine run_sound Tryz.func39 mixed 200 _ _ (by kernel_rfl) ?_
   simp only [go_sem,seval,hlt0,idx_of hxi,z0]
   repeat' (first
    | (simp (disch:=omega) only [wrap_ok])
    | ((refine ⟨sd,?_⟩)<;>(try simp only [go_sem,seval,hlt0,idx_of hxi,z0]))
    | fail)
   refine hnx _ (by refine ⟨by simp [mkS],by simp [mkS],by simp only [mkS,List.all_cons,List.all_nil,O.refsLt,C.refsLt,C.refsLt1,all_dmap];first | done | rfl | (simp;done),?_⟩;simp [mkS,Abs.get,C.refsLtT,C.refsLt,C.refsLt1])
  ·rw [List.concat_eq_append] at *
   have hi0:¬(i:Int)=0:=by rw [hip];simp;omega
   have hw1:IntKind.i64.wrap ((i:Int) - 1)=((i - 1:Nat):Int):=by rw [wrap_ok (by omega) (by omega)];omega
   have n2:((i - 1:Nat):Int)<(ys.length:Int):=by omega
   have hyi:ys[i - 1]? = some y:=by
    rw [hinv,hip]
    simp
   have ho:=orderF_fn y x
   have hlast:(((none:Option FcV).toList++(p'++[y])).getLast?)=some y:=by simp
   rw [hlast] at hdd
   dsimp only at hdd
   by_cases e:y.cmp x=0
   ·rw [if_pos e,List.append_nil] at hdd
    rw [e] at ho
    rw [hdd] at hnx
    refine run_sound Tryz.func39 mixed 200 _ _ (by kernel_rfl) ?_
    simp only [go_sem,seval,hlt,idx_of hxi,hi0,hw1,n2,idx_of hyi,hmap]
    repeat' (first
     | (simp (disch:=omega) only [wrap_ok])
     | ((refine ho.callQ rfl ?_)<;>(try simp only [go_sem,seval,hlt,idx_of hxi,hi0,hw1,n2,idx_of hyi,hmap]))
     | fail)
    all_goals refine hnx _ (by refine ⟨by simp [mkS],by simp [mkS],by simp only [mkS,List.all_cons,List.all_nil,O.refsLt,C.refsLt,C.refsLt1,all_dmap];first | done | rfl | (simp;done),?_⟩;simp [mkS,Abs.get,C.refsLtT,C.refsLt,C.refsLt1])
   ·rw [if_neg e] at hdd
    rw [hdd] at hnx
    refine run_sound Tryz.func39 mixed 200 _ _ (by kernel_rfl) ?_
    simp only [go_sem,seval,hlt,idx_of hxi,hi0,hw1,n2,idx_of hyi,hmap]
    repeat' (first
     | ((refine br_n (fun hq=>?_) (fun hq=>?_))<;>(try simp only [go_sem,seval,hlt,idx_of hxi,hi0,hw1,n2,idx_of hyi,hmap,e,hq]))
     | (simp (disch:=omega) only [wrap_ok])
     | ((first
      | (refine ho.callQ rfl ?_)
      | (refine ⟨sd,?_⟩))<;>(try simp only [go_sem,seval,hlt,idx_of hxi,hi0,hw1,n2,idx_of hyi,hmap,e]))
     | fail)
    all_goals first | (exfalso;exact e (by assumption)) | skip
    all_goals refine hnx _ (by refine ⟨by simp [mkS],by simp [mkS],by simp only [mkS,List.all_cons,List.all_nil,O.refsLt,C.refsLt,C.refsLt1,all_dmap];first | done | rfl | (simp;done),?_⟩;simp [mkS,Abs.get,C.refsLtT,C.refsLt,C.refsLt1])
 ·rw [List.append_nil] at hinv
  rw [hinv]
  refine run_sound Tryz.func39 mixed 200 _ _ (by kernel_rfl) ?_
  simp only [go_sem,seval]
theorem half_u (x y:Nat) (h:x+y≤1000000000):IntKind.i64.wrap (shrI .u64 (IntKind.u64.wrap ((x:Int)+(y:Int))) 1)=(((x+y) / 2:Nat):Int):=halfN x y (by omega)
theorem search_fn {g:FuncId} {caps:List C} {m:Nat} {H:List O} {p:Nat→Bool} (n:Nat) (hn:n≤100000000) (h:CloR Tryz.prog g caps m (fun i:Nat=>D.int .i64 (i:Int)) H (fun i=>i<n) (fun i=>.d (.bool (p i)))) (hm:∀i j,i≤j→j<n→p i=true→p j=true) :
  ACalls Tryz.prog 70 [.d (.int .i64 n),.fn g caps] H (fun c H'=>c=.d (.int .i64 (srch p n:Int))∧H'=H):=by
 obtain ⟨K,hK⟩:∃K,srch p n=K:=⟨_,rfl⟩
 rw [hK]
 refine ACalls.enter (fn:=Tryz.f70) Tryz.func70 rfl (by show 2≤_;decide) ?_
 refine run_sound Tryz.func70 mixed 200 _ _ (by kernel_rfl) ?_
 simp only [go_sem,seval,h.len,h.go,h.at0,h.atj,h.set0,h.setj,h.tk,h.tk0,h.tkj,h.refs,h.refsj,h.hcaps,h.capsj,List.append_assoc]
 refine AW.lp [1] (fun u:Nat×Nat=>[(5,.d (.int .i64 (u.1:Int))),(6,.d (.int .i64 (u.2:Int)))]) (fun H _=>H) (fun u=>u.1≤u.2∧u.2≤n∧(∀i,i<u.1→p i=false)∧(∀i,u.2≤i→i<n→p i=true)) (fun u=>u.2 - u.1) (0,n) ⟨Nat.zero_le _,Nat.le_refl _,fun i hi=>absurd hi (Nat.not_lt_zero _),fun i a b=>by omega⟩ (by refine ⟨by simp [mkS,h.len],by simp only [mkS,List.length_append,List.length_cons,List.length_nil,h.len,h.tkj,h.tk0,h.tk];first | done | rfl | (simp;done),by simp [mkS,O.refsLt,C.refsLt,C.refsLt1,h.len,h.refs,h.refsj,all_dmap,all_dcomp,-List.all_eq_true],?_⟩;simp [mkS,Abs.get,C.refsLtT,C.refsLt,C.refsLt1,h.len,h.hcaps,h.capsj,-List.all_eq_true]) ?_
 rintro ⟨i,j⟩ ⟨h1,h2,h3,h4⟩ hnext
 dsimp only at h1 h2 h3 h4 hnext ⊢
 by_cases hij:i<j
 ·have n1:(i:Int)<(j:Int):=by omega
  have hh:=half_u i j (by omega)
  have w0:IntKind.i64.wrap ((i:Int)+(j:Int))=(i:Int)+(j:Int):=wrap_ok (by omega) (by omega)
  have hnx:=fun i' j' s'=>hnext (i',j') s'
  clear hnext
  have hq:(i+j) / 2<n:=by omega
  have hc:=h.call ((i+j) / 2) hq
  cases hp:p ((i+j) / 2) with
  | false =>
   rw [hp] at hc
   refine run_sound Tryz.func70 mixed 200 _ _ (by kernel_rfl) ?_
   simp only [go_sem,seval,n1,w0,hh,h.len,h.go,h.at0,h.atj,h.set0,h.setj,h.tk,h.tk0,h.tkj,h.refs,h.refsj,h.hcaps,h.capsj,List.append_assoc]
   repeat' (first
    | (simp (disch:=omega) only [wrap_ok])
    | ((refine hc.mono ?_<;>(rintro c H' ⟨rfl,rfl⟩))<;>(try simp only [go_sem,seval,n1,w0,hh,h.len,h.go,h.at0,h.atj,h.set0,h.setj,h.tk,h.tk0,h.tkj,h.refs,h.refsj,h.hcaps,h.capsj,List.append_assoc]))
    | fail)
   refine hnx ((i+j) / 2+1) j _ ⟨by omega,h2,fun x hx=>?_,h4⟩ (by dsimp only;omega) (by refine ⟨by simp [mkS,h.len],by simp only [mkS,List.length_append,List.length_cons,List.length_nil,h.len,h.tkj,h.tk0,h.tk];first | done | rfl | (simp;done),by simp [mkS,O.refsLt,C.refsLt,C.refsLt1,h.len,h.refs,h.refsj,all_dmap,all_dcomp,-List.all_eq_true],?_⟩;simp [mkS,Abs.get,C.refsLtT,C.refsLt,C.refsLt1,h.len,h.hcaps,h.capsj,-List.all_eq_true])
   cases hpx:p x with
   | false=>rfl
   | true=>rw [←hp];exact (hm x _ (by omega) hq hpx).symm
  | true =>
   rw [hp] at hc
   refine run_sound Tryz.func70 mixed 200 _ _ (by kernel_rfl) ?_
   simp only [go_sem,seval,n1,w0,hh,h.len,h.go,h.at0,h.atj,h.set0,h.setj,h.tk,h.tk0,h.tkj,h.refs,h.refsj,h.hcaps,h.capsj,List.append_assoc]
   repeat' (first
    | ((refine hc.mono ?_<;>(rintro c H' ⟨rfl,rfl⟩))<;>(try simp only [go_sem,seval,n1,w0,hh,h.len,h.go,h.at0,h.atj,h.set0,h.setj,h.tk,h.tk0,h.tkj,h.refs,h.refsj,h.hcaps,h.capsj,List.append_assoc]))
    | fail)
   refine hnx i ((i+j) / 2) _ ⟨by omega,by omega,h3,fun x hx hxn=>hm _ x hx hxn hp⟩ (by dsimp only;omega) (by refine ⟨by simp [mkS,h.len],by simp only [mkS,List.length_append,List.length_cons,List.length_nil,h.len,h.tkj,h.tk0,h.tk];first | done | rfl | (simp;done),by simp [mkS,O.refsLt,C.refsLt,C.refsLt1,h.len,h.refs,h.refsj,all_dmap,all_dcomp,-List.all_eq_true],?_⟩;simp [mkS,Abs.get,C.refsLtT,C.refsLt,C.refsLt1,h.len,h.hcaps,h.capsj,-List.all_eq_true])
 ·have n1:¬(i:Int)<(j:Int):=by omega
  obtain rfl:i=j:=by omega
  have hki:K=i:=by rw [←hK];exact srch_eq h2 h3 (fun hlt=>h4 i (Nat.le_refl _) hlt)
  rw [hki]
  refine run_sound Tryz.func70 mixed 200 _ _ (by kernel_rfl) ?_
  simp only [go_sem,seval,n1,h.len,h.go,h.at0,h.atj,h.set0,h.setj,h.tk,h.tk0,h.tkj,h.refs,h.refsj,h.hcaps,h.capsj,List.append_assoc]
theorem hasFact1_clo (l:List FcV) (f:FcV):CloR Tryz.prog 71 [.ptr 0 0,.ptr 1 0] 2 (fun i:Nat=>D.int .i64 (i:Int)) [.box [.d (.sl (l.map fcE))],.box ((fcE f).map .d)] (fun i=>i<l.length) (fun i=>.d (.bool (geC FcV.cmp l f i))):=by
 have hmap:∀x:List FcV,(x.map fcE).length=x.length:=fun x=>List.length_map _
 refine ⟨by kernel_rfl,rfl,rfl,by simp only [List.all_cons,List.all_nil,O.refsLt,all_dmap,C.refsLt,C.refsLt1];rfl,fun i hi=>?_⟩
 have hb:l[i]? = some l[i]:=List.getElem?_eq_getElem hi
 have hg:geC FcV.cmp l f i=decide (0≤l[i].cmp f):=by unfold geC;rw [hb]
 rw [hg]
 generalize l[i]=b at hb
 have n1:(i:Int)<(l.length:Int):=by omega
 have ho:=orderF_fn b f
 refine ACalls.enter (fn:=Tryz.f71) Tryz.func71 rfl (by show 3≤_;decide) ?_
 refine run_sound Tryz.func71 mixed 200 _ _ (by kernel_rfl) ?_
 simp only [go_sem,seval,hmap,n1,idx_of hb]
 repeat' (first
  | ((refine ho.callQ rfl ?_)<;>(try simp only [go_sem,seval,hmap,n1,idx_of hb]))
  | fail)
 all_goals simp only [all_dmap]
theorem hasFact_fn (l:List FcV) (f:FcV) (hl:l.length≤9000000) (ha:ascC FcV.cmp l):Gives Tryz.prog 40 [.sl (l.map fcE),.agg (fcE f)] (.d (.bool (decide (f∈l)))):=by
 have hmap:∀x:List FcV,(x.map fcE).length=x.length:=fun x=>List.length_map _
 have hs:=search_fn l.length (by omega) (hasFact1_clo l f) (geC_mono FcV.cmp_lin ha f)
 have hh:=srch_has FcV.cmp_lin ha f
 generalize srch (geC FcV.cmp l f) l.length=k at hs hh
 cases hb:l[k]? with
 | none =>
  have hk:=List.getElem?_eq_none_iff.1 hb
  have n1:¬(k:Int)<(l.length:Int):=by omega
  rw [hb] at hh
  rw [decide_eq_false (fun h=>hh.2 h)]
  refine ACalls.enter (fn:=Tryz.f40) Tryz.func40 rfl (by show 2≤_;decide) ?_
  refine run_sound Tryz.func40 mixed 200 _ _ (by kernel_rfl) ?_
  simp only [go_sem,seval,hmap,n1]
  repeat' (first
   | ((refine hs.mono ?_<;>(rintro c H' ⟨rfl,rfl⟩))<;>(try simp only [go_sem,seval,hmap,n1]))
   | fail)
 | some b =>
  have hk:=(List.getElem?_eq_some_iff.1 hb).1
  have n1:(k:Int)<(l.length:Int):=by omega
  rw [hb] at hh
  dsimp only at hh
  have ho:=orderF_fn b f
  rw [show decide (f∈l)=decide (b.cmp f=0) from by rw [Bool.eq_iff_iff,decide_eq_true_eq,decide_eq_true_eq];exact hh.symm]
  refine ACalls.enter (fn:=Tryz.f40) Tryz.func40 rfl (by show 2≤_;decide) ?_
  refine run_sound Tryz.func40 mixed 200 _ _ (by kernel_rfl) ?_
  simp only [go_sem,seval,hmap,n1,idx_of hb]
  repeat' (first
   | ((first
    | (refine hs.mono ?_<;>(rintro c H' ⟨rfl,rfl⟩))
    | (refine ho.callQ rfl ?_))<;>(try simp only [go_sem,seval,hmap,n1,idx_of hb]))
   | fail)
end Go.Proofs.YtockpdkdnlkkfaaGreat
