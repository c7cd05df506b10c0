import Derived.Test.YtlajhmoomlgopaaGreatW103
import Derived.Test.YtlajhmoomlgopaaGreatW6
import Derived.Test.YtlajhmoomlgopaaGreatW9
import Derived.Test.YtlajhmoomlgopaaGreatW41
import Derived.Test.YtlajhmoomlgopaaGreatW38
import Derived.Test.YtlajhmoomlgopaaGreatW17
namespace Go.Proofs.YtlajhmoomlgopaaGreat
open Go.Abs
set_option maxRecDepth 100000
set_option maxHeartbeats 4000000
set_option linter.unusedSimpArgs false
set_option linter.unusedVariables false
theorem sortFacts_fn (l:List FcV) (hl:l.length≤2000000):Gives Tryz.prog 42 [.sl (l.map fcE)] (.d (.sl ((sortC FcV.cmp l).map fcE))):=by
 have hmx:maxLen=9223372036854775807:=rfl
 have hmap:∀x:List FcV,(x.map fcE).length=x.length:=fun x=>List.length_map _
 refine aE_ Tryz.func42 ?_
 refine run_sound Tryz.func42 mixed 3 _ _ (by kernel_rfl) ?_
 simp only [go_sem,seval,run.eq_1]
 refine AW.regS ?_
 simp only [go_sem,seval,hmap]
 refine ⟨by omega,by omega,?_⟩
 have hst:ACalls Tryz.prog 80 [.ifc 30 (.own 0 1),.fn 81 [.ptr 1 0]] [.buf 1 2 37 (l.map fcE),.box [.own 0 1]] _:=sliceStableF rfl rfl (by decide) rfl (by omega)
 refine run_sound Tryz.func42 mixed 2 _ _ (by kernel_rfl) ?_
 simp only [go_sem,seval,run.eq_1]
 refine hst.mono ?_
 rintro c H' ⟨rfl,ys,hp,hs,rfl⟩
 simp only [go_sem,seval,run.eq_1]
 refine AW.frzBox 1 0 0 rfl rfl rfl (by decide) ?_
 refine run_sound Tryz.func42 mixed 2 _ _ (by kernel_rfl) ?_
 simp only [go_sem,seval,run.eq_1]
 refine AW.adopt 4 2 37 (by decide) rfl ?_
 have hyl:ys.length=l.length:=hp.length_eq
 have hR:ddC FcV.cmp none ys=sortC FcV.cmp l:=ddC_sort FcV.cmp_lin (fun z=>hp.mem_iff) (hs.imp (fun h=>by simpa using h))
 rw [←hR]
 refine rS_ Tryz.func42 ?_
 simp only [go_sem,seval,hmap]
 refine AW.rng ys [3,15,16] 17 15 (fun p:List FcV=>[(4,.own 2 (ddC FcV.cmp none p).length)]) (fun _ p=>[.dead,.box [.d (.sl (ys.map fcE))],.grow (ddC FcV.cmp none p).length 2 37 ((ddC FcV.cmp none p).map fcE)]) (fun r p=>ys=p++r) [] rfl (by simp) rfl (by refine ⟨by simp [mkS,ddC],by simp [mkS,ddC],by simp only [mkS,List.all_cons,List.all_nil,O.refsLt,C.refsLt,C.refsLt1,all_dmap];first | done | rfl | (simp;done),?_⟩;simp [mkS,Abs.get,C.refsLtT,C.refsLt,C.refsLt1,ddC]) (fun i x r p hxi hdr hlt hm hinv hnext=>?_) (fun p hinv=>?_)
 ·have hdl:=congrArg List.length hdr
  have hil:=congrArg List.length hinv
  simp only [List.length_drop,List.length_cons,List.length_append] at hdl hil
  have hip:i=p.length:=by omega
  have hnx:=fun s'=>hnext (p++[x]) s' (by rw [hinv];simp)
  clear hnext
  have hdd:=ddC_snoc (c:=FcV.cmp) p none x
  have hddl:(ddC FcV.cmp none p).length≤p.length:=by
   have key:∀(q:List FcV) (o:Option FcV),(ddC FcV.cmp o q).length≤q.length:=fun q=>by
    induction q with
    | nil=>intro o;simp [ddC]
    | cons z q ih =>
     intro o
     cases o with
     | none=>simp only [ddC,List.length_cons];have:=ih (some z);omega
     | some w=>simp only [ddC];split<;>simp only [List.length_cons]<;>have:=ih (some z)<;>omega
   exact key p none
  rcases List.eq_nil_or_concat p with rfl | ⟨p',y,rfl⟩
  ·obtain rfl:i=0:=by simpa using hip
   have hd1:ddC FcV.cmp none ([]++[x])=[x]:=rfl
   have hd0:ddC FcV.cmp none ([]:List FcV)=[]:=rfl
   rw [hd1] at hnx
   rw [hd0]
   have z0:((0:Nat):Int)=0:=rfl
   have hlt0:(0:Int)<(ys.length:Int):=by omega
   rw [z0] at hnx
   refine rS_ Tryz.func42 ?_
   simp only [go_sem,seval,hlt0,idx_of hxi,z0]
   repeat' (first
    | (simp (disch:=omega) only [wrap_ok])
    | ((refine ⟨sd,?_⟩)<;>(try simp only [go_sem,seval,hlt0,idx_of hxi,z0]))
    | fail)
   refine hnx _ wk1_
  ·rw [List.concat_eq_append] at *
   have hi0:¬(i:Int)=0:=by rw [hip];simp;omega
   have hw1:IntKind.i64.wrap ((i:Int) - 1)=((i - 1:Nat):Int):=by rw [wrap_ok (by omega) (by omega)];omega
   have n2:((i - 1:Nat):Int)<(ys.length:Int):=by omega
   have hyi:ys[i - 1]? = some y:=by
    rw [hinv,hip]
    simp
   have ho:=orderF_fn y x
   have hlast:(((none:Option FcV).toList++(p'++[y])).getLast?)=some y:=by simp
   rw [hlast] at hdd
   dsimp only at hdd
   by_cases e:y.cmp x=0
   ·rw [if_pos e,List.append_nil] at hdd
    rw [e] at ho
    rw [hdd] at hnx
    refine rS_ Tryz.func42 ?_
    simp only [go_sem,seval,hlt,idx_of hxi,hi0,hw1,n2,idx_of hyi,hmap]
    repeat' (first
     | (simp (disch:=omega) only [wrap_ok])
     | ((refine ho.callQ rfl ?_)<;>(try simp only [go_sem,seval,hlt,idx_of hxi,hi0,hw1,n2,idx_of hyi,hmap]))
     | fail)
    all_goals refine hnx _ wk1_
   ·rw [if_neg e] at hdd
    rw [hdd] at hnx
    refine rS_ Tryz.func42 ?_
    simp only [go_sem,seval,hlt,idx_of hxi,hi0,hw1,n2,idx_of hyi,hmap]
    repeat' (first
     | ((refine br_n (fun hq=>?_) (fun hq=>?_))<;>(try simp only [go_sem,seval,hlt,idx_of hxi,hi0,hw1,n2,idx_of hyi,hmap,e,hq]))
     | (simp (disch:=omega) only [wrap_ok])
     | ((first
      | (refine ho.callQ rfl ?_)
      | (refine ⟨sd,?_⟩))<;>(try simp only [go_sem,seval,hlt,idx_of hxi,hi0,hw1,n2,idx_of hyi,hmap,e]))
     | fail)
    all_goals first | (exfalso;exact e (by assumption)) | skip
    all_goals refine hnx _ wk1_
 ·rw [List.append_nil] at hinv
  rw [hinv]
  refine rS_ Tryz.func42 ?_
  simp only [go_sem,seval]
theorem half_u (x y:Nat) (h:x+y≤1000000000):IntKind.i64.wrap (shrI .u64 (IntKind.u64.wrap ((x:Int)+(y:Int))) 1)=(((x+y) / 2:Nat):Int):=halfN x y (by omega)
theorem search_fn {g:FuncId} {caps:List C} {m:Nat} {H:List O} {p:Nat→Bool} (n:Nat) (hn:n≤100000000) (h:CloR Tryz.prog g caps m (fun i:Nat=>D.int .i64 (i:Int)) H (fun i=>i<n) (fun i=>.d (.bool (p i)))) (hm:∀i j,i≤j→j<n→p i=true→p j=true) :
  ACalls Tryz.prog 85 [.d (.int .i64 n),.fn g caps] H (fun c H'=>c=.d (.int .i64 (srch p n:Int))∧H'=H):=by
 obtain ⟨K,hK⟩:∃K,srch p n=K:=⟨_,rfl⟩
 rw [hK]
 refine aE_ Tryz.func85 ?_
 refine rS_ Tryz.func85 ?_
 simp only [go_sem,seval,h.len,h.go,h.at0,h.atj,h.set0,h.setj,h.tk,h.tk0,h.tkj,h.refs,h.refsj,h.hcaps,h.capsj,List.append_assoc]
 refine AW.lp [1] (fun u:Nat×Nat=>[(5,.d (.int .i64 (u.1:Int))),(6,.d (.int .i64 (u.2:Int)))]) (fun H _=>H) (fun u=>u.1≤u.2∧u.2≤n∧(∀i,i<u.1→p i=false)∧(∀i,u.2≤i→i<n→p i=true)) (fun u=>u.2 - u.1) (0,n) ⟨Nat.zero_le _,Nat.le_refl _,fun i hi=>absurd hi (Nat.not_lt_zero _),fun i a b=>by omega⟩ wk4_ ?_
 rintro ⟨i,j⟩ ⟨h1,h2,h3,h4⟩ hnext
 dsimp only at h1 h2 h3 h4 hnext ⊢
 by_cases hij:i<j
 ·have n1:(i:Int)<(j:Int):=by omega
  have hh:=half_u i j (by omega)
  have w0:IntKind.i64.wrap ((i:Int)+(j:Int))=(i:Int)+(j:Int):=wrap_ok (by omega) (by omega)
  have hnx:=fun i' j' s'=>hnext (i',j') s'
  clear hnext
  have hq:(i+j) / 2<n:=by omega
  have hc:=h.call ((i+j) / 2) hq
  cases hp:p ((i+j) / 2) with
  | false =>
   rw [hp] at hc
   refine rS_ Tryz.func85 ?_
   simp only [go_sem,seval,n1,w0,hh,h.len,h.go,h.at0,h.atj,h.set0,h.setj,h.tk,h.tk0,h.tkj,h.refs,h.refsj,h.hcaps,h.capsj,List.append_assoc]
   repeat' (first
    | (simp (disch:=omega) only [wrap_ok])
    | ((refine hc.mono ?_<;>(rintro c H' ⟨rfl,rfl⟩))<;>(try simp only [go_sem,seval,n1,w0,hh,h.len,h.go,h.at0,h.atj,h.set0,h.setj,h.tk,h.tk0,h.tkj,h.refs,h.refsj,h.hcaps,h.capsj,List.append_assoc]))
    | fail)
   refine hnx ((i+j) / 2+1) j _ ⟨by omega,h2,fun x hx=>?_,h4⟩ (by dsimp only;omega) wk4_
   cases hpx:p x with
   | false=>rfl
   | true=>rw [←hp];exact (hm x _ (by omega) hq hpx).symm
  | true =>
   rw [hp] at hc
   refine rS_ Tryz.func85 ?_
   simp only [go_sem,seval,n1,w0,hh,h.len,h.go,h.at0,h.atj,h.set0,h.setj,h.tk,h.tk0,h.tkj,h.refs,h.refsj,h.hcaps,h.capsj,List.append_assoc]
   repeat' (first
    | ((refine hc.mono ?_<;>(rintro c H' ⟨rfl,rfl⟩))<;>(try simp only [go_sem,seval,n1,w0,hh,h.len,h.go,h.at0,h.atj,h.set0,h.setj,h.tk,h.tk0,h.tkj,h.refs,h.refsj,h.hcaps,h.capsj,List.append_assoc]))
    | fail)
   refine hnx i ((i+j) / 2) _ ⟨by omega,by omega,h3,fun x hx hxn=>hm _ x hx hxn hp⟩ (by dsimp only;omega) wk4_
 ·have n1:¬(i:Int)<(j:Int):=by omega
  obtain rfl:i=j:=by omega
  have hki:K=i:=by rw [←hK];exact srch_eq h2 h3 (fun hlt=>h4 i (Nat.le_refl _) hlt)
  rw [hki]
  refine rS_ Tryz.func85 ?_
  simp only [go_sem,seval,n1,h.len,h.go,h.at0,h.atj,h.set0,h.setj,h.tk,h.tk0,h.tkj,h.refs,h.refsj,h.hcaps,h.capsj,List.append_assoc]
theorem hasFact1_clo (l:List FcV) (f:FcV):CloR Tryz.prog 86 [.ptr 0 0,.ptr 1 0] 2 (fun i:Nat=>D.int .i64 (i:Int)) [.box [.d (.sl (l.map fcE))],.box ((fcE f).map .d)] (fun i=>i<l.length) (fun i=>.d (.bool (geC FcV.cmp l f i))):=by
 have hmap:∀x:List FcV,(x.map fcE).length=x.length:=fun x=>List.length_map _
 refine ⟨by kernel_rfl,rfl,rfl,by simp only [List.all_cons,List.all_nil,O.refsLt,all_dmap,C.refsLt,C.refsLt1];rfl,fun i hi=>?_⟩
 have hb:l[i]? = some l[i]:=List.getElem?_eq_getElem hi
 have hg:geC FcV.cmp l f i=decide (0≤l[i].cmp f):=by unfold geC;rw [hb]
 rw [hg]
 generalize l[i]=b at hb
 have n1:(i:Int)<(l.length:Int):=by omega
 have ho:=orderF_fn b f
 refine aE_ Tryz.func86 ?_
 refine rS_ Tryz.func86 ?_
 simp only [go_sem,seval,hmap,n1,idx_of hb]
 repeat' (first
  | ((refine ho.callQ rfl ?_)<;>(try simp only [go_sem,seval,hmap,n1,idx_of hb]))
  | fail)
 all_goals simp only [all_dmap]
theorem hasFact_fn (l:List FcV) (f:FcV) (hl:l.length≤9000000) (ha:ascC FcV.cmp l):Gives Tryz.prog 46 [.sl (l.map fcE),.agg (fcE f)] (.d (.bool (decide (f∈l)))):=by
 have hmap:∀x:List FcV,(x.map fcE).length=x.length:=fun x=>List.length_map _
 have hs:=search_fn l.length (by omega) (hasFact1_clo l f) (geC_mono FcV.cmp_lin ha f)
 have hh:=srch_has FcV.cmp_lin ha f
 generalize srch (geC FcV.cmp l f) l.length=k at hs hh
 cases hb:l[k]? with
 | none =>
  have hk:=List.getElem?_eq_none_iff.1 hb
  have n1:¬(k:Int)<(l.length:Int):=by omega
  rw [hb] at hh
  rw [decide_eq_false (fun h=>hh.2 h)]
  refine aE_ Tryz.func46 ?_
  refine rS_ Tryz.func46 ?_
  simp only [go_sem,seval,hmap,n1]
  repeat' (first
   | ((refine hs.mono ?_<;>(rintro c H' ⟨rfl,rfl⟩))<;>(try simp only [go_sem,seval,hmap,n1]))
   | fail)
 | some b =>
  have hk:=(List.getElem?_eq_some_iff.1 hb).1
  have n1:(k:Int)<(l.length:Int):=by omega
  rw [hb] at hh
  dsimp only at hh
  have ho:=orderF_fn b f
  rw [show decide (f∈l)=decide (b.cmp f=0) from by rw [Bool.eq_iff_iff,decide_eq_true_eq,decide_eq_true_eq];exact hh.symm]
  refine aE_ Tryz.func46 ?_
  refine rS_ Tryz.func46 ?_
  simp only [go_sem,seval,hmap,n1,idx_of hb]
  repeat' (first
   | ((first
    | (refine hs.mono ?_<;>(rintro c H' ⟨rfl,rfl⟩))
    | (refine ho.callQ rfl ?_))<;>(try simp only [go_sem,seval,hmap,n1,idx_of hb]))
   | fail)
end Go.Proofs.YtlajhmoomlgopaaGreat
namespace Go.Proofs.YtlajhmoomlgopaaGreat
open Go.Abs
set_option maxRecDepth 100000
set_option maxHeartbeats 4000000
set_option linter.unusedSimpArgs false
set_option linter.unusedVariables false
theorem uniL_inv {s r:List Tm} {x:Tm} {i:Nat} (hdr:s.drop i=x :: r):i=s.length - (r.length+1)∧r.length+1≤s.length∧i<s.length:=by
 have:=congrArg List.length hdr
 simp only [List.length_drop,List.length_cons] at this
 omega
theorem iUniverseOk_fn (s:List Tm) (hw:∀t,t∈s→wtL t.enc≤1048576) (hl:s.length≤9000000):Gives Tryz.prog 38 [.sl (s.map Tm.enc)] (.d (.bool (uniOk s))):=by
 have hmap:(s.map Tm.enc).length=s.length:=List.length_map _
 by_cases h1:1≤s.length
 ·have n1:¬(s.length:Int)<1:=by omega
  by_cases h2:s.length≤8
  ·have n2:¬(8:Int)<(s.length:Int):=by omega
   have hu:uniOk s=uniL none s:=by unfold uniOk;simp [h1,h2]
   rw [hu]
   refine aE_ Tryz.func38 ?_
   refine rS_ Tryz.func38 ?_
   simp only [go_sem,seval,hmap,n1,n2]
   refine AW.rng s [0,13,14] 15 13 (fun _:Option V=>[]) (fun H _=>H) (fun r p=>uniL p r=uniL none s∧(r.length=s.length→p=none)∧(r.length<s.length→∃y:Tm,s[s.length - r.length - 1]? = some y∧p=some y.V∧tmOk y=true)) none rfl (by simp) ⟨rfl,fun _=>rfl,fun h=>absurd h (Nat.lt_irrefl _)⟩ wk3_ (fun i x r p hxi hdr hlt hm hinv hnext=>?_) (fun p hinv=>?_)
   ·obtain ⟨i1,i2,i3⟩:=hinv
    obtain ⟨hi1,hi2,hi3⟩:=uniL_inv hdr
    have hto:Gives Tryz.prog 73 [.agg x.enc] (.d (.bool x.ground)):=iIsGround_fn x (hw x (List.mem_of_getElem? hxi))
    have ho:=hto
    simp only [List.length_cons,uniL] at i1 i2 i3
    cases hg:x.ground with
    | false =>
     rw [hg] at hto ho
     have c3:True:=trivial
     have hf:uniL none s=false:=by rw [←i1];simp [hg]
     rw [hf]
     refine rS_ Tryz.func38 ?_
     simp only [go_sem,seval,hlt,idx_of hxi,hmap]
     repeat' (first
      | ((refine hto.callQ rfl ?_)<;>(try simp only [go_sem,seval,hlt,idx_of hxi,hmap]))
      | fail)
     all_goals first | (exfalso;omega) | (exfalso;exact absurd (by assumption) c3) | rfl
    | true =>
     rw [hg] at hto
     clear ho
     have hxV:=Tm.enc_V (ground_ok hg)
     by_cases hi0:i=0
     ·obtain rfl:=i2 (by omega)
      have n0:¬(0:Int)<(i:Int):=by omega
      have ho:=hto
      refine rS_ Tryz.func38 ?_
      simp only [go_sem,seval,hlt,idx_of hxi,n0]
      repeat' (first
       | (simp (disch:=omega) only [wrap_ok])
       | (refine hnext (some x.V) _ ⟨by rw [←i1];simp [hi0,hg],fun h=>by omega,fun _=>⟨x,by rw [show s.length - r.length - 1=i by omega];exact hxi,rfl,ground_ok hg⟩⟩ wk3_)
       | ((refine hto.callQ rfl ?_)<;>(try simp only [go_sem,seval,hlt,idx_of hxi,n0]))
       | fail)
      all_goals (exfalso;omega)
     ·obtain ⟨y,hy,rfl,hyo⟩:=i3 (by omega)
      have n0:(0:Int)<(i:Int):=by omega
      have hw1:IntKind.i64.wrap ((i:Int) - 1)=((i - 1:Nat):Int):=by rw [wrap_ok (by omega) (by omega)];omega
      have n2:((i - 1:Nat):Int)<(s.length:Int):=by omega
      have hyi:s[i - 1]? = some y:=by rw [←hy];congr 1;omega
      have ho:Gives Tryz.prog 74 [.agg y.enc,.agg x.enc] (.d (.int .i64 (y.V.cmp x.V))):=by
       rw [Tm.enc_V hyo,hxV]
       exact orderTerms_fn _ _ _ (Nat.le_refl _)
      by_cases c3:y.V.cmp x.V<0
      ·have c4:¬0≤y.V.cmp x.V:=by omega
       refine rS_ Tryz.func38 ?_
       simp only [go_sem,seval,hlt,idx_of hxi,n0,hw1,n2,idx_of hyi,hmap,c3,c4]
       repeat' (first
        | (simp (disch:=omega) only [wrap_ok])
        | (refine hnext (some x.V) _ ⟨by rw [←i1];simp [c3,hg],fun h=>by omega,fun _=>⟨x,by rw [show s.length - r.length - 1=i by omega];exact hxi,rfl,ground_ok hg⟩⟩ wk3_)
        | ((first
         | (refine hto.callQ rfl ?_)
         | (refine ho.callQ rfl ?_))<;>(try simp only [go_sem,seval,hlt,idx_of hxi,n0,hw1,n2,idx_of hyi,hmap,c3,c4]))
        | fail)
       all_goals (exfalso;omega)
      ·have c4:0≤y.V.cmp x.V:=by omega
       have hf:uniL none s=false:=by rw [←i1];simp [c3]
       rw [hf]
       refine rS_ Tryz.func38 ?_
       simp only [go_sem,seval,hlt,idx_of hxi,n0,hw1,n2,idx_of hyi,hmap,c4]
       repeat' (first
        | ((first
         | (refine hto.callQ rfl ?_)
         | (refine ho.callQ rfl ?_))<;>(try simp only [go_sem,seval,hlt,idx_of hxi,n0,hw1,n2,idx_of hyi,hmap,c4]))
        | fail)
       all_goals first | (exfalso;omega) | (exfalso;exact absurd (by assumption) c3) | rfl
   rw [←hinv.1]
   refine rS_ Tryz.func38 ?_
   simp only [go_sem,seval]
   all_goals rfl
  ·have n2:(8:Int)<(s.length:Int):=by omega
   have hu:uniOk s=false:=by unfold uniOk;simp [h2]
   rw [hu]
   refine aE_ Tryz.func38 ?_
   refine rS_ Tryz.func38 ?_
   simp only [go_sem,seval,hmap,n1,n2]
 ·have n1:(s.length:Int)<1:=by omega
  have hu:uniOk s=false:=by unfold uniOk;simp [h1]
  rw [hu]
  refine aE_ Tryz.func38 ?_
  refine rS_ Tryz.func38 ?_
  simp only [go_sem,seval,hmap,n1]
theorem ways_fn (b n L:Nat) (hb8:b≤8) (hL:L≤1000000) (hn:n≤1000000):Gives Tryz.prog 76 [.int .i64 b,.int .i64 n,.int .i64 L] (.d (.int .i64 (min (sways b L n 1) (L+1):Nat))):=by
 obtain ⟨W,hW⟩:∃W,sways b L n 1=W:=⟨_,rfl⟩
 rw [hW]
 have w3:IntKind.i64.wrap ((L:Int)+1)=(L:Int)+1:=wrap_ok (by omega) (by omega)
 have hmin:∀k:Nat,(if (L:Int)+1<(k:Int) then (L:Int)+1 else (k:Int))=((min k (L+1):Nat):Int):=fun k=>by split<;>omega
 refine aE_ Tryz.func76 ?_
 refine rS_ Tryz.func76 ?_
 simp only [go_sem,seval]
 refine AW.lp [0,1,2] (fun u:Nat×Nat=>[(8,.d (.int .i64 (u.1:Int))),(7,.d (.int .i64 (u.2:Int)))]) (fun H _=>H) (fun u=>u.1≤n∧u.2≤(L+1) * 8∧sways b L (n - u.1) u.2=W) (fun u=>n - u.1) (0,1) ⟨Nat.zero_le _,by dsimp only;omega,hW⟩ wk3_ ?_
 rintro ⟨i,k⟩ ⟨h1,h2,h3⟩ hnext
 dsimp only at h1 h2 h3 hnext ⊢
 have hnx:=fun i' k' s'=>hnext (i',k') s'
 clear hnext
 have w2:IntKind.i64.wrap ((i:Int)+1)=((i+1:Nat):Int):=by rw [wrap_ok (by omega) (by omega)];omega
 by_cases hi:i<n
 ·have n1:(i:Int)<(n:Int):=by omega
  by_cases hk:k≤L
  ·have n2:(k:Int)≤(L:Int):=by omega
   have hkb:k * b≤(L+1) * 8:=Nat.mul_le_mul (by omega) hb8
   have w1:IntKind.i64.wrap ((k:Int) * (b:Int))=((k * b:Nat):Int):=by rw [←Int.natCast_mul,wrap_ok (by omega) (by omega)]
   have h4:sways b L (n - (i+1)) (k * b)=W:=by
    rw [show n - i=(n - (i+1))+1 by omega] at h3
    unfold sways at h3
    rw [if_pos hk] at h3;exact h3
   refine rS_ Tryz.func76 ?_
   simp only [go_sem,seval,n1,n2,w1,w2]
   refine hnx (i+1) (k * b) _ ⟨by omega,hkb,h4⟩ (by dsimp only;omega) wk3_
  ·have n2:¬(k:Int)≤(L:Int):=by omega
   rw [sways_ge hk] at h3
   subst h3
   refine rS_ Tryz.func76 ?_
   simp only [go_sem,seval,n1,n2,w3]
   all_goals first | rfl | (exfalso;omega) | exact congrArg (fun x=>C.d (D.int IntKind.i64 x)) (hmin _)
 ·have n1:¬(i:Int)<(n:Int):=by omega
  rw [show n - i=0 by omega] at h3
  unfold sways at h3
  subst h3
  refine rS_ Tryz.func76 ?_
  simp only [go_sem,seval,n1,w3]
  all_goals first | rfl | (exfalso;omega) | exact congrArg (fun x=>C.d (D.int IntKind.i64 x)) (hmin _)
end Go.Proofs.YtlajhmoomlgopaaGreat
namespace Go.Proofs.YtlajhmoomlgopaaGreat
open Go.Abs
set_option maxRecDepth 100000
set_option maxHeartbeats 4000000
set_option linter.unusedSimpArgs false
set_option linter.unusedVariables false
theorem cmpD (a b:V):decide (a.cmp b=0)=decide (a=b):=by
 rw [Bool.eq_iff_iff,decide_eq_true_eq,decide_eq_true_eq];exact V.cmp_zero a b
theorem memD (x y:V) (q:List V):decide (x∈y :: q)=(decide (y=x) || decide (x∈q)):=by
 rw [Bool.eq_iff_iff]
 simp only [decide_eq_true_eq,Bool.or_eq_true,List.mem_cons]
 exact ⟨fun h=>h.elim (fun e=>.inl e.symm) .inr,fun h=>h.elim (fun e=>.inl e.symm) .inr⟩
theorem tmodN (a b:Nat):(a:Int).tmod (b:Int)=((a % b:Nat):Int):=by rw [Int.tmod_eq_emod_of_nonneg (by omega)];omega
theorem tdivN (a b:Nat):(a:Int).tdiv (b:Int)=((a / b:Nat):Int):=by rw [Int.tdiv_eq_ediv_of_nonneg (by omega)];omega
theorem inUniverse_fn (u l:List V) (hu:u.length≤1000000):Gives Tryz.prog 78 [.sl (u.map V.enc),.sl (l.map V.enc)] (.d (.bool (l.all fun t=>decide (t∈u)))):=by
 obtain ⟨K,hK⟩:∃K,(l.all fun t=>decide (t∈u))=K:=⟨_,rfl⟩
 rw [hK]
 refine aE_ Tryz.func78 ?_
 refine rS_ Tryz.func78 ?_
 simp only [go_sem,seval]
 refine AW.rng l [0,10,11] 12 10 (fun _:Unit=>[]) (fun H _=>H) (fun r _=>(r.all fun t=>decide (t∈u))=K) () rfl (by simp) hK wk3_ (fun i x r p hxi hdr hlt hm hinv hnext=>?_) (fun p hinv=>?_)
 ·rw [List.all_cons] at hinv
  refine rS_ Tryz.func78 ?_
  simp only [go_sem,seval,hlt,idx_of hxi]
  refine AW.rng u [0,6,10,11,12,16,17] 18 16 (fun b:Bool=>[(7,.d (.bool b))]) (fun H _=>H) (fun r b=>(b || decide (x∈r))=decide (x∈u)) false rfl (by simp) (by simp) wk1_ (fun j y q b hyj hdr2 hlt2 hm2 hinv2 hnext2=>?_) (fun b hinv2=>?_)
  ·have he:=equalTerms_fn y x
   rw [cmpD] at he
   rw [memD,←Bool.or_assoc] at hinv2
   cases b with
   | true =>
    refine rS_ Tryz.func78 ?_
    simp only [go_sem,seval,hlt2,idx_of hyj]
    repeat' (first
     | (simp (disch:=omega) only [wrap_ok])
     | (refine hnext2 true _ (by simpa using hinv2) wk1_)
     | fail)
   | false =>
    rw [Bool.false_or] at hinv2
    generalize decide (y=x)=b2 at he hinv2
    refine rS_ Tryz.func78 ?_
    simp only [go_sem,seval,hlt2,idx_of hyj]
    repeat' (first
     | (simp (disch:=omega) only [wrap_ok])
     | (refine hnext2 b2 _ hinv2 wk1_)
     | ((refine he.calls rfl ?_)<;>(try simp only [go_sem,seval,hlt2,idx_of hyj]))
     | fail)
  ·simp only [List.not_mem_nil,decide_false,Bool.or_false] at hinv2
   rw [←hinv2] at hinv
   cases b with
   | true =>
    rw [Bool.true_and] at hinv
    refine rS_ Tryz.func78 ?_
    simp only [go_sem,seval]
    repeat' (first
     | (simp (disch:=omega) only [wrap_ok])
     | (refine hnext () _ hinv wk3_)
     | fail)
   | false =>
    rw [Bool.false_and] at hinv
    rw [←hinv]
    refine rS_ Tryz.func78 ?_
    simp only [go_sem,seval]
 ·rw [←hinv]
  refine rS_ Tryz.func78 ?_
  simp only [go_sem,seval]
  all_goals rfl
end Go.Proofs.YtlajhmoomlgopaaGreat
namespace Go.Proofs.YtlajhmoomlgopaaGreat
open Go.Abs
set_option maxRecDepth 100000
set_option maxHeartbeats 8000000
set_option linter.unusedSimpArgs false
set_option linter.unusedVariables false
def rvE (r:RV):List D:=r.ru.enc
theorem rvE_eq (r:RV):rvE r=[.str r.head.1,.sl (r.head.2.map V.enc),.int .i64 r.clause,.sl (r.values.map V.enc),.sl (r.pos.map fcE),.sl (r.neg.map fcE)]:=by
 unfold rvE
 rw [Ru.enc_eq]
 simp only [RV.ru,FcV.fc,enc_tms,List.map_map]
 rfl
def grC (o:Option (List RV)):C:=match o with | some l=>.tup [.d (.sl (l.map rvE)),.d (.bool true)] | none=>.tup [.d (.sl []),.d (.bool false)]
theorem grC_none:grC none=.tup [.d (.sl []),.d (.bool false)]:=rfl
theorem grC_some (l:List RV):grC (some l)=.tup [.d (.sl (l.map rvE)),.d (.bool true)]:=rfl
def bodE (r:Rl):List D:=[.sl (r.body.clsS.map encC)]
theorem bodE_eq (r:Rl):bodE r=[.sl (r.body.clsS.map encC)]:=rfl
theorem mk_step (vs:List V) (v:V) {n:Nat} (h:vs.length<n):(vs.map V.enc++List.replicate (n - vs.length) [D.int .i64 0,.int .i64 0,.str [],.sl []]).set vs.length (v.enc++List.drop 4 ((vs.map V.enc++List.replicate (n - vs.length) [D.int .i64 0,.int .i64 0,.str [],.sl []])[vs.length]?.getD []))=(vs++[v]).map V.enc++List.replicate (n - (vs++[v]).length) [D.int .i64 0,.int .i64 0,.str [],.sl []]:=by
 obtain ⟨m,hm⟩:∃m,n - vs.length=m+1:=⟨n - vs.length - 1,by omega⟩
 have e1:(vs.map V.enc++List.replicate (n - vs.length) [D.int .i64 0,.int .i64 0,.str [],.sl []])[vs.length]? = some [D.int .i64 0,.int .i64 0,.str [],.sl []]:=by
  rw [List.getElem?_append_right (by simp),hm];simp [List.replicate_succ]
 rw [e1,hm,List.set_append,if_neg (by simp)]
 simp only [List.length_map,Nat.sub_self,List.replicate_succ,List.set_cons_zero,Option.getD_some,List.drop_succ_cons,List.drop_nil,List.append_nil,List.map_append,List.map_cons,List.map_nil,List.append_assoc,List.cons_append,List.nil_append,List.length_append,List.length_cons,List.length_nil]
 rw [show n - (vs.length+(0+1))=m by omega]
theorem groundRules_fn (p:Pg) (u:List V) (hp:pgOk p=true) (hw:wtL p.enc≤1048576) (hu:Uni u):Gives Tryz.prog 40 [.agg p.enc,.sl (u.map V.enc)] (grC (p.gr u)):=by
 have hmx:maxLen=9223372036854775807:=rfl
 have hul:=hu.le
 have hup:=hu.pos
 obtain ⟨RES,hRES⟩:∃RES,grC (p.gr u)=RES:=⟨_,rfl⟩
 rw [hRES]
 have hbz:∀y,y∈p.rels.map bodE→y.length=1:=fun y hy=>by obtain ⟨b,_,rfl⟩:=List.mem_map.1 hy;rfl
 have hpl:p.rels.length≤8:=by
  unfold pgOk at hp;rw [Bool.and_eq_true,decide_eq_true_eq] at hp;exact hp.1
 refine aE_ Tryz.func40 ?_
 refine run_sound Tryz.func40 mixed 5 _ _ (by kernel_rfl) ?_
 simp only [go_sem,seval,run.eq_1]
 refine AW.adopt 6 1 77 (by decide) rfl ?_
 refine rS_ Tryz.func40 ?_
 simp only [go_sem,seval]
 refine AW.rng p.rels [1,2,30,31] 32 30 (fun L:List Rl=>[(6,.own 1 L.length)]) (fun _ L=>[.box (p.enc.map .d),.grow L.length 1 77 (L.map bodE)]) (fun r L=>p.rels=L++r∧L.all (Rl.gOk u)=true) [] rfl (by simp) ⟨rfl,rfl⟩ wk1_ (fun i x r L hxi hdr hlt hm hinv hnext=>?_) (fun L hinv=>?_)
 ·obtain ⟨i1,i2⟩:=hinv
  have hxm:=List.mem_of_getElem? hxi
  obtain ⟨z1,z2,z3,z4⟩:=Pg.dims hp hxm
  have hLl:L.length≤8:=by have:=congrArg List.length i1;simp at this;omega
  obtain ⟨n,hn⟩:∃n:Nat,x.arity+x.locals=(n:Int):=⟨(x.arity+x.locals).toNat,by omega⟩
  have hnn:(x.arity+x.locals).toNat=n:=by omega
  have hcl:=clausesOf_fn x.body (by have:=Pg.wt_rels hxm;have:=Rl.wt_body x;omega)
  rw [Gl.cls_same] at hcl
  have hwy:=ways_fn u.length n 4096 hul (by omega) (by omega)
  have hsw:=sways_1 (b:=u.length) (L:=4096) (n:=n) hup
  have hwr:IntKind.i64.wrap (x.arity+x.locals)=(n:Int):=by rw [hn];exact wrap_ok (by omega) (by omega)
  have hgo:x.gOk u=(decide (x.body.clsS.length≤64) && decide (u.length ^ n≤4096)):=by unfold Rl.gOk Rl.ways;rw [hnn]
  by_cases h64:x.body.clsS.length≤64
  ·rw [if_pos h64] at hcl
   unfold clsR at hcl
   rw [Option.getD_some,Option.isSome_some] at hcl
   by_cases h4:u.length ^ n≤4096
   ·have hg:x.gOk u=true:=by rw [hgo,decide_eq_true h64,decide_eq_true h4];rfl
    have hmn:min (sways u.length 4096 n 1) (4096+1)≤4096:=by have:=hsw.1.1 h4;omega
    have n1:¬(4096:Int)<((min (sways u.length 4096 n 1) (4096+1):Nat):Int):=by omega
    generalize (min (sways u.length 4096 n 1) (4096+1):Nat)=W at *
    refine rS_ Tryz.func40 ?_
    simp only [go_sem,seval,hlt,idx_of hxi]
    repeat' (first
     | (simp (disch:=omega) only [wrap_ok])
     | ((first
      | (refine hcl.calls rfl ?_)
      | (refine hwy.calls rfl ?_)
      | (refine ⟨sd,?_⟩))<;>(try simp only [go_sem,seval,hlt,idx_of hxi,hwr,n1]))
     | fail)
    refine hnext (L++[x]) _ ⟨by rw [i1];simp,by rw [List.all_append,i2];simp [hg]⟩ (by refine ⟨by simp [mkS,bodE_eq],by simp [mkS,bodE_eq],by simp only [mkS,List.all_cons,List.all_nil,O.refsLt,C.refsLt,C.refsLt1,all_dmap];first | done | rfl | (simp;done),?_⟩;simp [mkS,Abs.get,C.refsLtT,C.refsLt,C.refsLt1,bodE_eq])
   ·have hg:x.gOk u=false:=by rw [hgo,decide_eq_false h4,Bool.and_false]
    have hmn:4096<min (sways u.length 4096 n 1) (4096+1):=by
     have:¬sways u.length 4096 n 1≤4096:=fun h=>h4 (hsw.1.2 h)
     omega
    have n1:(4096:Int)<((min (sways u.length 4096 n 1) (4096+1):Nat):Int):=by omega
    rw [Pg.gr_bad hxm hg,grC_none] at hRES
    rw [←hRES]
    generalize (min (sways u.length 4096 n 1) (4096+1):Nat)=W at *
    refine rS_ Tryz.func40 ?_
    simp only [go_sem,seval,hlt,idx_of hxi]
    repeat' (first
     | ((first
      | (refine hcl.calls rfl ?_)
      | (refine hwy.calls rfl ?_))<;>(try simp only [go_sem,seval,hlt,idx_of hxi,hwr,n1]))
     | fail)
  ·have hg:x.gOk u=false:=by rw [hgo,decide_eq_false h64,Bool.false_and]
   rw [if_neg h64] at hcl
   unfold clsR at hcl
   rw [Option.getD_none,Option.isSome_none] at hcl
   rw [Pg.gr_bad hxm hg,grC_none] at hRES
   rw [←hRES]
   refine rS_ Tryz.func40 ?_
   simp only [go_sem,seval,hlt,idx_of hxi]
   repeat' (first
    | ((refine hcl.calls rfl ?_)<;>(try simp only [go_sem,seval,hlt,idx_of hxi]))
    | fail)
 ·obtain ⟨i1,i2⟩:=hinv
  rw [List.append_nil] at i1
  subst i1
  have hgr:=fun hl=>Pg.gr_some i2 hl
  refine run_sound Tryz.func40 mixed 8 _ _ (by kernel_rfl) ?_
  simp only [go_sem,seval,run.eq_1]
  refine AW.adopt 11 6 58 (by decide) rfl ?_
  refine rS_ Tryz.func40 ?_
  simp only [go_sem,seval]
  have hgok:∀x,x∈p.rels→x.gOk u=true:=List.all_eq_true.1 i2
  clear i2
  generalize hGN:Pg.gnd u p.rels=GN at hgr
  refine AW.rng p.rels [1,6,62,63] 64 62 (fun L:List RV=>[(11,.own 2 L.length)]) (fun _ L=>[.box (p.enc.map .d),.grow p.rels.length 1 77 (p.rels.map bodE),.grow L.length 6 58 (L.map rvE)]) (fun r L=>GN=L++Pg.gnd u r∧L.length≤2000) [] rfl (by simp) ⟨hGN.symm,by simp⟩ wk1_ (fun i x r L hxi hdr hlt hm hinv hnext=>?_) (fun L hinv=>?_)
  ·obtain ⟨i1,i2⟩:=hinv
   have hxm:=List.mem_of_getElem? hxi
   obtain ⟨z1,z2,z3,z4⟩:=Pg.dims hp hxm
   obtain ⟨n,hn⟩:∃n:Nat,x.arity+x.locals=(n:Int):=⟨(x.arity+x.locals).toNat,by omega⟩
   have hnn:(x.arity+x.locals).toNat=n:=by omega
   have hn12:n≤12:=by omega
   have hwr:IntKind.i64.wrap (x.arity+x.locals)=(n:Int):=by rw [hn];exact wrap_ok (by omega) (by omega)
   have hwy:=ways_fn u.length n 4096 hul (by omega) (by omega)
   have hsw:=sways_1 (b:=u.length) (L:=4096) (n:=n) hup
   have hgx:=hgok x hxm
   have hgo:x.gOk u=(decide (x.body.clsS.length≤64) && decide (u.length ^ n≤4096)):=by unfold Rl.gOk Rl.ways;rw [hnn]
   rw [hgo,Bool.and_eq_true,decide_eq_true_eq,decide_eq_true_eq] at hgx
   obtain ⟨h64,h4⟩:=hgx
   have hW:x.ways u=u.length ^ n:=by unfold Rl.ways;rw [hnn]
   have hmn:min (sways u.length 4096 n 1) (4096+1)=x.ways u:=by rw [hsw.2 h4,hW];omega
   rw [hmn] at hwy
   rw [←hW] at h4
   have hbe:(p.rels.map bodE)[i]? = some [.sl (x.body.clsS.map encC)]:=by rw [List.getElem?_map,hxi];rfl
   have hbm:(p.rels.map bodE).length=p.rels.length:=List.length_map _
   have hcs:∀c,c∈x.body.clsS→∀g,g∈c→g.inst n:=fun c hc g hg=>Gl.inst_sub (Pg.body_inst hp hxm (m:=n) hn.symm).1 g (clsS_sub hc hg)
   have hcl:∀c,c∈x.body.clsS→c.length≤60:=fun c hc=>Nat.le_trans (Gl.clsS_row x.body c hc).1 (Pg.body_inst hp hxm (m:=n) hn.symm).2.2.2.2.2
   have hgn:Pg.gnd u (x :: r)=rvsB u x (x.ways u) 0 x.body.clsS++Pg.gnd u r:=rfl
   rw [hgn] at i1
   clear hgn hsw hmn hgo hW hgok
   have hxar:x.enc=[.str x.name,.int .i64 x.arity,.int .i64 x.locals]++x.body.enc:=by unfold Rl.enc;simp
   generalize hCS:x.body.clsS=CS at *
   generalize hWW:x.ways u=W at *
   refine rS_ Tryz.func40 ?_
   simp only [go_sem,seval,hlt,idx_of hxi,hwr,hbm]
   repeat' (first
    | ((refine hwy.calls rfl ?_)<;>(try simp only [go_sem,seval,hlt,idx_of hxi,hwr,hbm,idx_of hbe]))
    | fail)
   refine AW.rng CS [1,6,13,14,15,62,63,64,81,82] 83 81 (fun L:List RV=>[(11,.own 2 L.length)]) (fun _ L=>[.box (p.enc.map .d),.grow p.rels.length 1 77 (p.rels.map bodE),.grow L.length 6 58 (L.map rvE),.box (x.enc.map .d)]) (fun cs L=>GN=L++(rvsB u x W ((CS.length - cs.length:Nat):Int) cs++Pg.gnd u r)∧L.length≤2000) L rfl (by simp) ⟨by rw [Nat.sub_self];exact i1,i2⟩ wk1_ (fun ci c cs L hci hdc hltc hmc hinv hnc=>?_) (fun L hinv=>?_)
   ·obtain ⟨i1,i2⟩:=hinv
    have hcm:=List.mem_of_getElem? hci
    have hdl:=congrArg List.length hdc
    simp only [List.length_drop,List.length_cons] at hdl
    have hcs:=hcs c hcm
    have hcl:=hcl c hcm
    have hcil:ci<CS.length:=(List.getElem?_eq_some_iff.1 hci).1
    rw [List.length_cons,show CS.length - (cs.length+1)=ci by omega,rvsB_s,List.append_assoc] at i1
    have hnc:=fun (L:List RV) s' (h2:L.length≤2000) (h1:GN=L++(rvsB u x W ((ci+1:Nat):Int) cs++Pg.gnd u r))=>hnc L s' ⟨by rw [show CS.length - cs.length=ci+1 by omega];exact h1,h2⟩
    rw [show ((ci:Int)+1)=((ci+1:Nat):Int) by omega] at i1
    generalize hX:rvsB u x W ((ci+1:Nat):Int) cs++Pg.gnd u r=X at *
    refine rS_ Tryz.func40 ?_
    simp only [go_sem,seval,hltc,idx_of hci,encC_eq]
    refine AW.lp [1,6,13,14,15,16,17,62,63,64,81,82,83] (fun u:Nat×List RV=>[(18,.d (.int .i64 (u.1:Int))),(11,.own 2 u.2.length)]) (fun _ y=>[.box (p.enc.map .d),.grow p.rels.length 1 77 (p.rels.map bodE),.grow y.2.length 6 58 (y.2.map rvE),.box (x.enc.map .d)]) (fun y=>y.1≤W∧GN=y.2++(rvsC u x (ci:Int) c y.1 (W - y.1)++X)∧y.2.length≤2000) (fun y=>W - y.1) (0,L) ⟨Nat.zero_le _,i1,i2⟩ wk1_ ?_
    rintro ⟨w,L1⟩ ⟨j1,j2,j3⟩ hnw
    dsimp only at j1 j2 j3 hnw ⊢
    have hnw:=fun w' L' s' h=>hnw (w',L') s' h
    clear i1 i2
    by_cases hwW:w<W
    ·have n1:(w:Int)<(W:Int):=by omega
     have hvl:=gVals_len u n w
     have hvm:=gVals_mem hup n w
     rw [show W - w=(W - (w+1))+1 by omega,rvsC_s] at j2
     have hrk:rvK u x (ci:Int) c w=if rvFine u c (gVals u n w)=true then some (rvOf x (ci:Int) c (gVals u n w)) else none:=by unfold rvK;rw [hnn]
     rw [hrk,List.append_assoc] at j2
     have hng:¬(n:Int)<0:=by omega
     obtain ⟨G,hG⟩:∃G,gVals u n w=G:=⟨_,rfl⟩
     rw [hG] at j2 hvl hvm
     clear hrk
     refine rS_ Tryz.func40 ?_
     simp only [go_sem,seval,n1,hng]
     repeat' (first
      | ((refine ⟨sd,?_⟩)<;>(try simp only [go_sem,seval,n1,hng]))
      | fail)
     refine AW.lp [1,6,11,13,14,15,16,17,18,19,62,63,64,81,82,83] (fun v:List V×Nat=>[(21,.d (.int .i64 (v.1.length:Int))),(20,.d (.int .i64 (v.2:Int)))]) (fun _ v=>[.box (p.enc.map .d),.grow p.rels.length 1 77 (p.rels.map bodE),.grow L1.length 6 58 (L1.map rvE),.box (x.enc.map .d),.row 4 85 (v.1.map V.enc++List.replicate (n - v.1.length) [.int .i64 0,.int .i64 0,.str [],.sl []])]) (fun v=>v.1++gVals u (n - v.1.length) v.2=G∧v.1.length≤n∧v.2≤w) (fun v=>n - v.1.length) ([],w) ⟨hG,Nat.zero_le _,Nat.le_refl _⟩ wk1_ ?_
     rintro ⟨vs,y⟩ ⟨k1,k2,k3⟩ hnv
     dsimp only at k1 k2 k3 hnv ⊢
     have hnv:=fun v' y' s' h=>hnv (v',y') s' h
     by_cases hvn:vs.length<n
     ·have n2:(vs.length:Int)<(n:Int):=by omega
      have hm1:y % u.length<u.length:=Nat.mod_lt _ (by omega)
      obtain ⟨v,hv⟩:∃v,u[y % u.length]? = some v:=⟨_,List.getElem?_eq_getElem hm1⟩
      have hve:u.getD (y % u.length) .nil=v:=by rw [List.getD_eq_getElem?_getD,hv];rfl
      have hvd:(u.map V.enc)[y % u.length]? = some v.enc:=by rw [List.getElem?_map,hv];rfl
      have hml:(u.map V.enc).length=u.length:=List.length_map _
      have hdv:y / u.length≤y:=Nat.div_le_self _ _
      have hrm:=tmodN y u.length
      have hqd:=tdivN y u.length
      have h0:¬(u.length:Int)=0:=by omega
      rw [show n - vs.length=(n - (vs.length+1))+1 by omega] at k1
      have hre:gVals u (n - (vs.length+1)+1) y=v :: gVals u (n - (vs.length+1)) (y / u.length):=by rw [←hve];rfl
      rw [hre] at k1
      clear hve hre
      generalize y % u.length=ym at *
      generalize y / u.length=yq at *
      have w1:IntKind.i64.wrap (yq:Int)=(yq:Int):=wrap_ok (by omega) (by omega)
      have w2:IntKind.i64.wrap ((vs.length:Int)+1)=(vs.length:Int)+1:=wrap_ok (by omega) (by omega)
      have n3:(ym:Int)<(u.length:Int):=by omega
      refine rS_ Tryz.func40 ?_
      simp only [go_sem,seval,n2,idx_of hvd,hrm,hqd,h0,w1,w2,n3,hml]
      repeat' (first
       | ((refine ⟨sd,?_⟩)<;>(try simp only [go_sem,seval,n2,idx_of hvd,hrm,hqd,h0,w1,w2,n3,hml]))
       | fail)
      rw [mk_step vs v hvn]
      refine hnv (vs++[v]) yq _ ⟨by rw [←k1];simp,by simp;omega,by omega⟩ (by simp;omega) wk1_
     ·have n2:¬(vs.length:Int)<(n:Int):=by omega
      rw [show n - vs.length=0 by omega] at k1 ⊢
      have e0:gVals u 0 y=[]:=rfl
      rw [e0,List.append_nil] at k1
      subst k1
      clear hnv
      refine run_sound Tryz.func40 mixed 6 _ _ (by kernel_rfl) ?_
      simp only [go_sem,seval,run.eq_1,n2]
      refine AW.freeze 19 4 rfl rfl (by simp;omega) ?_
      try rw [List.replicate_zero,List.append_nil]
      refine AW.drawA mixed #[true,true,true,true,true,true,true,true,true,true,true,false] [(3,.box (x.enc.map .d))] [] [0,1,2,3,4,7,8,10,5,6,9] [11] (some (10,22,58,[.string ⟨#[]⟩,.slice none 0 0,.int .i64 0,.slice none 0 0,.slice none 0 0,.slice none 0 0])) (by kernel_rfl) tz58 (by simp [holdsB]) ?_
      simp only [go_sem,seval]
      refine ⟨z1,by omega,?_⟩
      refine AW.adoptGB 5 4 2 37 (by decide) rfl rfl ?_
      refine AW.adoptGB 5 5 2 37 (by decide) rfl rfl ?_
      refine rS_ Tryz.func40 ?_
      simp only [go_sem,seval]
      have hfa:=rvFine_all u vs c
      clear hvm
      refine AW.rng c [1,6,11,13,14,15,16,17,18,19,22,62,63,64,81,82,83,125,126] 127 125 (fun a:Bool×List FcV×List FcV=>[(23,.d (.bool a.1))]) (fun _ a=>[.box (p.enc.map .d),.grow p.rels.length 1 77 (p.rels.map bodE),.grow L1.length 6 58 (L1.map rvE),.box (x.enc.map .d),.dead,.box [.d (.str x.name),.d (.sl ((vs.take x.arity.toNat).map V.enc)),.d (.int .i64 ci),.d (.sl (vs.map V.enc)),.own 6 a.2.1.length,.own 7 a.2.2.length],.grow a.2.1.length 2 37 (a.2.1.map fcE),.grow a.2.2.length 2 37 (a.2.2.map fcE)]) (fun s a=>∃d,c=d++s∧a.2.1.length≤d.length∧a.2.2.length≤d.length∧(a.1=true→a.2.1=clsPos (valAt vs) d∧a.2.2=clsNeg (valAt vs) d∧d.all (okG u vs)=true)∧(a.1=false→c.all (okG u vs)=false)) (true,[],[]) rfl (by simp) ⟨[],rfl,by simp,by simp,fun _=>⟨rfl,rfl,rfl⟩,fun h=>by cases h⟩ wk1_ (fun gi g s a hgi hdg hltg hmg hinv hng2=>?_) (fun a hinv=>?_)
      ·obtain ⟨fine,P,N⟩:=a
       obtain ⟨d,d1,d2,d3,d4,d5⟩:=hinv
       dsimp only at d2 d3 d4 d5 hng2 ⊢
       have hng2:=fun b P N s' h=>hng2 (b,P,N) s' h
       cases fine with
       | false =>
        have hff:=d5 rfl
        rw [hfa,hff,if_neg (by simp),Option.toList_none,List.nil_append] at j2
        have hn5:¬(2000:Int)<(L1.length:Int):=by omega
        have w7:IntKind.i64.wrap ((w:Int)+1)=((w+1:Nat):Int):=by rw [wrap_ok (by omega) (by omega)];omega
        refine rS_ Tryz.func40 ?_
        simp only [go_sem,seval,hn5,w7,hltg,idx_of hgi]
        refine hnw (w+1) L1 _ ⟨by omega,j2,j3⟩ (by dsimp only;omega) wk1_
       | true =>
        obtain ⟨e1,e2,e3⟩:=d4 rfl
        clear d4 d5
        have hgm:=List.mem_of_getElem? hgi
        have hgn:=hcs g hgm
        rw [←hvl] at hgn
        have hok:(d++[g]).all (okG u vs)=okG u vs g:=by rw [List.all_append,e3];simp
        have hbad:okG u vs g=false→c.all (okG u vs)=false:=fun h=>by rw [d1,List.all_append,List.all_cons,h];simp
        have hd60:d.length≤60:=by have:=congrArg List.length d1;simp at this;omega
        have hP60:P.length≤60:=by omega
        have hN60:N.length≤60:=by omega
        have hps:=clsPos_snoc (valAt vs) d g
        have hns:=clsNeg_snoc (valAt vs) d g
        by_cases h9:g.kind=9
        ·have hcf:=callFact_fn g vs hgn
         have hog:okG u vs g=inUV u (g.callV (valAt vs)):=by unfold okG;rw [if_pos h9]
         have hin:=inUniverse_fn u (g.callV (valAt vs)).2 (by omega)
         rw [show ((g.callV (valAt vs)).2.all fun t=>decide (t∈u))=okG u vs g from hog.symm] at hin
         have hFe:=fcE_eq (g.callV (valAt vs))
         rw [if_pos h9,←e1] at hps
         rw [if_neg (by omega),List.append_nil,←e2] at hns
         change Gives _ _ _ (.d (.agg (fcE (g.callV (valAt vs))))) at hcf
         generalize g.callV (valAt vs)=F at *
         generalize okG u vs g=ok at *
         refine rS_ Tryz.func40 ?_
         simp only [go_sem,seval,hltg,idx_of hgi,h9]
         repeat' (first
          | (simp (disch:=omega) only [wrap_ok])
          | ((first
           | (refine hcf.calls rfl ?_)
           | (refine hin.calls rfl ?_)
           | (refine ⟨sd,?_⟩))<;>(try simp only [go_sem,seval,hltg,idx_of hgi,h9,hFe]))
          | fail)
         refine hng2 ok (P++[F]) N _ ⟨d++[g],by rw [d1];simp,by simp;omega,by simp;omega,fun h=>⟨hps.symm,hns.symm,hok.trans h⟩,hbad⟩ (by refine ⟨by simp [mkS,hFe],by simp [mkS,hFe],by simp only [mkS,List.all_cons,List.all_nil,O.refsLt,C.refsLt,C.refsLt1,all_dmap];first | done | rfl | (simp;done),?_⟩;simp [mkS,Abs.get,C.refsLtT,C.refsLt,C.refsLt1,hFe])
        ·rw [if_neg h9,List.append_nil,←e1] at hps
         by_cases h10:g.kind=10
         ·obtain ⟨y,hy⟩:=Gl.shape_not hgn.1 h10
          have hcf:=callFact_fn y vs (Gl.inst_sub hgn y (sub_not hy))
          have hog:okG u vs g=inUV u (y.callV (valAt vs)):=by unfold okG;rw [if_neg h9,if_pos h10,hy];rfl
          have hin:=inUniverse_fn u (y.callV (valAt vs)).2 (by omega)
          rw [show ((y.callV (valAt vs)).2.all fun t=>decide (t∈u))=okG u vs g from hog.symm] at hin
          have hFe:=fcE_eq (y.callV (valAt vs))
          rw [if_pos h10,hy,←e2] at hns
          change Gives _ _ _ (.d (.agg (fcE (y.callV (valAt vs))))) at hcf
          change clsNeg (valAt vs) (d++[g])=N++[y.callV (valAt vs)] at hns
          generalize y.callV (valAt vs)=F at *
          generalize okG u vs g=ok at *
          have hy0:g.goals[0]? = some y:=by rw [hy];rfl
          have hy1:(0:Int)<(g.goals.length:Int):=by rw [hy];simp
          refine rS_ Tryz.func40 ?_
          simp only [go_sem,seval,hltg,idx_of hgi,h9,h10,idx_of hy0,hy1]
          repeat' (first
           | (simp (disch:=omega) only [wrap_ok])
           | ((first
            | (refine hcf.calls rfl ?_)
            | (refine hin.calls rfl ?_)
            | (refine ⟨sd,?_⟩))<;>(try simp only [go_sem,seval,hltg,idx_of hgi,h9,h10,hFe,idx_of hy0,hy1]))
           | fail)
          refine hng2 ok P (N++[F]) _ ⟨d++[g],by rw [d1];simp,by simp;omega,by simp;omega,fun h=>⟨hps.symm,hns.symm,hok.trans h⟩,hbad⟩ (by refine ⟨by simp [mkS,hFe],by simp [mkS,hFe],by simp only [mkS,List.all_cons,List.all_nil,O.refsLt,C.refsLt,C.refsLt1,all_dmap];first | done | rfl | (simp;done),?_⟩;simp [mkS,Abs.get,C.refsLtT,C.refsLt,C.refsLt1,hFe])
         ·have htw:=trueWith_fn g vs hgn
          have hog:okG u vs g=g.testV (valAt vs):=by unfold okG;rw [if_neg h9,if_neg h10]
          rw [←hog] at htw
          rw [if_neg h10,List.append_nil,←e2] at hns
          generalize okG u vs g=ok at *
          refine rS_ Tryz.func40 ?_
          simp only [go_sem,seval,hltg,idx_of hgi,h9,h10]
          repeat' (first
           | (simp (disch:=omega) only [wrap_ok])
           | ((refine htw.calls rfl ?_)<;>(try simp only [go_sem,seval,hltg,idx_of hgi,h9,h10]))
           | fail)
          refine hng2 ok P N _ ⟨d++[g],by rw [d1];simp,by simp;omega,by simp;omega,fun h=>⟨hps.symm,hns.symm,hok.trans h⟩,hbad⟩ wk1_
      ·obtain ⟨fine,P,N⟩:=a
       obtain ⟨d,d1,d2,d3,d4,d5⟩:=hinv
       dsimp only at d2 d3 d4 d5 ⊢
       rw [List.append_nil] at d1
       subst d1
       cases fine with
       | false =>
        have hff:=d5 rfl
        rw [hfa,hff,if_neg (by simp),Option.toList_none,List.nil_append] at j2
        have hn5:¬(2000:Int)<(L1.length:Int):=by omega
        have w7:IntKind.i64.wrap ((w:Int)+1)=((w+1:Nat):Int):=by rw [wrap_ok (by omega) (by omega)];omega
        refine rS_ Tryz.func40 ?_
        simp only [go_sem,seval,hn5,w7,e0]
        refine hnw (w+1) L1 _ ⟨by omega,j2,j3⟩ (by dsimp only;omega) wk1_
       | true =>
        obtain ⟨e1,e2,e3⟩:=d4 rfl
        subst e1 e2
        rw [hfa,e3,if_pos rfl,Option.toList_some] at j2
        have hrE:=rvE_eq (rvOf x (ci:Int) c vs)
        unfold rvOf at hrE
        dsimp only at hrE
        have hrF:rvOf x (ci:Int) c vs=⟨(x.name,vs.take x.arity.toNat),(ci:Int),vs,clsPos (valAt vs) c,clsNeg (valAt vs) c⟩:=rfl
        rw [hrF] at j2
        generalize clsPos (valAt vs) c=P at *
        generalize clsNeg (valAt vs) c=N at *
        generalize (RV.mk (x.name,vs.take x.arity.toNat) (ci:Int) vs P N)=RR at *
        have w7:IntKind.i64.wrap ((w:Int)+1)=((w+1:Nat):Int):=by rw [wrap_ok (by omega) (by omega)];omega
        have hrl:(L1.map rvE).length=L1.length:=List.length_map _
        have hj2:GN=(L1++[RR])++(rvsC u x (ci:Int) c (w+1) (W - (w+1))++X):=by rw [j2];simp
        by_cases h20:L1.length<2000
        ·have hn5:¬(2000:Int)<(L1.length:Int)+1:=by omega
         refine rS_ Tryz.func40 ?_
         simp only [go_sem,seval,hn5,w7,hrl]
         repeat' (first
          | ((refine ⟨sd,?_⟩)<;>(try simp only [go_sem,seval,hn5,w7,hrl]))
          | fail)
         refine hnw (w+1) (L1++[RR]) _ ⟨by omega,hj2,by simp;omega⟩ (by dsimp only;omega) (by refine ⟨by simp [mkS,hrE],by simp [mkS,hrE],by simp only [mkS,List.all_cons,List.all_nil,O.refsLt,C.refsLt,C.refsLt1,all_dmap];first | done | rfl | (simp;done),?_⟩;simp [mkS,Abs.get,C.refsLtT,C.refsLt,C.refsLt1,hrE])
        ·have hn5:(2000:Int)<(L1.length:Int)+1:=by omega
         rw [Pg.gr_none (hGN.trans hj2) (by simp;omega),grC_none] at hRES
         rw [←hRES]
         refine rS_ Tryz.func40 ?_
         simp only [go_sem,seval,hn5,w7,hrl]
         repeat' (first
          | ((refine ⟨sd,?_⟩)<;>(try simp only [go_sem,seval,hn5,w7,hrl]))
          | fail)
         all_goals omega
    ·have n1:¬(w:Int)<(W:Int):=by omega
     rw [show W - w=0 by omega] at j2
     have e0:rvsC u x (ci:Int) c w 0=[]:=rfl
     rw [e0,List.nil_append] at j2
     refine rS_ Tryz.func40 ?_
     simp only [go_sem,seval,n1]
     repeat' (first
      | (simp (disch:=omega) only [wrap_ok])
      | (refine hnc L1 _ j3 j2 wk1_)
      | fail)
     all_goals refine hnc L1 _ j3 (by rw [hX];exact j2) wk1_
   ·obtain ⟨i1,i2⟩:=hinv
    have e0:rvsB u x W ((CS.length - ([]:List (List Gl)).length:Nat):Int) []=[]:=rfl
    rw [e0,List.nil_append] at i1
    refine rS_ Tryz.func40 ?_
    simp only [go_sem,seval]
    repeat' (first
     | (simp (disch:=omega) only [wrap_ok])
     | fail)
    all_goals refine hnext L _ ⟨i1,i2⟩ wk1_
  ·obtain ⟨i1,i2⟩:=hinv
   have e0:Pg.gnd u []=[]:=rfl
   rw [e0,List.append_nil] at i1
   subst i1
   rw [hgr i2,grC_some] at hRES
   rw [←hRES]
   refine rS_ Tryz.func40 ?_
   simp only [go_sem,seval]
end Go.Proofs.YtlajhmoomlgopaaGreat
