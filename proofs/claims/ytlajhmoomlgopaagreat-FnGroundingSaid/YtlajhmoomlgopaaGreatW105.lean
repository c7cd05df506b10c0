import Derived.Test.YtlajhmoomlgopaaGreatW103
import Derived.Test.YtlajhmoomlgopaaGreatW6
import Derived.Test.YtlajhmoomlgopaaGreatW9
import Derived.Test.YtlajhmoomlgopaaGreatW41
open List renaming length_cons→a_,append_assoc→b_,length_map→c_,mem_of_getElem?→d_
open Nat renaming le_refl→e_,lt_irrefl→f_
namespace Go.Proofs.YtlajhmoomlgopaaGreat
open Go.Abs
set_option maxRecDepth 100000
set_option maxHeartbeats 4000000
set_option linter.unusedSimpArgs false
set_option linter.unusedVariables false
theorem sortFacts_fn (l:List FcV) (hl:l.length≤2000000):Gives Tryz.prog 42 [.sl (l.map fcE)] (.d (.sl ((sortC FcV.cmp l).map fcE))):=by
 have hmx:maxLen=9223372036854775807:=rfl
 have hmap:∀x:List FcV,(x.map fcE).length=x.length:=fun x=>c_ _
 refine aE_ Tryz.func42 ?_
 refine run_sound Tryz.func42 mixed 3 _ _ (by kernel_rfl) ?_
 simp only [go_sem,seval,run.eq_1]
 refine AW.regS ?_
 simp only [go_sem,seval,hmap]
 refine ⟨by omega,by omega,?_⟩
 have hst:ACalls Tryz.prog 80 [.ifc 30 (.own 0 1),.fn 81 [.ptr 1 0]] [.buf 1 2 37 (l.map fcE),.box [.own 0 1]] _:=sliceStableF rfl rfl (by decide) rfl (by omega)
 refine run_sound Tryz.func42 mixed 2 _ _ (by kernel_rfl) ?_
 simp only [go_sem,seval,run.eq_1]
 refine hst.mono ?_
 rintro c H' ⟨rfl,ys,hp,hs,rfl⟩
 simp only [go_sem,seval,run.eq_1]
 refine AW.frzBox 1 0 0 rfl rfl rfl (by decide) ?_
 refine run_sound Tryz.func42 mixed 2 _ _ (by kernel_rfl) ?_
 simp only [go_sem,seval,run.eq_1]
 refine AW.adopt 4 2 37 (by decide) rfl ?_
 have hyl:ys.length=l.length:=hp.length_eq
 have hR:ddC FcV.cmp none ys=sortC FcV.cmp l:=ddC_sort FcV.cmp_lin (fun z=>hp.mem_iff) (hs.imp (fun h=>by simpa using h))
 rw [←hR]
 refine rS_ Tryz.func42 ?_
 simp only [go_sem,seval,hmap]
 refine AW.rng ys [3,15,16] 17 15 (fun p:List FcV=>[(4,.own 2 (ddC FcV.cmp none p).length)]) (fun _ p=>[.dead,.box [.d (.sl (ys.map fcE))],.grow (ddC FcV.cmp none p).length 2 37 ((ddC FcV.cmp none p).map fcE)]) (fun r p=>ys=p++r) [] rfl (by simp) rfl (by refine ⟨by simp [mkS,ddC],by simp [mkS,ddC],by simp only [mkS,List.all_cons,List.all_nil,O.refsLt,C.refsLt,C.refsLt1,all_dmap];first | done | rfl | (simp;done),?_⟩;simp [mkS,Abs.get,C.refsLtT,C.refsLt,C.refsLt1,ddC]) (fun i x r p hxi hdr hlt hm hinv hnext=>?_) (fun p hinv=>?_)
 ·have hdl:=congrArg List.length hdr
  have hil:=congrArg List.length hinv
  simp only [List.length_drop,a_,List.length_append] at hdl hil
  have hip:i=p.length:=by omega
  have hnx:=fun s'=>hnext (p++[x]) s' (by rw [hinv];simp)
  clear hnext
  have hdd:=ddC_snoc (c:=FcV.cmp) p none x
  have hddl:(ddC FcV.cmp none p).length≤p.length:=by
   have key:∀(q:List FcV) (o:Option FcV),(ddC FcV.cmp o q).length≤q.length:=fun q=>by
    induction q with
    | nil=>intro o;simp [ddC]
    | cons z q ih =>
     intro o
     cases o with
     | none=>simp only [ddC,a_];have:=ih (some z);omega
     | some w=>simp only [ddC];split<;>simp only [a_]<;>have:=ih (some z)<;>omega
   exact key p none
  rcases List.eq_nil_or_concat p with rfl | ⟨p',y,rfl⟩
  ·obtain rfl:i=0:=by simpa using hip
   have hd1:ddC FcV.cmp none ([]++[x])=[x]:=rfl
   have hd0:ddC FcV.cmp none ([]:List FcV)=[]:=rfl
   rw [hd1] at hnx
   rw [hd0]
   have z0:((0:Nat):Int)=0:=rfl
   have hlt0:(0:Int)<(ys.length:Int):=by omega
   rw [z0] at hnx
   refine rS_ Tryz.func42 ?_
   simp only [go_sem,seval,hlt0,idx_of hxi,z0]
   repeat' (first
    | (simp (disch:=omega) only [wrap_ok])
    | ((refine ⟨sd,?_⟩)<;>(try simp only [go_sem,seval,hlt0,idx_of hxi,z0]))
    | fail)
   refine hnx _ wk1_
  ·rw [List.concat_eq_append] at *
   have hi0:¬(i:Int)=0:=by rw [hip];simp;omega
   have hw1:IntKind.i64.wrap ((i:Int) - 1)=((i - 1:Nat):Int):=by rw [wrap_ok (by omega) (by omega)];omega
   have n2:((i - 1:Nat):Int)<(ys.length:Int):=by omega
   have hyi:ys[i - 1]? = some y:=by
    rw [hinv,hip]
    simp
   have ho:=orderF_fn y x
   have hlast:(((none:Option FcV).toList++(p'++[y])).getLast?)=some y:=by simp
   rw [hlast] at hdd
   dsimp only at hdd
   by_cases e:y.cmp x=0
   ·rw [if_pos e,List.append_nil] at hdd
    rw [e] at ho
    rw [hdd] at hnx
    refine rS_ Tryz.func42 ?_
    simp only [go_sem,seval,hlt,idx_of hxi,hi0,hw1,n2,idx_of hyi,hmap]
    repeat' (first
     | (simp (disch:=omega) only [wrap_ok])
     | ((refine ho.callQ rfl ?_)<;>(try simp only [go_sem,seval,hlt,idx_of hxi,hi0,hw1,n2,idx_of hyi,hmap]))
     | fail)
    all_goals refine hnx _ wk1_
   ·rw [if_neg e] at hdd
    rw [hdd] at hnx
    refine rS_ Tryz.func42 ?_
    simp only [go_sem,seval,hlt,idx_of hxi,hi0,hw1,n2,idx_of hyi,hmap]
    repeat' (first
     | ((refine br_n (fun hq=>?_) (fun hq=>?_))<;>(try simp only [go_sem,seval,hlt,idx_of hxi,hi0,hw1,n2,idx_of hyi,hmap,e,hq]))
     | (simp (disch:=omega) only [wrap_ok])
     | ((first
      | (refine ho.callQ rfl ?_)
      | (refine ⟨sd,?_⟩))<;>(try simp only [go_sem,seval,hlt,idx_of hxi,hi0,hw1,n2,idx_of hyi,hmap,e]))
     | fail)
    all_goals first | (exfalso;exact e (by assumption)) | skip
    all_goals refine hnx _ wk1_
 ·rw [List.append_nil] at hinv
  rw [hinv]
  refine rS_ Tryz.func42 ?_
  simp only [go_sem,seval]
theorem half_u (x y:Nat) (h:x+y≤1000000000):IntKind.i64.wrap (shrI .u64 (IntKind.u64.wrap ((x:Int)+(y:Int))) 1)=(((x+y) / 2:Nat):Int):=halfN x y (by omega)
theorem search_fn {g:FuncId} {caps:List C} {m:Nat} {H:List O} {p:Nat→Bool} (n:Nat) (hn:n≤100000000) (h:CloR Tryz.prog g caps m (fun i:Nat=>D.int .i64 (i:Int)) H (fun i=>i<n) (fun i=>.d (.bool (p i)))) (hm:∀i j,i≤j→j<n→p i=true→p j=true) :
  ACalls Tryz.prog 85 [.d (.int .i64 n),.fn g caps] H (fun c H'=>c=.d (.int .i64 (srch p n:Int))∧H'=H):=by
 obtain ⟨K,hK⟩:∃K,srch p n=K:=⟨_,rfl⟩
 rw [hK]
 refine aE_ Tryz.func85 ?_
 refine rS_ Tryz.func85 ?_
 simp only [go_sem,seval,h.len,h.go,h.at0,h.atj,h.set0,h.setj,h.tk,h.tk0,h.tkj,h.refs,h.refsj,h.hcaps,h.capsj,b_]
 refine AW.lp [1] (fun u:Nat×Nat=>[(5,.d (.int .i64 (u.1:Int))),(6,.d (.int .i64 (u.2:Int)))]) (fun H _=>H) (fun u=>u.1≤u.2∧u.2≤n∧(∀i,i<u.1→p i=false)∧(∀i,u.2≤i→i<n→p i=true)) (fun u=>u.2 - u.1) (0,n) ⟨Nat.zero_le _,e_ _,fun i hi=>absurd hi (Nat.not_lt_zero _),fun i a b=>by omega⟩ wk4_ ?_
 rintro ⟨i,j⟩ ⟨h1,h2,h3,h4⟩ hnext
 dsimp only at h1 h2 h3 h4 hnext ⊢
 by_cases hij:i<j
 ·have n1:(i:Int)<(j:Int):=by omega
  have hh:=half_u i j (by omega)
  have w0:IntKind.i64.wrap ((i:Int)+(j:Int))=(i:Int)+(j:Int):=wrap_ok (by omega) (by omega)
  have hnx:=fun i' j' s'=>hnext (i',j') s'
  clear hnext
  have hq:(i+j) / 2<n:=by omega
  have hc:=h.call ((i+j) / 2) hq
  cases hp:p ((i+j) / 2) with
  | false =>
   rw [hp] at hc
   refine rS_ Tryz.func85 ?_
   simp only [go_sem,seval,n1,w0,hh,h.len,h.go,h.at0,h.atj,h.set0,h.setj,h.tk,h.tk0,h.tkj,h.refs,h.refsj,h.hcaps,h.capsj,b_]
   repeat' (first
    | (simp (disch:=omega) only [wrap_ok])
    | ((refine hc.mono ?_<;>(rintro c H' ⟨rfl,rfl⟩))<;>(try simp only [go_sem,seval,n1,w0,hh,h.len,h.go,h.at0,h.atj,h.set0,h.setj,h.tk,h.tk0,h.tkj,h.refs,h.refsj,h.hcaps,h.capsj,b_]))
    | fail)
   refine hnx ((i+j) / 2+1) j _ ⟨by omega,h2,fun x hx=>?_,h4⟩ (by dsimp only;omega) wk4_
   cases hpx:p x with
   | false=>rfl
   | true=>rw [←hp];exact (hm x _ (by omega) hq hpx).symm
  | true =>
   rw [hp] at hc
   refine rS_ Tryz.func85 ?_
   simp only [go_sem,seval,n1,w0,hh,h.len,h.go,h.at0,h.atj,h.set0,h.setj,h.tk,h.tk0,h.tkj,h.refs,h.refsj,h.hcaps,h.capsj,b_]
   repeat' (first
    | ((refine hc.mono ?_<;>(rintro c H' ⟨rfl,rfl⟩))<;>(try simp only [go_sem,seval,n1,w0,hh,h.len,h.go,h.at0,h.atj,h.set0,h.setj,h.tk,h.tk0,h.tkj,h.refs,h.refsj,h.hcaps,h.capsj,b_]))
    | fail)
   refine hnx i ((i+j) / 2) _ ⟨by omega,by omega,h3,fun x hx hxn=>hm _ x hx hxn hp⟩ (by dsimp only;omega) wk4_
 ·have n1:¬(i:Int)<(j:Int):=by omega
  obtain rfl:i=j:=by omega
  have hki:K=i:=by rw [←hK];exact srch_eq h2 h3 (fun hlt=>h4 i (e_ _) hlt)
  rw [hki]
  refine rS_ Tryz.func85 ?_
  simp only [go_sem,seval,n1,h.len,h.go,h.at0,h.atj,h.set0,h.setj,h.tk,h.tk0,h.tkj,h.refs,h.refsj,h.hcaps,h.capsj,b_]
theorem hasFact1_clo (l:List FcV) (f:FcV):CloR Tryz.prog 86 [.ptr 0 0,.ptr 1 0] 2 (fun i:Nat=>D.int .i64 (i:Int)) [.box [.d (.sl (l.map fcE))],.box ((fcE f).map .d)] (fun i=>i<l.length) (fun i=>.d (.bool (geC FcV.cmp l f i))):=by
 have hmap:∀x:List FcV,(x.map fcE).length=x.length:=fun x=>c_ _
 refine ⟨by kernel_rfl,rfl,rfl,by simp only [List.all_cons,List.all_nil,O.refsLt,all_dmap,C.refsLt,C.refsLt1];rfl,fun i hi=>?_⟩
 have hb:l[i]? = some l[i]:=List.getElem?_eq_getElem hi
 have hg:geC FcV.cmp l f i=decide (0≤l[i].cmp f):=by unfold geC;rw [hb]
 rw [hg]
 generalize l[i]=b at hb
 have n1:(i:Int)<(l.length:Int):=by omega
 have ho:=orderF_fn b f
 refine aE_ Tryz.func86 ?_
 refine rS_ Tryz.func86 ?_
 simp only [go_sem,seval,hmap,n1,idx_of hb]
 repeat' (first
  | ((refine ho.callQ rfl ?_)<;>(try simp only [go_sem,seval,hmap,n1,idx_of hb]))
  | fail)
 all_goals simp only [all_dmap]
theorem hasFact_fn (l:List FcV) (f:FcV) (hl:l.length≤9000000) (ha:ascC FcV.cmp l):Gives Tryz.prog 46 [.sl (l.map fcE),.agg (fcE f)] (.d (.bool (decide (f∈l)))):=by
 have hmap:∀x:List FcV,(x.map fcE).length=x.length:=fun x=>c_ _
 have hs:=search_fn l.length (by omega) (hasFact1_clo l f) (geC_mono FcV.cmp_lin ha f)
 have hh:=srch_has FcV.cmp_lin ha f
 generalize srch (geC FcV.cmp l f) l.length=k at hs hh
 cases hb:l[k]? with
 | none =>
  have hk:=List.getElem?_eq_none_iff.1 hb
  have n1:¬(k:Int)<(l.length:Int):=by omega
  rw [hb] at hh
  rw [decide_eq_false (fun h=>hh.2 h)]
  refine aE_ Tryz.func46 ?_
  refine rS_ Tryz.func46 ?_
  simp only [go_sem,seval,hmap,n1]
  repeat' (first
   | ((refine hs.mono ?_<;>(rintro c H' ⟨rfl,rfl⟩))<;>(try simp only [go_sem,seval,hmap,n1]))
   | fail)
 | some b =>
  have hk:=(List.getElem?_eq_some_iff.1 hb).1
  have n1:(k:Int)<(l.length:Int):=by omega
  rw [hb] at hh
  dsimp only at hh
  have ho:=orderF_fn b f
  rw [show decide (f∈l)=decide (b.cmp f=0) from by rw [Bool.eq_iff_iff,decide_eq_true_eq,decide_eq_true_eq];exact hh.symm]
  refine aE_ Tryz.func46 ?_
  refine rS_ Tryz.func46 ?_
  simp only [go_sem,seval,hmap,n1,idx_of hb]
  repeat' (first
   | ((first
    | (refine hs.mono ?_<;>(rintro c H' ⟨rfl,rfl⟩))
    | (refine ho.callQ rfl ?_))<;>(try simp only [go_sem,seval,hmap,n1,idx_of hb]))
   | fail)
theorem uniL_inv {s r:List Tm} {x:Tm} {i:Nat} (hdr:s.drop i=x :: r):i=s.length - (r.length+1)∧r.length+1≤s.length∧i<s.length:=by
 have:=congrArg List.length hdr
 simp only [List.length_drop,a_] at this
 omega
theorem iUniverseOk_fn (s:List Tm) (hw:∀t,t∈s→wtL t.enc≤1048576) (hl:s.length≤9000000):Gives Tryz.prog 38 [.sl (s.map Tm.enc)] (.d (.bool (uniOk s))):=by
 have hmap:(s.map Tm.enc).length=s.length:=c_ _
 by_cases h1:1≤s.length
 ·have n1:¬(s.length:Int)<1:=by omega
  by_cases h2:s.length≤8
  ·have n2:¬(8:Int)<(s.length:Int):=by omega
   have hu:uniOk s=uniL none s:=by unfold uniOk;simp [h1,h2]
   rw [hu]
   refine aE_ Tryz.func38 ?_
   refine rS_ Tryz.func38 ?_
   simp only [go_sem,seval,hmap,n1,n2]
   refine AW.rng s [0,13,14] 15 13 (fun _:Option V=>[]) (fun H _=>H) (fun r p=>uniL p r=uniL none s∧(r.length=s.length→p=none)∧(r.length<s.length→∃y:Tm,s[s.length - r.length - 1]? = some y∧p=some y.V∧tmOk y=true)) none rfl (by simp) ⟨rfl,fun _=>rfl,fun h=>absurd h (f_ _)⟩ wk3_ (fun i x r p hxi hdr hlt hm hinv hnext=>?_) (fun p hinv=>?_)
   ·obtain ⟨i1,i2,i3⟩:=hinv
    obtain ⟨hi1,hi2,hi3⟩:=uniL_inv hdr
    have hto:Gives Tryz.prog 73 [.agg x.enc] (.d (.bool x.ground)):=iIsGround_fn x (hw x (d_ hxi))
    have ho:=hto
    simp only [a_,uniL] at i1 i2 i3
    cases hg:x.ground with
    | false =>
     rw [hg] at hto ho
     have c3:True:=trivial
     have hf:uniL none s=false:=by rw [←i1];simp [hg]
     rw [hf]
     refine rS_ Tryz.func38 ?_
     simp only [go_sem,seval,hlt,idx_of hxi,hmap]
     repeat' (first
      | ((refine hto.callQ rfl ?_)<;>(try simp only [go_sem,seval,hlt,idx_of hxi,hmap]))
      | fail)
     all_goals first | (exfalso;omega) | (exfalso;exact absurd (by assumption) c3) | rfl
    | true =>
     rw [hg] at hto
     clear ho
     have hxV:=Tm.enc_V (ground_ok hg)
     by_cases hi0:i=0
     ·obtain rfl:=i2 (by omega)
      have n0:¬(0:Int)<(i:Int):=by omega
      have ho:=hto
      refine rS_ Tryz.func38 ?_
      simp only [go_sem,seval,hlt,idx_of hxi,n0]
      repeat' (first
       | (simp (disch:=omega) only [wrap_ok])
       | (refine hnext (some x.V) _ ⟨by rw [←i1];simp [hi0,hg],fun h=>by omega,fun _=>⟨x,by rw [show s.length - r.length - 1=i by omega];exact hxi,rfl,ground_ok hg⟩⟩ wk3_)
       | ((refine hto.callQ rfl ?_)<;>(try simp only [go_sem,seval,hlt,idx_of hxi,n0]))
       | fail)
      all_goals (exfalso;omega)
     ·obtain ⟨y,hy,rfl,hyo⟩:=i3 (by omega)
      have n0:(0:Int)<(i:Int):=by omega
      have hw1:IntKind.i64.wrap ((i:Int) - 1)=((i - 1:Nat):Int):=by rw [wrap_ok (by omega) (by omega)];omega
      have n2:((i - 1:Nat):Int)<(s.length:Int):=by omega
      have hyi:s[i - 1]? = some y:=by rw [←hy];congr 1;omega
      have ho:Gives Tryz.prog 74 [.agg y.enc,.agg x.enc] (.d (.int .i64 (y.V.cmp x.V))):=by
       rw [Tm.enc_V hyo,hxV]
       exact orderTerms_fn _ _ _ (e_ _)
      by_cases c3:y.V.cmp x.V<0
      ·have c4:¬0≤y.V.cmp x.V:=by omega
       refine rS_ Tryz.func38 ?_
       simp only [go_sem,seval,hlt,idx_of hxi,n0,hw1,n2,idx_of hyi,hmap,c3,c4]
       repeat' (first
        | (simp (disch:=omega) only [wrap_ok])
        | (refine hnext (some x.V) _ ⟨by rw [←i1];simp [c3,hg],fun h=>by omega,fun _=>⟨x,by rw [show s.length - r.length - 1=i by omega];exact hxi,rfl,ground_ok hg⟩⟩ wk3_)
        | ((first
         | (refine hto.callQ rfl ?_)
         | (refine ho.callQ rfl ?_))<;>(try simp only [go_sem,seval,hlt,idx_of hxi,n0,hw1,n2,idx_of hyi,hmap,c3,c4]))
        | fail)
       all_goals (exfalso;omega)
      ·have c4:0≤y.V.cmp x.V:=by omega
       have hf:uniL none s=false:=by rw [←i1];simp [c3]
       rw [hf]
       refine rS_ Tryz.func38 ?_
       simp only [go_sem,seval,hlt,idx_of hxi,n0,hw1,n2,idx_of hyi,hmap,c4]
       repeat' (first
        | ((first
         | (refine hto.callQ rfl ?_)
         | (refine ho.callQ rfl ?_))<;>(try simp only [go_sem,seval,hlt,idx_of hxi,n0,hw1,n2,idx_of hyi,hmap,c4]))
        | fail)
       all_goals first | (exfalso;omega) | (exfalso;exact absurd (by assumption) c3) | rfl
   rw [←hinv.1]
   refine rS_ Tryz.func38 ?_
   simp only [go_sem,seval]
   all_goals rfl
  ·have n2:(8:Int)<(s.length:Int):=by omega
   have hu:uniOk s=false:=by unfold uniOk;simp [h2]
   rw [hu]
   refine aE_ Tryz.func38 ?_
   refine rS_ Tryz.func38 ?_
   simp only [go_sem,seval,hmap,n1,n2]
 ·have n1:(s.length:Int)<1:=by omega
  have hu:uniOk s=false:=by unfold uniOk;simp [h1]
  rw [hu]
  refine aE_ Tryz.func38 ?_
  refine rS_ Tryz.func38 ?_
  simp only [go_sem,seval,hmap,n1]
theorem sUniverseOk_fn (s:List Tm) (hw:∀t,t∈s→wtL t.enc≤1048576) (hl:s.length≤9000000):Gives Tryz.prog 92 [.sl (s.map Tm.enc)] (.d (.bool (uniOk s))):=by
 have hmap:(s.map Tm.enc).length=s.length:=c_ _
 cases hun:uniL none s with
 | false =>
  have hu:uniOk s=uniL none s:=by unfold uniOk;rw [hun];simp
  rw [hu]
  refine aE_ Tryz.func92 ?_
  refine rS_ Tryz.func92 ?_
  simp only [go_sem,seval,hmap]
  refine AW.rng s [0,5,6] 7 5 (fun _:Option V=>[]) (fun H _=>H) (fun r p=>uniL p r=uniL none s∧(r.length=s.length→p=none)∧(r.length<s.length→∃y:Tm,s[s.length - r.length - 1]? = some y∧p=some y.V∧tmOk y=true)) none rfl (by simp) ⟨rfl,fun _=>rfl,fun h=>absurd h (f_ _)⟩ wk3_ (fun i x r p hxi hdr hlt hm hinv hnext=>?_) (fun p hinv=>?_)
  ·obtain ⟨i1,i2,i3⟩:=hinv
   obtain ⟨hi1,hi2,hi3⟩:=uniL_inv hdr
   have hto:Gives Tryz.prog 134 [.agg x.enc] (.d (.bool x.ground)):=sIsGround_fn x (hw x (d_ hxi))
   have ho:=hto
   simp only [a_,uniL] at i1 i2 i3
   cases hg:x.ground with
   | false =>
    rw [hg] at hto ho
    have c3:True:=trivial
    have hf:uniL none s=false:=by rw [←i1];simp [hg]
    rw [hf]
    refine rS_ Tryz.func92 ?_
    simp only [go_sem,seval,hlt,idx_of hxi,hmap]
    repeat' (first
     | ((refine hto.callQ rfl ?_)<;>(try simp only [go_sem,seval,hlt,idx_of hxi,hmap]))
     | fail)
    all_goals first | (exfalso;omega) | (exfalso;exact absurd (by assumption) c3) | rfl
   | true =>
    rw [hg] at hto
    clear ho
    have hxV:=Tm.enc_V (ground_ok hg)
    by_cases hi0:i=0
    ·obtain rfl:=i2 (by omega)
     have n0:¬(0:Int)<(i:Int):=by omega
     have ho:=hto
     refine rS_ Tryz.func92 ?_
     simp only [go_sem,seval,hlt,idx_of hxi,n0]
     repeat' (first
      | (simp (disch:=omega) only [wrap_ok])
      | (refine hnext (some x.V) _ ⟨by rw [←i1];simp [hi0,hg],fun h=>by omega,fun _=>⟨x,by rw [show s.length - r.length - 1=i by omega];exact hxi,rfl,ground_ok hg⟩⟩ wk3_)
      | ((refine hto.callQ rfl ?_)<;>(try simp only [go_sem,seval,hlt,idx_of hxi,n0]))
      | fail)
     all_goals (exfalso;omega)
    ·obtain ⟨y,hy,rfl,hyo⟩:=i3 (by omega)
     have n0:(0:Int)<(i:Int):=by omega
     have hw1:IntKind.i64.wrap ((i:Int) - 1)=((i - 1:Nat):Int):=by rw [wrap_ok (by omega) (by omega)];omega
     have n2:((i - 1:Nat):Int)<(s.length:Int):=by omega
     have hyi:s[i - 1]? = some y:=by rw [←hy];congr 1;omega
     have ho:Gives Tryz.prog 110 [.agg y.enc,.agg x.enc] (.d (.int .i64 (y.V.cmp x.V))):=by
      rw [Tm.enc_V hyo,hxV]
      exact l02Cmp_fn _ _ _ (e_ _)
     by_cases c3:y.V.cmp x.V<0
     ·have c4:¬0≤y.V.cmp x.V:=by omega
      refine rS_ Tryz.func92 ?_
      simp only [go_sem,seval,hlt,idx_of hxi,n0,hw1,n2,idx_of hyi,hmap,c3,c4]
      repeat' (first
       | (simp (disch:=omega) only [wrap_ok])
       | (refine hnext (some x.V) _ ⟨by rw [←i1];simp [c3,hg],fun h=>by omega,fun _=>⟨x,by rw [show s.length - r.length - 1=i by omega];exact hxi,rfl,ground_ok hg⟩⟩ wk3_)
       | ((first
        | (refine hto.callQ rfl ?_)
        | (refine ho.callQ rfl ?_))<;>(try simp only [go_sem,seval,hlt,idx_of hxi,n0,hw1,n2,idx_of hyi,hmap,c3,c4]))
       | fail)
      all_goals (exfalso;omega)
     ·have c4:0≤y.V.cmp x.V:=by omega
      have hf:uniL none s=false:=by rw [←i1];simp [c3]
      rw [hf]
      refine rS_ Tryz.func92 ?_
      simp only [go_sem,seval,hlt,idx_of hxi,n0,hw1,n2,idx_of hyi,hmap,c4]
      repeat' (first
       | ((first
        | (refine hto.callQ rfl ?_)
        | (refine ho.callQ rfl ?_))<;>(try simp only [go_sem,seval,hlt,idx_of hxi,n0,hw1,n2,idx_of hyi,hmap,c4]))
       | fail)
      all_goals first | (exfalso;omega) | (exfalso;exact absurd (by assumption) c3) | rfl
  exfalso
  rw [←hinv.1] at hun
  simp [uniL] at hun
 | true =>
  have hu:uniOk s=(decide ((1:Int)≤(s.length:Int)) && decide ((s.length:Int)≤8)):=by unfold uniOk;rw [hun,Bool.and_true,Bool.eq_iff_iff];simp;omega
  rw [hu]
  obtain ⟨RES,hRES⟩:∃RES,(decide ((1:Int)≤(s.length:Int)) && decide ((s.length:Int)≤8))=RES:=⟨_,rfl⟩
  rw [hRES]
  have hin:=l01In_fn (s.length:Int) 1 8
  rw [hRES] at hin
  refine aE_ Tryz.func92 ?_
  refine rS_ Tryz.func92 ?_
  simp only [go_sem,seval,hmap]
  refine AW.rng s [0,5,6] 7 5 (fun _:Option V=>[]) (fun H _=>H) (fun r p=>uniL p r=uniL none s∧(r.length=s.length→p=none)∧(r.length<s.length→∃y:Tm,s[s.length - r.length - 1]? = some y∧p=some y.V∧tmOk y=true)) none rfl (by simp) ⟨rfl,fun _=>rfl,fun h=>absurd h (f_ _)⟩ wk3_ (fun i x r p hxi hdr hlt hm hinv hnext=>?_) (fun p hinv=>?_)
  ·obtain ⟨i1,i2,i3⟩:=hinv
   obtain ⟨hi1,hi2,hi3⟩:=uniL_inv hdr
   have hto:Gives Tryz.prog 134 [.agg x.enc] (.d (.bool x.ground)):=sIsGround_fn x (hw x (d_ hxi))
   have ho:=hto
   simp only [a_,uniL] at i1 i2 i3
   cases hg:x.ground with
   | false =>
    rw [hg] at hto ho
    have c3:True:=trivial
    have hf:uniL none s=false:=by rw [←i1];simp [hg]
    exact absurd (hf.symm.trans hun) (by simp)
   | true =>
    rw [hg] at hto
    clear ho
    have hxV:=Tm.enc_V (ground_ok hg)
    by_cases hi0:i=0
    ·obtain rfl:=i2 (by omega)
     have n0:¬(0:Int)<(i:Int):=by omega
     have ho:=hto
     refine rS_ Tryz.func92 ?_
     simp only [go_sem,seval,hlt,idx_of hxi,n0]
     repeat' (first
      | (simp (disch:=omega) only [wrap_ok])
      | (refine hnext (some x.V) _ ⟨by rw [←i1];simp [hi0,hg],fun h=>by omega,fun _=>⟨x,by rw [show s.length - r.length - 1=i by omega];exact hxi,rfl,ground_ok hg⟩⟩ wk3_)
      | ((refine hto.callQ rfl ?_)<;>(try simp only [go_sem,seval,hlt,idx_of hxi,n0]))
      | fail)
     all_goals (exfalso;omega)
    ·obtain ⟨y,hy,rfl,hyo⟩:=i3 (by omega)
     have n0:(0:Int)<(i:Int):=by omega
     have hw1:IntKind.i64.wrap ((i:Int) - 1)=((i - 1:Nat):Int):=by rw [wrap_ok (by omega) (by omega)];omega
     have n2:((i - 1:Nat):Int)<(s.length:Int):=by omega
     have hyi:s[i - 1]? = some y:=by rw [←hy];congr 1;omega
     have ho:Gives Tryz.prog 110 [.agg y.enc,.agg x.enc] (.d (.int .i64 (y.V.cmp x.V))):=by
      rw [Tm.enc_V hyo,hxV]
      exact l02Cmp_fn _ _ _ (e_ _)
     by_cases c3:y.V.cmp x.V<0
     ·have c4:¬0≤y.V.cmp x.V:=by omega
      refine rS_ Tryz.func92 ?_
      simp only [go_sem,seval,hlt,idx_of hxi,n0,hw1,n2,idx_of hyi,hmap,c3,c4]
      repeat' (first
       | (simp (disch:=omega) only [wrap_ok])
       | (refine hnext (some x.V) _ ⟨by rw [←i1];simp [c3,hg],fun h=>by omega,fun _=>⟨x,by rw [show s.length - r.length - 1=i by omega];exact hxi,rfl,ground_ok hg⟩⟩ wk3_)
       | ((first
        | (refine hto.callQ rfl ?_)
        | (refine ho.callQ rfl ?_))<;>(try simp only [go_sem,seval,hlt,idx_of hxi,n0,hw1,n2,idx_of hyi,hmap,c3,c4]))
       | fail)
      all_goals (exfalso;omega)
     ·have c4:0≤y.V.cmp x.V:=by omega
      have hf:uniL none s=false:=by rw [←i1];simp [c3]
      exact absurd (hf.symm.trans hun) (by simp)
  refine rS_ Tryz.func92 ?_
  simp only [go_sem,seval,hmap]
  repeat' (first
   | ((refine hin.calls rfl ?_)<;>(try simp only [go_sem,seval,hmap]))
   | fail)
theorem ways_fn (b n L:Nat) (hb8:b≤8) (hL:L≤1000000) (hn:n≤1000000):Gives Tryz.prog 76 [.int .i64 b,.int .i64 n,.int .i64 L] (.d (.int .i64 (min (sways b L n 1) (L+1):Nat))):=by
 obtain ⟨W,hW⟩:∃W,sways b L n 1=W:=⟨_,rfl⟩
 rw [hW]
 have w3:IntKind.i64.wrap ((L:Int)+1)=(L:Int)+1:=wrap_ok (by omega) (by omega)
 have hmin:∀k:Nat,(if (L:Int)+1<(k:Int) then (L:Int)+1 else (k:Int))=((min k (L+1):Nat):Int):=fun k=>by split<;>omega
 refine aE_ Tryz.func76 ?_
 refine rS_ Tryz.func76 ?_
 simp only [go_sem,seval]
 refine AW.lp [0,1,2] (fun u:Nat×Nat=>[(8,.d (.int .i64 (u.1:Int))),(7,.d (.int .i64 (u.2:Int)))]) (fun H _=>H) (fun u=>u.1≤n∧u.2≤(L+1) * 8∧sways b L (n - u.1) u.2=W) (fun u=>n - u.1) (0,1) ⟨Nat.zero_le _,by dsimp only;omega,hW⟩ wk3_ ?_
 rintro ⟨i,k⟩ ⟨h1,h2,h3⟩ hnext
 dsimp only at h1 h2 h3 hnext ⊢
 have hnx:=fun i' k' s'=>hnext (i',k') s'
 clear hnext
 have w2:IntKind.i64.wrap ((i:Int)+1)=((i+1:Nat):Int):=by rw [wrap_ok (by omega) (by omega)];omega
 by_cases hi:i<n
 ·have n1:(i:Int)<(n:Int):=by omega
  by_cases hk:k≤L
  ·have n2:(k:Int)≤(L:Int):=by omega
   have hkb:k * b≤(L+1) * 8:=Nat.mul_le_mul (by omega) hb8
   have w1:IntKind.i64.wrap ((k:Int) * (b:Int))=((k * b:Nat):Int):=by rw [←Int.natCast_mul,wrap_ok (by omega) (by omega)]
   have h4:sways b L (n - (i+1)) (k * b)=W:=by
    rw [show n - i=(n - (i+1))+1 by omega] at h3
    unfold sways at h3
    rw [if_pos hk] at h3;exact h3
   refine rS_ Tryz.func76 ?_
   simp only [go_sem,seval,n1,n2,w1,w2]
   refine hnx (i+1) (k * b) _ ⟨by omega,hkb,h4⟩ (by dsimp only;omega) wk3_
  ·have n2:¬(k:Int)≤(L:Int):=by omega
   rw [sways_ge hk] at h3
   subst h3
   refine rS_ Tryz.func76 ?_
   simp only [go_sem,seval,n1,n2,w3]
   all_goals first | rfl | (exfalso;omega) | exact congrArg (fun x=>C.d (D.int IntKind.i64 x)) (hmin _)
 ·have n1:¬(i:Int)<(n:Int):=by omega
  rw [show n - i=0 by omega] at h3
  unfold sways at h3
  subst h3
  refine rS_ Tryz.func76 ?_
  simp only [go_sem,seval,n1,w3]
  all_goals first | rfl | (exfalso;omega) | exact congrArg (fun x=>C.d (D.int IntKind.i64 x)) (hmin _)
theorem l08Ways_fn (b n L:Nat) (hb8:b≤8) (hL:L≤1000000) (hn:n≤1000000):Gives Tryz.prog 93 [.int .i64 b,.int .i64 n,.int .i64 L] (.d (.int .i64 (sways b L n 1:Nat))):=by
 obtain ⟨W,hW⟩:∃W,sways b L n 1=W:=⟨_,rfl⟩
 rw [hW]
 have w3:IntKind.i64.wrap ((L:Int)+1)=(L:Int)+1:=wrap_ok (by omega) (by omega)
 have hmin:∀k:Nat,(if (L:Int)+1<(k:Int) then (L:Int)+1 else (k:Int))=((min k (L+1):Nat):Int):=fun k=>by split<;>omega
 refine aE_ Tryz.func93 ?_
 refine rS_ Tryz.func93 ?_
 simp only [go_sem,seval]
 refine AW.lp [0,1,2] (fun u:Nat×Nat=>[(8,.d (.int .i64 (u.1:Int))),(7,.d (.int .i64 (u.2:Int)))]) (fun H _=>H) (fun u=>u.1≤n∧u.2≤(L+1) * 8∧sways b L (n - u.1) u.2=W) (fun u=>n - u.1) (0,1) ⟨Nat.zero_le _,by dsimp only;omega,hW⟩ wk3_ ?_
 rintro ⟨i,k⟩ ⟨h1,h2,h3⟩ hnext
 dsimp only at h1 h2 h3 hnext ⊢
 have hnx:=fun i' k' s'=>hnext (i',k') s'
 clear hnext
 have w2:IntKind.i64.wrap ((i:Int)+1)=((i+1:Nat):Int):=by rw [wrap_ok (by omega) (by omega)];omega
 by_cases hi:i<n
 ·have n1:(i:Int)<(n:Int):=by omega
  by_cases hk:k≤L
  ·have n2:(k:Int)≤(L:Int):=by omega
   have hkb:k * b≤(L+1) * 8:=Nat.mul_le_mul (by omega) hb8
   have w1:IntKind.i64.wrap ((k:Int) * (b:Int))=((k * b:Nat):Int):=by rw [←Int.natCast_mul,wrap_ok (by omega) (by omega)]
   have h4:sways b L (n - (i+1)) (k * b)=W:=by
    rw [show n - i=(n - (i+1))+1 by omega] at h3
    unfold sways at h3
    rw [if_pos hk] at h3;exact h3
   refine rS_ Tryz.func93 ?_
   simp only [go_sem,seval,n1,n2,w1,w2]
   refine hnx (i+1) (k * b) _ ⟨by omega,hkb,h4⟩ (by dsimp only;omega) wk3_
  ·have n2:¬(k:Int)≤(L:Int):=by omega
   rw [sways_ge hk] at h3
   subst h3
   refine rS_ Tryz.func93 ?_
   simp only [go_sem,seval,n1,n2,w3]
   all_goals first | rfl | (exfalso;omega) | exact congrArg (fun x=>C.d (D.int IntKind.i64 x)) (hmin _)
 ·have n1:¬(i:Int)<(n:Int):=by omega
  rw [show n - i=0 by omega] at h3
  unfold sways at h3
  subst h3
  refine rS_ Tryz.func93 ?_
  simp only [go_sem,seval,n1,w3]
  all_goals first | rfl | (exfalso;omega) | exact congrArg (fun x=>C.d (D.int IntKind.i64 x)) (hmin _)
end Go.Proofs.YtlajhmoomlgopaaGreat
