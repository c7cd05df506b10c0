import Derived.Test.YtehkgphockcjdaaGreatW103
import Derived.Test.YtehkgphockcjdaaGreatA10
open List renaming map_map→a_,map_cons→b_,getElem?_eq_some_iff→c_,mem_map→d_
namespace Go.Proofs.YtehkgphockcjdaaGreat
open Go.Abs
set_option maxRecDepth 100000
set_option maxHeartbeats 4000000
set_option linter.unusedSimpArgs false
set_option linter.unusedVariables false
def rpP (x:FcV×Value):(List UInt8×List (List D))×Value:=((x.1.1,x.1.2.map V.enc),x.2)
def rawE (x:FcV×Value):List D:=rawF (rpP x)
def crE (x:FcV×Value):Value×D:=crF (rpP x)
@[go_sem] theorem rawE_len (x:FcV×Value):(rawE x).length=2:=rfl
theorem treF_rp (x:FcV×Value):treF (rpP x)=fcE x.1:=by rw [fcE_eq];rfl
def cmpR (a b:FcV×Value):Int:=a.1.cmp b.1
theorem ddR_map:∀(l:List (FcV×Value)) (o:Option (FcV×Value)),(ddC cmpR o l).map (·.1)=ddC FcV.cmp (o.map (·.1)) (l.map (·.1))
 | [],o=>by cases o<;>rfl
 | x :: r,none=>by
  simp only [ddC,b_,Option.map_none]
  rw [ddR_map r (some x)];rfl
 | x :: r,some y=>by
  simp only [ddC,b_,Option.map_some]
  have e:cmpR y x=y.1.cmp x.1:=rfl
  rw [e]
  split
  ·rw [ddR_map r (some x)];rfl
  ·rw [b_,ddR_map r (some x)];rfl
theorem ddR_sub:∀(l:List (FcV×Value)) (o:Option (FcV×Value)),(ddC cmpR o l).Sublist l
 | [],o=>by cases o<;>exact List.Sublist.slnil
 | x :: r,none=>by
  simp only [ddC]
  exact (ddR_sub r (some x)).cons_cons x
 | x :: r,some y=>by
  simp only [ddC]
  split
  ·exact (ddR_sub r (some x)).cons x
  ·exact (ddR_sub r (some x)).cons_cons x
theorem rp_of:∀(F:List FcV) (qs:List ((List UInt8×List (List D))×Value)),qs.map (·.1)=F.map (fun f=>(f.1,f.2.map V.enc))→∃ps:List (FcV×Value),ps.map rpP=qs∧ps.map (·.1)=F
 | [],qs,h=>⟨[],by cases qs with | nil=>rfl | cons a r=>simp at h,rfl⟩
 | f :: F,[],h=>by simp at h
 | f :: F,q :: qs,h=>by
  simp only [b_,List.cons.injEq] at h
  obtain ⟨ps,h1,h2⟩:=rp_of F qs h.2
  refine ⟨(f,q.2) :: ps,?_,by rw [b_,h2]⟩
  rw [b_,h1]
  congr 1
  obtain ⟨a,v⟩:=q
  have:=h.1
  dsimp only at this
  subst this
  rfl
theorem orderR_fn (a b:FcV×Value):Gives Tryz.prog 59 [.agg (treF (rpP a)),.agg (treF (rpP b))] (.d (.int .i64 (cmpR a b))):=by
 rw [treF_rp,treF_rp];exact orderF_fn a.1 b.1
theorem sliceStableR {H:List O} {rb r rc q e:Nat} {ps:List (FcV×Value)} {B:Nat→Prop} {xs:List {x // x∈ps}} (hb:H[rb]? = some (.box [.own r q])) (hr:H[r]? = some (.buf q 2 e (xs.map fun x=>rawE x.1))) (hc:H[rc]? = some (.crate (ps.map crE) B)) (hne:rb≠r) (hnc:rc≠r) (hrefs:H.all (O.refsLt H.length)=true) (hn:xs.length≤1000000000000) :
  ACalls Tryz.prog 57 [.ifc 28 (.own r q),.fn 58 [.ptr rb 0]] H (fun c H'=>c=.tup []∧∃ys:List {x // x∈ps},ys.Perm xs∧ys.Pairwise (fun a b=>decide (b.1.1.cmp a.1.1<0)=false)∧H'=H.set r (.buf q 2 e (ys.map fun x=>rawE x.1))):=by
 have hz:infF.size=2:=by kernel_rfl
 have hw0:Wk (fun a b:FcV=>decide (a.cmp b<0)):=FcV.cmp_lin.wk
 have hw:Wk (fun a b:{x // x∈ps}=>decide (a.1.1.cmp b.1.1<0)):=⟨fun a b=>hw0.asym a.1.1 b.1.1,fun a b c=>hw0.tr a.1.1 b.1.1 c.1.1⟩
 have hbl:=(c_.1 hb).1
 have hrl:=(c_.1 hr).1
 have h:=sliceStable_calls Tryz.laysGt8 28 57 infFS infF (by kernel_rfl) (by kernel_rfl) (by kernel_rfl) (by kernel_rfl) 25 (fun _=>by kernel_rfl) (fun _=>by kernel_rfl) 100 101 108
  (by kernel_rfl) (by kernel_rfl) (fun n h2=>by rw [infF_K n h2];kernel_rfl) false (fun args W=>run_callFunc_extern Tryz.func108 (by kernel_rfl) (by kernel_rfl) (by kernel_rfl) (e:=Extern.ReflectliteSwapper.swap false) (by kernel_rfl) args W)
  (fun x:{x // x∈ps}=>rawE x.1) (fun x=>(rawE_len x.1).trans hz.symm) (fun a b=>decide (a.1.1.cmp b.1.1<0)) (g:=58) (caps:=[.ptr rb 0]) (H:=H) (r:=r) (q:=q) (e:=e) (xs:=xs) (by kernel_rfl) (by simp [C.refsLt1,hbl]) hrefs (by rw [hz];exact hr) hn
  (fun caps2 n m Hs h1 S f0=>stable_R hw h1 S f0)
  (fun f X i j hi hj=>by
   rw [hz]
   have e1:((List.range xs.length).map fun k=>rawE (f k).1)=((List.range xs.length).map fun k=>rpP (f k).1).map rawF:=by rw [a_];rfl
   rw [e1]
   have e2:∀k,k<xs.length→(((List.range xs.length).map fun k=>rpP (f k).1).map treF)[k]? = some (fcE (f k).1.1):=fun k hk=>by
    rw [List.getElem?_map,List.getElem?_map,List.getElem?_range hk,←treF_rp];rfl
   exact lessR hb hne hrl hc hnc (fun p hp=>by
    obtain ⟨k,_,rfl⟩:=d_.1 hp
    exact d_.2 ⟨(f k).1,(f k).2,rfl⟩) X (sortFacts1_fn _ (f i).1.1 (f j).1.1 i j (e2 i hi) (e2 j hj)))
 rw [hz] at h
 exact h
theorem sortFacts_R (ps:List (FcV×Value)) (hl:ps.length≤2000000) (B:Nat→Prop):ACalls Tryz.prog 32 [.d (.sl (ps.map rawE))] [.hole,.crate (ps.map crE) B] (fun c H'=>c=.own 0 1∧∃e,H'=[.tree 1 2 e ((sortC FcV.cmp (ps.map (·.1))).map fcE) B none,.dead]):=by
 have hmx:maxLen=9223372036854775807:=rfl
 obtain ⟨xs,hxs⟩:∃xs:List {x // x∈ps},xs.map Subtype.val=ps:=⟨ps.attach,List.attach_map_subtype_val ps⟩
 have hxr:ps.map rawE=xs.map fun x=>rawE x.1:=by
  conv=>lhs;rw [←hxs]
  rw [a_];rfl
 have hxl:xs.length=ps.length:=by have h:=congrArg List.length hxs;simpa using h
 have hmap:∀x:List {x // x∈ps},(x.map fun x=>rawE x.1).length=x.length:=fun x=>List.length_map _
 rw [hxr]
 refine aE_ Tryz.func32 ?_
 refine run_sound Tryz.func32 mixed 3 _ _ (by kernel_rfl) ?_
 simp only [go_sem,seval,run.eq_1]
 refine AW.regS ?_
 simp only [go_sem,seval,hmap]
 refine ⟨by omega,by omega,?_⟩
 have hst:ACalls Tryz.prog 57 [.ifc 28 (.own 2 1),.fn 58 [.ptr 3 0]] [.hole,.crate (ps.map crE) B,.buf 1 2 57 (xs.map fun x=>rawE x.1),.box [.own 2 1]] _:=sliceStableR rfl rfl (rc:=1) rfl (by decide) (by decide) rfl (by omega)
 refine run_sound Tryz.func32 mixed 2 _ _ (by kernel_rfl) ?_
 simp only [go_sem,seval,run.eq_1]
 refine hst.mono ?_
 rintro c H' ⟨rfl,ys,hp,hs,rfl⟩
 simp only [go_sem,seval,run.eq_1]
 refine AW.frzBox 3 0 2 rfl rfl rfl (by decide) ?_
 refine run_sound Tryz.func32 mixed 2 _ _ (by kernel_rfl) ?_
 simp only [go_sem,seval,run.eq_1]
 refine AW.adoptB 4 2 57 (by decide) rfl ?_
 obtain ⟨zs,hzs⟩:∃zs,zs=ys.map Subtype.val:=⟨_,rfl⟩
 have hyr:(ys.map fun x=>rawE x.1)=zs.map rawE:=by rw [hzs,a_];rfl
 have hzp:zs.Perm ps:=by
  rw [hzs]
  have h:=hp.map Subtype.val
  rw [hxs] at h;exact h
 have hzl:zs.length=ps.length:=hzp.length_eq
 have hzm:∀z,z∈zs→crF (rpP z)∈ps.map crE:=fun z hz=>d_.2 ⟨z,hzp.mem_iff.1 hz,rfl⟩
 have hsz:zs.Pairwise (fun a b=>¬FcV.cmp b.1 a.1<0):=by rw [hzs,List.pairwise_map];exact hs.imp (fun h=>by simpa using h)
 have hR:(ddC cmpR none zs).map (·.1)=sortC FcV.cmp (ps.map (·.1)):=by
  rw [ddR_map]
  exact ddC_sort FcV.cmp_lin (fun z=>(hzp.map (·.1)).mem_iff) (List.pairwise_map.2 hsz)
 have htk:∀x:FcV×Value,List.take 2 (rawE x)=rawE x:=fun x=>rfl
 have hmz:∀x:List (FcV×Value),(x.map rawE).length=x.length:=fun x=>List.length_map _
 rw [hyr]
 rw [←hR]
 clear hR hst hs hp hsz hyr hzs
 refine rS_ Tryz.func32 ?_
 simp only [go_sem,seval,hmz]
 refine AW.rng zs [3,15,16] 17 15 (fun p:List (FcV×Value)=>[(4,.own 4 (ddC cmpR none p).length)]) (fun _ p=>[.hole,.crate (ps.map crE) B,.dead,.box [.d (.sl (zs.map rawE))],.buf (ddC cmpR none p).length 2 57 ((ddC cmpR none p).map rawE)]) (fun r p=>zs=p++r) [] rfl (by simp) rfl (by refine ⟨by simp [mkS,ddC],by simp [mkS,ddC],by simp only [mkS,List.all_cons,List.all_nil,O.refsLt,C.refsLt,C.refsLt1,all_dmap];first | done | rfl | (simp;done),?_⟩;simp [mkS,Abs.get,C.refsLtT,C.refsLt,C.refsLt1,ddC]) (fun i x r p hxi hdr hlt hm hinv hnext=>?_) (fun p hinv=>?_)
 ·have hdl:=congrArg List.length hdr
  have hil:=congrArg List.length hinv
  simp only [List.length_drop,List.length_cons,List.length_append] at hdl hil
  have hip:i=p.length:=by omega
  have hnx:=fun s'=>hnext (p++[x]) s' (by rw [hinv];simp)
  clear hnext
  have hxm:=hzm x (List.mem_of_getElem? hxi)
  have hdd:=ddC_snoc (c:=cmpR) p none x
  have hddl:(ddC cmpR none p).length≤p.length:=(ddR_sub p none).length_le
  rcases List.eq_nil_or_concat p with rfl | ⟨p',y,rfl⟩
  ·obtain rfl:i=0:=by simpa using hip
   have hd1:ddC cmpR none ([]++[x])=[x]:=rfl
   have hd0:ddC cmpR none ([]:List (FcV×Value))=[]:=rfl
   rw [hd1] at hnx
   rw [hd0]
   have z0:((0:Nat):Int)=0:=rfl
   have hlt0:(0:Int)<(zs.length:Int):=by omega
   rw [z0] at hnx
   refine rS_ Tryz.func32 ?_
   simp only [go_sem,seval,hlt0,idx_of hxi,z0,htk]
   repeat' (first
    | (simp (disch:=omega) only [wrap_ok])
    | ((refine ⟨sd,?_⟩)<;>(try simp only [go_sem,seval,hlt0,idx_of hxi,z0,htk]))
    | fail)
   refine hnx _ wk3_
  ·rw [List.concat_eq_append] at *
   have hi0:¬(i:Int)=0:=by rw [hip];simp;omega
   have hw1:IntKind.i64.wrap ((i:Int) - 1)=((i - 1:Nat):Int):=by rw [wrap_ok (by omega) (by omega)];omega
   have n2:((i - 1:Nat):Int)<(zs.length:Int):=by omega
   have hyi:zs[i - 1]? = some y:=by
    rw [hinv,hip]
    simp
   have hym:=hzm y (List.mem_of_getElem? hyi)
   have ho:=orderR_fn y x
   have hlast:(((none:Option (FcV×Value)).toList++(p'++[y])).getLast?)=some y:=by simp
   rw [hlast] at hdd
   dsimp only at hdd
   by_cases e:cmpR y x=0
   ·rw [if_pos e,List.append_nil] at hdd
    rw [e] at ho
    rw [hdd] at hnx
    refine rS_ Tryz.func32 ?_
    simp only [go_sem,seval,hlt,idx_of hxi,hi0,hw1,n2,idx_of hyi,hmz,htk]
    repeat' (first
     | (simp (disch:=omega) only [wrap_ok])
     | ((refine Gives.raw2Q ho rfl (r:=1) rfl hym hxm ?_)<;>(try simp only [go_sem,seval,hlt,idx_of hxi,hi0,hw1,n2,idx_of hyi,hmz,htk]))
     | fail)
    all_goals refine hnx _ wk3_
   ·rw [if_neg e] at hdd
    rw [hdd] at hnx
    refine rS_ Tryz.func32 ?_
    simp only [go_sem,seval,hlt,idx_of hxi,hi0,hw1,n2,idx_of hyi,hmz,htk]
    repeat' (first
     | ((refine br_n (fun hq=>?_) (fun hq=>?_))<;>(try simp only [go_sem,seval,hlt,idx_of hxi,hi0,hw1,n2,idx_of hyi,hmz,htk,e,hq]))
     | (simp (disch:=omega) only [wrap_ok])
     | ((first
      | (refine Gives.raw2Q ho rfl (r:=1) rfl hym hxm ?_)
      | (refine ⟨sd,?_⟩))<;>(try simp only [go_sem,seval,hlt,idx_of hxi,hi0,hw1,n2,idx_of hyi,hmz,htk,e]))
     | fail)
    all_goals first | (exfalso;exact e (by assumption)) | skip
    all_goals refine hnx _ wk3_
 ·rw [List.append_nil] at hinv
  subst hinv
  have e1:(ddC cmpR none zs).map rawE=((ddC cmpR none zs).map rpP).map rawF:=by rw [a_];rfl
  have e2:ps.map crE=(ps.map rpP).map crF:=by rw [a_];rfl
  have e3:((ddC cmpR none zs).map rpP).map treF=((ddC cmpR none zs).map (·.1)).map fcE:=by
   rw [a_,a_];exact List.map_congr_left (fun x _=>treF_rp x)
  have e4:=e3
  rw [e1,e2]
  refine AW.uncrate 4 1 rfl rfl ((ddR_sub zs none).map rpP) (hzp.map rpP) ?_
  rw [e3]
  refine AW.place 4 4 0 rfl rfl rfl (by decide) ?_
  refine rS_ Tryz.func32 ?_
  simp only [go_sem,seval]
  repeat' (first
   | (exact ⟨_,rfl⟩)
   | fail)
end Go.Proofs.YtehkgphockcjdaaGreat
