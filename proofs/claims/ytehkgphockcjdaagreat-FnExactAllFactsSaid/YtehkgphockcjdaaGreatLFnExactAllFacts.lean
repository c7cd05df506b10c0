import Derived.Test.YtehkgphockcjdaaGreatW112
import Derived.Test.YtehkgphockcjdaaGreatW121
import Derived.Test.YtehkgphockcjdaaGreatW172
import Derived.Test.YtehkgphockcjdaaGreatW30
import Derived.Test.YtehkgphockcjdaaGreatFam
open List renaming mem_map→a_,length_map→d_
open Bool renaming and_eq_true→b_
open Nat renaming lt_succ_self→c_,le_trans→e_
namespace Go.Proofs.YtehkgphockcjdaaGreat
open Go.Abs
set_option maxRecDepth 100000
set_option maxHeartbeats 8000000
set_option linter.unusedSimpArgs false
set_option linter.unusedVariables false
theorem oksU_wt {u:List V} (hu:Uni u) {l:List FcV} (h:∀f,f∈l→(∀v,v∈f.2→v∈u)∧f.2.length≤12):∀f,f∈l→wtR (f.2.map V.enc)≤2000000:=fun f hf=>uniwts hu f.2 (h f hf).1 (h f hf).2
theorem okL_at {p:Pg}:∀{l:List Rl},p.okL l=true→∀j x,l[j]? = some x→p.relOk (p.rels.length - (l.length - j)) x=true
 | [],_,j,x,h=>by simp at h
 | r :: q,ho,0,x,h=>by
  simp only [Pg.okL,b_] at ho
  simp at h;subst h
  exact ho.1
 | r :: q,ho,j+1,x,h=>by
  simp only [Pg.okL,b_] at ho
  have:=okL_at ho.2 j x (by simpa using h)
  simpa using this
def allC (o:Option (List RV)):C:=match o with | some rs=>.tup [.d (.sl (rs.map rvE)),.d (.sl (stgD rs (top rs+1))),.d (.bool true)] | none=>.tup [.d (.sl []),.d (.sl []),.d (.bool false)]
theorem allC_some (rs:List RV):allC (some rs)=.tup [.d (.sl (rs.map rvE)),.d (.sl (stgD rs (top rs+1))),.d (.bool true)]:=rfl
theorem allC_none:allC none=.tup [.d (.sl []),.d (.sl []),.d (.bool false)]:=rfl
set_option maxHeartbeats 4000000
theorem eqTm2_fn:∀t:Tm,wtL t.enc≤2000000→Gives Tryz.prog 35 [.agg t.enc,.agg t.enc] (.d (.bool true)):=by
 intro t
 induction t using Tm.ind' with
 | h t ih =>
  intro hw
  have hmx:maxLen=9223372036854775807:=rfl
  have hl:t.args.length≤2000000:=by
   have h1:wtR (t.args.map Tm.enc)≤2000000:=by simp only [Tm.enc_eq t,wtL,D.wt] at hw;omega
   have:=sumW_le (t.args.map Tm.enc) 0;simp [sumW] at this;omega
  rw [Tm.enc_eq t]
  refine eq35 _ _ _ _ (eq12 _ (by rw [d_];omega) (fun x hx=>?_))
  obtain ⟨y,hy,rfl⟩:=a_.1 hx
  exact ⟨Tm.enc_len y,ih y hy (by have:=wt_args hy;omega)⟩
def smF (f:FcV):Prop:=f.2.length≤12∧wtR (f.2.map V.enc)≤2000000∧∀v,v∈f.2→v.size≤5000
theorem V.mcnt_tm:∀v:V,Tm.mcnt v.tm=3 * v.size
 | .nil=>rfl
 | .var _=>rfl
 | .sym _=>rfl
 | .num _=>rfl
 | .pair a b=>by simp only [V.tm,Tm.mcnt,Tm.mcnts,V.size,V.mcnt_tm a,V.mcnt_tm b];omega
theorem mcnts_small:∀l:List V,(∀v,v∈l→v.size≤5000)→Tm.mcnts (l.map V.tm)≤15000 * l.length
 | [],_=>by simp [Tm.mcnts]
 | v :: r,h=>by
  have h1:=mcnts_small r (fun v hv=>h v (by simp [hv]))
  have h2:=h v (by simp)
  have h3:=V.mcnt_tm v
  simp only [List.map_cons,Tm.mcnts,List.length_cons];omega
theorem mcntF_small:∀l:List FcV,(∀f,f∈l→smF f)→Fc.mcnts (l.map FcV.fc)≤180001 * l.length
 | [],_=>by simp [Fc.mcnts]
 | f :: r,h=>by
  have h1:=mcntF_small r (fun v hv=>h v (by simp [hv]))
  have h2:=h f (by simp)
  have h3:=mcnts_small f.2 h2.2.2
  have h4:=h2.1
  have h5:(FcV.fc f).mcnt=1+Tm.mcnts (f.2.map V.tm):=rfl
  simp only [List.map_cons,Fc.mcnts,List.length_cons];omega
theorem fcE_map (l:List FcV):l.map fcE=(l.map FcV.fc).map Fc.enc:=by rw [List.map_map];rfl
theorem eqFcS_of (l:List FcV) (hm:l.length≤1000000) (hw:∀f,f∈l→smF f):Gives Tryz.prog 10 [.sl (l.map fcE),.sl (l.map fcE)] (.d (.bool true)):=by
 have hmx:maxLen=9223372036854775807:=rfl
 refine eq10 (l.map fcE) (by rw [d_];omega) (fun x hx=>?_)
 obtain ⟨f,hf,rfl⟩:=a_.1 hx
 refine ⟨fcE_len f,?_⟩
 obtain ⟨h1,h2,_⟩:=hw f hf
 rw [fcE_eq]
 refine eq33 _ _ (eq12 _ (by rw [d_];omega) (fun x hx=>?_))
 obtain ⟨v,hv,rfl⟩:=a_.1 hx
 refine ⟨V.enc_len v,?_⟩
 have h3:=wtR_mem (l:=f.2.map V.enc) hx
 exact eqTm2_fn v.tm (e_ h3 h2)
theorem small_of {u:List V} (hu:Uni u) {l:List FcV} (h:∀f,f∈l→(∀v,v∈f.2→v∈u)∧f.2.length≤12):∀f,f∈l→smF f:=fun f hf=>by
 refine ⟨(h f hf).2,oksU_wt hu h f hf,fun v hv=>?_⟩
 have:=hu.ok v ((h f hf).1 v hv)
 unfold V.ok at this
 simp only [b_,decide_eq_true_eq] at this
 exact this.2
theorem mem_wA {u:List Tm} (h:wtR (u.map Tm.enc)≤1048576):(∀t,t∈u→wtL t.enc≤1048576)∧u.length≤9000000:=
 ⟨fun t ht=>e_ (wtR_mem (a_.2 ⟨t,ht,rfl⟩)) h,by have:=wtR_len (u.map Tm.enc);simp at this;omega⟩
theorem allF_small {p:Pg} {u:List Tm} {L:List FcV} (h:allF p u=some L):L.length≤2000∧∀f,f∈L→smF f:=by
 unfold allF at h
 split at h
 ·rename_i h12
  obtain ⟨hu,_⟩:=Uni.of h12.2
  have h2:=h
  rw [←all_same h12.1 hu] at h2
  have hl:L.length≤2000:=by
   unfold allS at h2
   split at h2
   ·rename_i hc;cases h2;exact hc
   ·cases h2
  refine ⟨hl,small_of hu (fun f hf=>?_)⟩
  unfold allI at h
  split at h
  ·cases h
   rw [sortC_mem FcV.cmp_lin,List.mem_flatMap] at hf
   obtain ⟨r,hr,hf⟩:=hf
   obtain ⟨x,hx,rfl⟩:=a_.1 hf
   obtain ⟨h1,h2⟩:=(asgF_mem _ _ _).1 hx
   obtain ⟨z1,z2,_,_⟩:=Pg.dims h12.1 hr
   exact ⟨h2,by dsimp only;omega⟩
  ·cases h
 ·cases h
theorem lawFnExactAllFacts (a0:Pg) (a1:List Tm) (ha0:Sh Tryz.prog 24 (a0.enc)) (ha1:Sh Tryz.prog 25 [.sl (a1.map Tm.enc)]):Gives Tryz.prog 3 [.agg a0.enc,.sl (a1.map Tm.enc)] (.d (.bool true)):=by
 have hsza0:=szc24 _ a0.enc (c_ _) ha0
 have htoa0:=fun hb=>toc24 _ a0.enc (c_ _) hb ha0
 have heqa0:=eqc24 _ a0.enc (c_ _) ha0
 have hesa1:=shS (by kernel_rfl:leaves Tryz.prog 6 25=some [.sl 47]) ha1
 have hsza1:=szs25 _ hesa1.1 hesa1.2
 have htoa1:=fun hb=>tos25 _ hb hesa1.2
 have heqa1:=eqs25 _ hesa1.1 hesa1.2
 refine aE_ Tryz.func3 ?_
 refine AW.hole ?_
 refine AW.hole ?_
 refine AW.hole ?_
 refine AW.hole ?_
 refine rS_ Tryz.func3 ?_
 simp only [go_sem,seval]
 refine (hsza0 _ (by omega) (by omega)).calls rfl ?_
 simp only [go_sem,seval]
 refine br_intro (fun hq=>?_) (fun hq=>?_)
 ·simp only [go_sem,seval]
 simp only [decide_eq_false_iff_not] at hq
 have hwa0:=szr_ge hq
 rw [szr_pos hwa0]
 clear hq
 simp only [go_sem,seval]
 refine (hsza1 _ (by omega) (by omega)).calls rfl ?_
 simp only [go_sem,seval]
 refine br_intro (fun hq=>?_) (fun hq=>?_)
 ·simp only [go_sem,seval]
 simp only [decide_eq_false_iff_not] at hq
 have hwa1:=szr_ge hq
 rw [szr_pos hwa1]
 clear hq
 simp only [go_sem,seval]
 have hmx:maxLen=9223372036854775807:=rfl
 have hwp:wtL a0.enc≤1048576:=by omega
 have hwu:wtR (a1.map Tm.enc)≤1048576:=by omega
 have hwr:wtR (a0.rels.map Rl.enc)≤1048576:=by
  simpa only [Pg.enc_eq,wtL,D.wt,Nat.add_zero] using hwp
 have hx:=toProgram_T a0 hwp
 have hy:=toTermS_T a1 hwu (fun x hx=>toTerm_T x (e_ (wtR_mem (a_.2 ⟨x,hx,rfl⟩)) hwu))
 have hg:=iAllFacts_T a0 a1 hwp hwu
 have hw0:=sAllFacts_D a0 a1 hwp (mem_wA hwu).1 (mem_wA hwu).2
 have hmR:=Rl.mcnts_wt a0.rels
 have hmT:=Tm.mcnts_wt a1
 have hmk0:=markProgram_T a0 1
 have hmk1:=mTT_all a1 (1+Rl.mcnts a0.rels)
 have hbf:∀e1 B1 e2 B2 X,borAll (.tree 1 7 e1 (a0.rels.map Rl.enc) B1 none :: .tree 1 4 e2 (a1.map Tm.enc) B2 none :: X) [.agg [.own 0 1],.own 1 1]=some [.agg a0.enc,.sl (a1.map Tm.enc)]:=fun e1 B1 e2 B2 X=>by
  rw [Pg.enc_eq a0];rfl
 have hbe0:∀e1 B1 X,borAll (.tree 1 7 e1 (a0.rels.map Rl.enc) B1 none :: X) [.agg [.own 0 1],.d (.agg a0.enc)]=some [.agg a0.enc,.agg a0.enc]:=fun e1 B1 X=>by
  rw [Pg.enc_eq a0];rfl
 refine (htoa0 hwp).calls rfl ?_
 simp only [go_sem,seval]
 refine (htoa1 hwu).calls rfl ?_
 simp only [go_sem,seval]
 cases ho:allF a0 a1 with
 | none =>
  rw [ho] at hg
  unfold afR at hg
  rw [ho] at hw0
  unfold afC at hw0
  dsimp only at hg hw0
  have hei:=eqFcS_of [] (by simp) (fun x hx=>by cases hx)
  have hh:=heldFactS_T [] 1 (by omega) (by simp [Fc.mcnts])
  simp only [Fc.mrks,List.map_nil,Fc.mcnts] at hh hei
  have z1:(1:Int)+((0:Nat):Int)=1:=rfl
  rw [z1] at hh
  refine hw0.calls rfl ?_
  simp only [go_sem,seval]
  refine ACalls.fresh (ds:=[.agg a0.enc]) (m:=1) hx [0] rfl rfl (by simp) (by simp) ?_
  rintro c H' ⟨rfl,e1,B1,rfl⟩ _
  refine ⟨rfl,rfl,?_⟩
  simp only [go_sem,seval]
  refine ACalls.fresh (ds:=[.sl (a1.map Tm.enc)]) (m:=1) hy [1] rfl rfl (by simp) (by simp) ?_
  rintro c H' ⟨rfl,e2,B2,rfl⟩ _
  refine ⟨rfl,rfl,?_⟩
  simp only [go_sem,seval]
  refine ACalls.fresh (ds:=[.agg a0.enc,.sl (a1.map Tm.enc)]) (m:=1) hg [2] (hbf _ _ _ _ _) rfl (by simp) (by simp) ?_
  rintro c H' ⟨rfl,rfl⟩ _
  refine ⟨rfl,rfl,?_⟩
  simp only [go_sem,seval]
  repeat' (first
   | ((refine br_n (fun hq=>?_) (fun hq=>?_))<;>(try simp only [go_sem,seval,hq]))
   | ((first
    | (refine hei.calls rfl ?_)
    | (refine (markFactS_0 1).calls rfl ?_)
    | (refine hh.calls rfl ?_)
    | (refine ACalls.fresh (ds:=[.agg a0.enc,.sl (a1.map Tm.enc)]) (m:=1) hg [3] rfl rfl (by simp) (by simp) ?_<;>(rintro c H' ⟨rfl,rfl⟩ _;refine ⟨rfl,rfl,?_⟩))
    | (refine (htoa0 hwp).callQ rfl ?_)
    | (refine (htoa0 hwp).calls rfl ?_)
    | (refine (htoa1 hwu).calls rfl ?_)
    | (refine heqa0.lendQ rfl (hbe0 _ _ _) ?_)
    | (refine heqa1.lend rfl rfl ?_)
    | (refine (ACalls.emb (hmk0 1 _ _ (by omega) (by omega)) [0] rfl rfl rfl (by decide) rfl ?_)<;>(rintro c H' ⟨rfl,C0,rfl⟩ _;refine ⟨rfl,rfl,?_⟩))
    | (refine (ACalls.emb (hmk1 1 _ _ (by omega) (by omega)) [1] rfl rfl rfl (by decide) rfl ?_)<;>(rintro c H' ⟨rfl,C1,rfl⟩ _;refine ⟨rfl,rfl,?_⟩)))<;>(try simp only [go_sem,seval]))
   | fail)
  all_goals first | (exfalso;omega) | skip
 | some L =>
  obtain ⟨hL,hsm⟩:=allF_small ho
  have hei:=eqFcS_of L (by omega) hsm
  have hmc:=mcntF_small L hsm
  rw [ho] at hg
  unfold afR at hg
  rw [ho] at hw0
  unfold afC at hw0
  dsimp only at hg hw0
  simp only [fcE_map] at hg hei hw0
  generalize L.map FcV.fc=M at *
  have hmg:=markFactS_T M 1
  have hh:=heldFactS_T M 1 (by omega) (by omega)
  refine hw0.calls rfl ?_
  simp only [go_sem,seval]
  refine ACalls.fresh (ds:=[.agg a0.enc]) (m:=1) hx [0] rfl rfl (by simp) (by simp) ?_
  rintro c H' ⟨rfl,e1,B1,rfl⟩ _
  refine ⟨rfl,rfl,?_⟩
  simp only [go_sem,seval]
  refine ACalls.fresh (ds:=[.sl (a1.map Tm.enc)]) (m:=1) hy [1] rfl rfl (by simp) (by simp) ?_
  rintro c H' ⟨rfl,e2,B2,rfl⟩ _
  refine ⟨rfl,rfl,?_⟩
  simp only [go_sem,seval]
  refine ACalls.fresh (ds:=[.agg a0.enc,.sl (a1.map Tm.enc)]) (m:=1) hg [2] (hbf _ _ _ _ _) rfl (by simp) (by simp) ?_
  rintro c H' ⟨rfl,e4,B4,rfl⟩ _
  refine ⟨rfl,rfl,?_⟩
  simp only [go_sem,seval]
  repeat' (first
   | ((refine br_n (fun hq=>?_) (fun hq=>?_))<;>(try simp only [go_sem,seval,hq]))
   | ((first
    | (refine (htoa0 hwp).callQ rfl ?_)
    | (refine (htoa0 hwp).calls rfl ?_)
    | (refine (htoa1 hwu).calls rfl ?_)
    | (refine heqa0.lendQ rfl (hbe0 _ _ _) ?_)
    | (refine heqa1.lend rfl rfl ?_)
    | (refine (ACalls.emb (hmk0 1 _ _ (by omega) (by omega)) [0] rfl rfl rfl (by decide) rfl ?_)<;>(rintro c H' ⟨rfl,C0,rfl⟩ _;refine ⟨rfl,rfl,?_⟩))
    | (refine (ACalls.emb (hmk1 1 _ _ (by omega) (by omega)) [1] rfl rfl rfl (by decide) rfl ?_)<;>(rintro c H' ⟨rfl,C1,rfl⟩ _;refine ⟨rfl,rfl,?_⟩))
    | (refine hei.lend rfl rfl ?_)
    | (refine hh.lend rfl rfl ?_)
    | (refine (ACalls.emb (hmg 1 _ _ (by omega) (by omega)) [2] rfl rfl rfl (by decide) rfl ?_)<;>(rintro c H' ⟨rfl,C3,rfl⟩ _;refine ⟨rfl,rfl,?_⟩))
    | (refine ACalls.fresh (ds:=[.agg a0.enc,.sl (a1.map Tm.enc)]) (m:=1) hg [3] rfl rfl (by simp) (by simp) ?_<;>(rintro c H' ⟨rfl,e9,B9,rfl⟩ _;refine ⟨rfl,rfl,?_⟩)))<;>(try simp only [go_sem,seval]))
   | fail)
  all_goals first | (exfalso;omega) | skip
end Go.Proofs.YtehkgphockcjdaaGreat
