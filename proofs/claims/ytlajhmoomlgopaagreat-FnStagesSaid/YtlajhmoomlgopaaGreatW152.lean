import Derived.Test.YtlajhmoomlgopaaGreatW112
import Derived.Test.YtlajhmoomlgopaaGreatFx
import Derived.Test.YtlajhmoomlgopaaGreatA9
import Derived.Test.YtlajhmoomlgopaaGreatP11
import Derived.Test.YtlajhmoomlgopaaGreatW103
import Derived.Test.YtlajhmoomlgopaaGreatW151
import Derived.Test.YtlajhmoomlgopaaGreatP15
namespace Go.Proofs.YtlajhmoomlgopaaGreat
open Go.Abs
set_option maxRecDepth 100000
set_option maxHeartbeats 8000000
set_option linter.unusedSimpArgs false
set_option linter.unusedVariables false
theorem oksU_wt {u:List V} (hu:Uni u) {l:List FcV} (h:∀f,f∈l→(∀v,v∈f.2→v∈u)∧f.2.length≤12):∀f,f∈l→wtR (f.2.map V.enc)≤2000000:=fun f hf=>uniwts hu f.2 (h f hf).1 (h f hf).2
def Pg.model (p:Pg) (u:List Tm) (fs:List Fc):Bool:=match Pg.csq p u fs with | some l=>l.all fun f=>decide (f∈fs.map Fc.toV) | none=>false
theorem csq_fits {p:Pg} {u:List Tm} {fs:List Fc} {l:List FcV} (h:Pg.csq p u fs=some l):fs.all p.factFits=true∧l.length≤2000:=by
 unfold Pg.csq at h
 split at h
 ·rename_i h2
  refine ⟨h2.2.2,?_⟩
  cases hg:p.gr (u.map Tm.V) with
  | none=>rw [hg] at h;cases h
  | some rs =>
   rw [hg] at h
   obtain rfl:=Option.some.inj h
   have:=nextF_len rs (fs.map Fc.toV) (fs.map Fc.toV)
   have:=(gr_mem hg).2
   show (nextF rs (fs.map Fc.toV) (fs.map Fc.toV)).length≤2000
   omega
 ·cases h
theorem iIsModel_fn (p:Pg) (u:List Tm) (fs:List Fc) (hw:wtL p.enc≤1048576) (hwu:∀t,t∈u→wtL t.enc≤1048576) (hlu:u.length≤9000000) (hwf:wtR (fs.map Fc.enc)≤1048576):Gives Tryz.prog 16 [.agg p.enc,.sl (u.map Tm.enc),.sl (fs.map Fc.enc)] (.d (.bool (Pg.model p u fs))):=by
 have hcs:=iConsequences_D p u fs hw hwu hlu hwf
 have hfl:fs.length≤1048576:=by have:=wtR_len (fs.map Fc.enc);simp at this;omega
 obtain ⟨K,hK⟩:∃K,Pg.model p u fs=K:=⟨_,rfl⟩
 rw [hK]
 unfold Pg.model at hK
 cases hc:Pg.csq p u fs with
 | none =>
  rw [hc,csC_none] at hcs
  rw [hc] at hK
  rw [←hK]
  refine aE_ Tryz.func16 ?_
  refine rS_ Tryz.func16 ?_
  simp only [go_sem,seval]
  repeat' (first
   | ((refine hcs.calls rfl ?_)<;>(try simp only [go_sem,seval]))
   | fail)
 | some l =>
  rw [hc,csC_some] at hcs
  rw [hc] at hK
  dsimp only at hK
  obtain ⟨hff,hll⟩:=csq_fits hc
  have hfl2:(fs.map Fc.toV).length≤1048576:=by rw [List.length_map];exact hfl
  rw [fits_Vs hff] at hcs ⊢
  generalize fs.map Fc.toV=F at *
  have hso:=sortFacts_fn F (by omega)
  have hsm:∀f,decide (f∈sortC FcV.cmp F)=decide (f∈F):=fun f=>by rw [Bool.eq_iff_iff,decide_eq_true_eq,decide_eq_true_eq];exact sortC_mem FcV.cmp_lin F f
  have hsa:=sortC_asc FcV.cmp_lin F
  have hsl:=sortC_len (c:=FcV.cmp) F
  generalize sortC FcV.cmp F=S at *
  refine aE_ Tryz.func16 ?_
  refine rS_ Tryz.func16 ?_
  simp only [go_sem,seval]
  repeat' (first
   | ((first
    | (refine hcs.calls rfl ?_)
    | (refine hso.calls rfl ?_))<;>(try simp only [go_sem,seval]))
   | fail)
  refine AW.rng l [9,23,24] 25 23 (fun _:Unit=>[]) (fun H _=>H) (fun q _=>(q.all fun f=>decide (f∈F))=K) () rfl (by simp) hK wk1_ (fun j y q b hyj hdr2 hlt2 hm2 hinv2 hnext2=>?_) (fun b hinv2=>?_)
  ·have he:=hasFact_fn S y (by omega) hsa
   rw [fcE_eq,hsm] at he
   rw [List.all_cons] at hinv2
   generalize decide (y∈F)=b2 at he hinv2
   cases b2 with
   | true =>
    rw [Bool.true_and] at hinv2
    refine rS_ Tryz.func16 ?_
    simp only [go_sem,seval,hlt2,idx_of hyj,fcE_eq]
    repeat' (first
     | (simp (disch:=omega) only [wrap_ok])
     | (refine hnext2 () _ hinv2 wk1_)
     | ((refine he.calls rfl ?_)<;>(try simp only [go_sem,seval,hlt2,idx_of hyj,fcE_eq]))
     | fail)
   | false =>
    rw [Bool.false_and] at hinv2
    rw [←hinv2]
    refine rS_ Tryz.func16 ?_
    simp only [go_sem,seval,hlt2,idx_of hyj,fcE_eq]
    repeat' (first
     | ((refine he.calls rfl ?_)<;>(try simp only [go_sem,seval,hlt2,idx_of hyj,fcE_eq]))
     | fail)
  ·rw [List.all_nil] at hinv2
   rw [←hinv2]
   refine rS_ Tryz.func16 ?_
   simp only [go_sem,seval]
theorem mem_wtR {u:List Tm} (h:wtR (u.map Tm.enc)≤1048576):(∀t,t∈u→wtL t.enc≤1048576)∧u.length≤9000000:=
 ⟨fun t ht=>Nat.le_trans (wtR_mem (List.mem_map.2 ⟨t,ht,rfl⟩)) h,by have:=wtR_len (u.map Tm.enc);simp at this;omega⟩
end Go.Proofs.YtlajhmoomlgopaaGreat
namespace Go.Proofs.YtlajhmoomlgopaaGreat
open Go.Abs
set_option maxRecDepth 100000
set_option maxHeartbeats 8000000
set_option linter.unusedSimpArgs false
set_option linter.unusedVariables false
theorem okL_at {p:Pg}:∀{l:List Rl},p.okL l=true→∀j x,l[j]? = some x→p.relOk (p.rels.length - (l.length - j)) x=true
 | [],_,j,x,h=>by simp at h
 | r :: q,ho,0,x,h=>by
  simp only [Pg.okL,Bool.and_eq_true] at ho
  simp at h;subst h
  exact ho.1
 | r :: q,ho,j+1,x,h=>by
  simp only [Pg.okL,Bool.and_eq_true] at ho
  have:=okL_at ho.2 j x (by simpa using h)
  simpa using this
theorem find_self {p:Pg} (hp:pgOk p=true) {i:Nat} {x:Rl} (h:p.rels[i]? = some x):p.find x.name=(i:Int):=by
 unfold pgOk at hp
 rw [Bool.and_eq_true] at hp
 have h1:=okL_at hp.2 i x h
 have hi:=(List.getElem?_eq_some_iff.1 h).1
 rw [show p.rels.length - (p.rels.length - i)=i by omega] at h1
 unfold Pg.relOk at h1
 simp only [Bool.and_eq_true,decide_eq_true_eq] at h1
 exact h1.1.1.1.1.1.1.1
theorem toV_args {f:Fc} (h:f.args.all tmOk=true):f.enc=fcE (Fc.toV f):=by
 rw [Fc.enc_eq,fcE_eq]
 unfold Fc.toV
 dsimp only
 rw [List.map_map,List.map_congr_left (g:=V.enc∘Tm.V) (fun t ht=>Tm.enc_V (List.all_eq_true.1 h t ht))]
theorem pos_gnd {p:Pg} {u:List V} {rs:List RV} (h:p.all false=true) (hg:p.gr u=some rs):posR rs:=fun r hr=>by
 obtain ⟨rfl,_⟩:=gr_mem hg
 obtain ⟨x,hx,c,hc,j,w,_,rfl⟩:=gnd_mem _ hr
 unfold Pg.all at h
 rw [Bool.and_eq_true] at h
 have ho:=List.all_eq_true.1 h.2 x hx
 unfold Gl.only at ho
 show clsNeg _ c=[]
 unfold clsNeg
 have:c.filter (fun g=>decide (g.kind=10))=[]:=List.filter_eq_nil_iff.2 fun g hgc=>by
  have h1:=List.all_eq_true.1 ho g (clsS_sub hc hgc)
  unfold Gl.onlyK at h1
  simp only [Bool.and_eq_true,decide_eq_true_eq] at h1
  simpa using h1.1
 rw [this];rfl
theorem hgt_at {rs:List RV} {f:FcV} {i:Nat} (h1:i≤top rs) (h2:f∈stg rs i) (h3:∀j,j<i→f∉stg rs j):hgt rs f=(i:Int):=by
 unfold hgt
 rw [if_pos (stg_le rs h1 f h2)]
 obtain ⟨k1,k2,k3⟩:=srch_spec (p:=fun k=>decide (f∈stg rs k)) (n:=top rs+1)
 generalize srch (fun k=>decide (f∈stg rs k)) (top rs+1)=k at k1 k2 k3
 rcases Nat.lt_trichotomy k i with e | e | e
 ·exact absurd (of_decide_eq_true (k3 (by omega))) (h3 k e)
 ·rw [e]
 ·have:=k2 i e;simp [h2] at this
theorem hgt_no {rs:List RV} {f:FcV} (h:f∉stg rs (top rs)):hgt rs f=-1:=by unfold hgt;rw [if_neg h]
def Pg.hgtF (p:Pg) (u:List Tm) (f:Fc):Int:=
 if p.all false=true∧uniOk u=true∧f.args.all tmOk=true then (match p.gr (u.map Tm.V) with | some rs=>hgt rs (Fc.toV f) | none=>-1) else -1
def posO (p:Pg) (u:List Tm):Option (List RV):=if p.all false=true∧uniOk u=true then p.gr (u.map Tm.V) else none
theorem positiveRules_fn (p:Pg) (u:List Tm) (hw:wtL p.enc≤1048576) (hwu:∀t,t∈u→wtL t.enc≤1048576) (hlu:u.length≤9000000):Gives Tryz.prog 34 [.agg p.enc,.sl (u.map Tm.enc)] (grC (posO p u)):=by
 have ha:=iIsPositive_fn p hw
 have hb:=iUniverseOk_fn u hwu hlu
 unfold posO
 by_cases h1:p.all false=true
 ·by_cases h2:uniOk u=true
  ·rw [h1] at ha
   rw [h2] at hb
   rw [if_pos ⟨h1,h2⟩]
   obtain ⟨hu,he⟩:=Uni.of h2
   have hp:pgOk p=true:=by unfold Pg.all at h1;rw [Bool.and_eq_true] at h1;exact h1.1
   have hee:u.map Tm.enc=(u.map Tm.V).map V.enc:=by rw [←enc_tms,←he]
   have hgr:=groundRules_fn p (u.map Tm.V) hp hw hu
   rw [hee] at hb ⊢
   generalize p.gr (u.map Tm.V)=O at *
   cases O<;>· (
    first | rw [grC_none] at hgr ⊢ | rw [grC_some] at hgr ⊢
    refine aE_ Tryz.func34 ?_
    refine rS_ Tryz.func34 ?_
    simp only [go_sem,seval]
    repeat' (first
     | ((first
      | (refine ha.calls rfl ?_)
      | (refine hb.calls rfl ?_)
      | (refine hgr.calls rfl ?_))<;>(try simp only [go_sem,seval]))
     | fail)
    skip)
  ·rw [if_neg (fun h=>h2 h.2),grC_none]
   simp only [Bool.not_eq_true] at h2
   rw [h1] at ha
   rw [h2] at hb
   refine aE_ Tryz.func34 ?_
   refine rS_ Tryz.func34 ?_
   simp only [go_sem,seval]
   repeat' (first
    | ((first
     | (refine ha.calls rfl ?_)
     | (refine hb.calls rfl ?_))<;>(try simp only [go_sem,seval]))
    | fail)
 ·rw [if_neg (fun h=>h1 h.1),grC_none]
  simp only [Bool.not_eq_true] at h1
  rw [h1] at ha
  refine aE_ Tryz.func34 ?_
  refine rS_ Tryz.func34 ?_
  simp only [go_sem,seval]
  repeat' (first
   | ((refine ha.calls rfl ?_)<;>(try simp only [go_sem,seval]))
   | fail)
theorem heightIn_fn (rs:List RV) (f:FcV) (hr:rs.length≤2000000):Gives Tryz.prog 44 [.sl (stgD rs (top rs+1)),.agg (fcE f)] (.d (.int .i64 (hgt rs f))):=by
 obtain ⟨K,hK⟩:∃K,hgt rs f=K:=⟨_,rfl⟩
 rw [hK,fcE_eq]
 obtain ⟨t1,_,_⟩:=top_spec rs
 refine aE_ Tryz.func44 ?_
 refine rS_ Tryz.func44 ?_
 simp only [go_sem,seval]
 refine AW.lp [3,7,8] (fun i:Nat=>[(9,.d (.int .i64 (i:Int)))]) (fun H _=>H) (fun i=>i≤top rs+1∧∀j,j<i→f∉stg rs j) (fun i=>top rs+1 - i) 0 ⟨Nat.zero_le _,fun j hj=>by omega⟩ wk1_ ?_
 intro i hi hni
 obtain ⟨i1,i2⟩:=hi
 by_cases hit:i<top rs+1
 ·have n1:(i:Int)<(top rs:Int)+1:=by omega
  have hat:=stgD_at rs hit
  have hsl:=stg_len rs i
  have w1:IntKind.i64.wrap ((i:Int)+1)=(i:Int)+1:=wrap_ok (by omega) (by omega)
  by_cases hf:f∈stg rs i
  ·rw [hgt_at (by omega) hf i2] at hK
   subst hK
   have he:=hasFact_fn (stg rs i) f (by omega) (stg_asc rs i)
   rw [decide_eq_true hf,fcE_eq] at he
   refine rS_ Tryz.func44 ?_
   simp only [go_sem,seval,n1,idx_of hat]
   repeat' (first
    | ((refine he.calls rfl ?_)<;>(try simp only [go_sem,seval,n1,idx_of hat]))
    | fail)
  ·have he:=hasFact_fn (stg rs i) f (by omega) (stg_asc rs i)
   rw [decide_eq_false hf,fcE_eq] at he
   refine rS_ Tryz.func44 ?_
   simp only [go_sem,seval,n1,idx_of hat]
   repeat' (first
    | ((refine he.calls rfl ?_)<;>(try simp only [go_sem,seval,n1,idx_of hat,w1]))
    | fail)
   refine hni (i+1) _ ⟨by omega,fun j hj=>?_⟩ (by omega) wk1_
   rcases Nat.lt_or_ge j i with e | e
   ·exact i2 j e
   ·rw [show j=i by omega];exact hf
 ·have n1:¬(i:Int)<(top rs:Int)+1:=by omega
  rw [hgt_no (i2 _ (by omega))] at hK
  subst hK
  refine rS_ Tryz.func44 ?_
  simp only [go_sem,seval,n1]
end Go.Proofs.YtlajhmoomlgopaaGreat
namespace Go.Proofs.YtlajhmoomlgopaaGreat
open Go.Abs
set_option maxRecDepth 100000
set_option maxHeartbeats 8000000
set_option linter.unusedSimpArgs false
set_option linter.unusedVariables false
theorem iFactHeight_fn (p:Pg) (u:List Tm) (f:Fc) (hw:wtL p.enc≤1048576) (hwu:wtR (u.map Tm.enc)≤1048576) (hwf:wtL f.enc≤1048576):Gives Tryz.prog 13 [.agg p.enc,.sl (u.map Tm.enc),.agg f.enc] (.d (.int .i64 (Pg.hgtF p u f))):=by
 have hpr:=positiveRules_fn p u hw (mem_wtR hwu).1 (mem_wtR hwu).2
 have hfa:wtR (f.args.map Tm.enc)≤1048576:=by rw [Fc.enc_eq] at hwf;simp only [wtL,D.wt] at hwf;omega
 have hto:=itermsOk_fn f.args (fun t ht=>by have:=wtR_mem (List.mem_map.2 ⟨t,ht,rfl⟩:t.enc∈f.args.map Tm.enc);omega)
 obtain ⟨K,hK⟩:∃K,Pg.hgtF p u f=K:=⟨_,rfl⟩
 rw [hK]
 unfold Pg.hgtF at hK
 unfold posO at hpr
 by_cases h12:p.all false=true∧uniOk u=true
 ·rw [if_pos h12] at hpr
  obtain ⟨hu,he⟩:=Uni.of h12.2
  cases hg:p.gr (u.map Tm.V) with
  | none =>
   rw [hg] at hK
   have hK':K=-1:=by rw [←hK];split<;>rfl
   rw [hg,grC_none] at hpr
   rw [hK',Fc.enc_eq]
   refine aE_ Tryz.func13 ?_
   refine rS_ Tryz.func13 ?_
   simp only [go_sem,seval]
   repeat' (first
    | ((refine hpr.calls rfl ?_)<;>(try simp only [go_sem,seval]))
    | fail)
  | some rs =>
   rw [hg,grC_some] at hpr
   by_cases hq:f.args.all tmOk=true
   ·rw [if_pos ⟨h12.1,h12.2,hq⟩,hg] at hK
    dsimp only at hK
    rw [hq] at hto
    obtain ⟨_,hrl⟩:=gr_mem hg
    have hst:=stages_fn rs (by omega) (pos_gnd h12.1 hg)
    have hht:=heightIn_fn rs (Fc.toV f) (by omega)
    rw [hK,←toV_args hq] at hht
    rw [Fc.enc_eq] at hht ⊢
    generalize stgD rs (top rs+1)=SD at *
    refine aE_ Tryz.func13 ?_
    refine rS_ Tryz.func13 ?_
    simp only [go_sem,seval]
    repeat' (first
     | ((first
      | (refine hpr.calls rfl ?_)
      | (refine hto.calls rfl ?_)
      | (refine hst.callQ rfl ?_)
      | (refine hht.callQ rfl ?_))<;>(try simp only [go_sem,seval]))
     | fail)
   ·rw [if_neg (fun h=>hq h.2.2)] at hK
    simp only [Bool.not_eq_true] at hq
    rw [hq] at hto
    rw [←hK,Fc.enc_eq]
    refine aE_ Tryz.func13 ?_
    refine rS_ Tryz.func13 ?_
    simp only [go_sem,seval]
    repeat' (first
     | ((first
      | (refine hpr.calls rfl ?_)
      | (refine hto.calls rfl ?_))<;>(try simp only [go_sem,seval]))
     | fail)
 ·rw [if_neg h12,grC_none] at hpr
  rw [if_neg (fun h=>h12 ⟨h.1,h.2.1⟩)] at hK
  rw [←hK,Fc.enc_eq]
  refine aE_ Tryz.func13 ?_
  refine rS_ Tryz.func13 ?_
  simp only [go_sem,seval]
  repeat' (first
   | ((refine hpr.calls rfl ?_)<;>(try simp only [go_sem,seval]))
   | fail)
end Go.Proofs.YtlajhmoomlgopaaGreat
namespace Go.Proofs.YtlajhmoomlgopaaGreat
open Go.Abs
set_option maxRecDepth 100000
set_option maxHeartbeats 8000000
set_option linter.unusedSimpArgs false
set_option linter.unusedVariables false
theorem copyFacts_T (l:List FcV) (hl:l.length≤2000000) (hw:∀x,x∈l→x.2.length≤100000000):ACalls Tryz.prog 36 [.d (.sl (l.map fcE))] [.hole] (fun c H'=>c=.own 0 1∧∃e B,H'=[.tree 1 2 e (l.map fcE) B none]):=by
 have hmx:maxLen=9223372036854775807:=rfl
 refine aE_ Tryz.func36 ?_
 refine run_sound Tryz.func36 mixed 5 _ _ (by kernel_rfl) ?_
 simp only [go_sem,seval,run.eq_1]
 refine AW.adoptT 3 2 37 (by decide) rfl ?_
 refine rS_ Tryz.func36 ?_
 simp only [go_sem,seval]
 refine AW.rng l [7,8] 9 7 (fun p:List FcV×(Nat→Prop)=>[(3,.own 1 p.1.length)]) (fun _ p=>[.hole,.tree p.1.length 2 37 (p.1.map fcE) p.2 none]) (fun r p=>p.1++r=l) ([],fun _=>False) rfl (by simp) rfl wk1_ (fun i x r p hxi hdr hlt hm hinv hnext=>?_) (fun p hinv=>?_)
 ·have hpl:p.1.length+(r.length+1)=l.length:=by rw [←hinv];simp
  have hx:=copyFact_T x.1 x.2 (hw x (List.mem_of_getElem? hxi))
  have hX:=fcE_eq x
  refine AW.hole ?_
  refine run_sound Tryz.func36 mixed 9 _ _ (by kernel_rfl) ?_
  simp only [go_sem,seval,run.eq_1,hlt,idx_of hxi,fcE_eq]
  refine AW.regT ?_
  simp only [go_sem,seval]
  repeat' (first
   | ((first
    | (refine ACalls.fresh (ds:=[.agg [.str x.1,.sl (x.2.map V.enc)]]) (m:=1) hx [2] rfl rfl (by simp) (by simp) ?_<;>(rintro c H' ⟨rfl,e1,B1,rfl⟩ _;refine ⟨rfl,rfl,?_⟩))
    | (refine all_intro (fun Bz=>?_))
    | (refine ⟨sd,?_⟩))<;>(try simp only [go_sem,seval,hlt,idx_of hxi]))
   | fail)
  refine rS_ Tryz.func36 ?_
  simp only [go_sem,seval]
  try simp (disch:=omega) only [wrap_ok]
  refine hnext (p.1++[x],Bz) _ (by simp [←hinv]) (by refine ⟨by simp [mkS,hX],by simp [mkS,hX],by simp only [mkS,List.all_cons,List.all_nil,O.refsLt,C.refsLt,C.refsLt1,all_dmap];first | done | rfl | (simp;done),?_⟩;simp [mkS,Abs.get,C.refsLtT,C.refsLt,C.refsLt1,hX])
 ·simp only [List.append_nil] at hinv
  subst hinv
  refine run_sound Tryz.func36 mixed 7 _ _ (by kernel_rfl) ?_
  simp only [go_sem,seval,run.eq_1]
  refine AW.place 2 1 0 rfl rfl rfl (by decide) ?_
  refine rS_ Tryz.func36 ?_
  simp only [go_sem,seval]
  all_goals exact ⟨_,_,rfl⟩
end Go.Proofs.YtlajhmoomlgopaaGreat
namespace Go.Proofs.YtlajhmoomlgopaaGreat
open Go.Abs
set_option maxRecDepth 100000
set_option maxHeartbeats 8000000
set_option linter.unusedSimpArgs false
set_option linter.unusedVariables false
def allC (o:Option (List RV)):C:=match o with | some rs=>.tup [.d (.sl (rs.map rvE)),.d (.sl (stgD rs (top rs+1))),.d (.bool true)] | none=>.tup [.d (.sl []),.d (.sl []),.d (.bool false)]
theorem allC_some (rs:List RV):allC (some rs)=.tup [.d (.sl (rs.map rvE)),.d (.sl (stgD rs (top rs+1))),.d (.bool true)]:=rfl
theorem allC_none:allC none=.tup [.d (.sl []),.d (.sl []),.d (.bool false)]:=rfl
theorem all_ok {p:Pg} (h:p.all false=true):pgOk p=true:=by unfold Pg.all at h;rw [Bool.and_eq_true] at h;exact h.1
end Go.Proofs.YtlajhmoomlgopaaGreat
namespace Go.Proofs.YtlajhmoomlgopaaGreat
open Go.Abs
set_option maxRecDepth 100000
set_option maxHeartbeats 8000000
set_option linter.unusedSimpArgs false
set_option linter.unusedVariables false
def csR (o:Option (List FcV)) (c:C) (H:List O):Prop:=match o with
 | some l=>c=.tup [.own 0 1,.d (.bool true)]∧∃e B,H=[.tree 1 2 e (l.map fcE) B none]
 | none=>c=.tup [.d (.sl []),.d (.bool false)]∧H=[.hole]
end Go.Proofs.YtlajhmoomlgopaaGreat
namespace Go.Proofs.YtlajhmoomlgopaaGreat
open Go.Abs
set_option maxRecDepth 100000
set_option maxHeartbeats 8000000
set_option linter.unusedSimpArgs false
set_option linter.unusedVariables false
theorem stg_head {p:Pg} {u:List V} {rs:List RV} (hp:pgOk p=true) (hu:Uni u) (h:p.gr u=some rs) (k:Nat):∀f,f∈stg rs k→(∀v,v∈f.2→v∈u)∧f.2.length≤12:=fun f hf=>by
 cases k with
 | zero=>simp [stg] at hf
 | succ k=>exact next_head hp hu h _ _ f hf
theorem posO_some {p:Pg} {u:List Tm} {rs:List RV} (h:posO p u=some rs):rs.length≤2000∧posR rs∧∀k f,f∈stg rs k→wtR (f.2.map V.enc)≤2000000∧f.2.length≤12:=by
 unfold posO at h
 split at h
 ·rename_i h12
  obtain ⟨hu,_⟩:=Uni.of h12.2
  exact ⟨(gr_mem h).2,pos_gnd h12.1 h,fun k f hf=>⟨oksU_wt hu (stg_head (all_ok h12.1) hu h k) f hf,(stg_head (all_ok h12.1) hu h k f hf).2⟩⟩
 ·cases h
def Pg.stgF (p:Pg) (u:List Tm) (n:Int):Option (List FcV):=if 0≤n∧n≤100 then (posO p u).map (fun rs=>stg rs n.toNat) else none
theorem iStageFacts_T (p:Pg) (u:List Tm) (n:Int) (hw:wtL p.enc≤1048576) (hwu:wtR (u.map Tm.enc)≤1048576):ACalls Tryz.prog 11 [.d (.agg p.enc),.d (.sl (u.map Tm.enc)),.d (.int .i64 n)] [.hole] (csR (Pg.stgF p u n)):=by
 have hmx:maxLen=9223372036854775807:=rfl
 have hpr:=positiveRules_fn p u hw (mem_wtR hwu).1 (mem_wtR hwu).2
 obtain ⟨RES,hRES⟩:∃RES,Pg.stgF p u n=RES:=⟨_,rfl⟩
 rw [hRES]
 unfold Pg.stgF at hRES
 cases hg:posO p u with
 | none =>
  rw [hg] at hRES
  have hR:RES=none:=by rw [←hRES];simp
  subst hR;unfold csR;dsimp only
  rw [hg,grC_none] at hpr
  refine aE_ Tryz.func11 ?_
  refine rS_ Tryz.func11 ?_
  simp only [go_sem,seval]
  repeat' (first
   | ((refine hpr.calls rfl ?_)<;>(try simp only [go_sem,seval]))
   | fail)
 | some rs =>
  rw [hg,grC_some] at hpr
  obtain ⟨hrl,hpo,hst⟩:=posO_some hg
  rw [hg,Option.map_some] at hRES
  by_cases h0:n<0
  ·rw [if_neg (by omega)] at hRES
   subst hRES;unfold csR;dsimp only
   refine aE_ Tryz.func11 ?_
   refine rS_ Tryz.func11 ?_
   simp only [go_sem,seval,h0]
   repeat' (first
    | ((refine hpr.calls rfl ?_)<;>(try simp only [go_sem,seval,h0]))
    | fail)
  ·by_cases h1:100<n
   ·rw [if_neg (by omega)] at hRES
    subst hRES;unfold csR;dsimp only
    refine aE_ Tryz.func11 ?_
    refine rS_ Tryz.func11 ?_
    simp only [go_sem,seval,h0,h1]
    repeat' (first
     | ((refine hpr.calls rfl ?_)<;>(try simp only [go_sem,seval,h0,h1]))
     | fail)
   ·rw [if_pos (by omega)] at hRES
    subst hRES;unfold csR;dsimp only
    have hss:=stages_fn rs (by omega) hpo
    have ht:=(top_spec rs).1
    obtain ⟨k,hk⟩:∃k:Nat,n=(k:Int):=⟨n.toNat,by omega⟩
    subst hk
    rw [show ((k:Int)).toNat=k by omega,←stg_min rs k]
    have hsl:=stg_len rs (min k (top rs))
    have hcf:=copyFacts_T (stg rs (min k (top rs))) (by omega) (fun x hx=>by have:=(hst _ x hx).2;omega)
    have hat:=stgD_at rs (i:=min k (top rs)) (m:=top rs+1) (by omega)
    have w1:IntKind.i64.wrap ((top rs:Int)+1 - 1)=(top rs:Int):=by rw [wrap_ok (by omega) (by omega)];omega
    have m1:(if (top rs:Int)<(k:Int) then (top rs:Int) else (k:Int))=((min k (top rs):Nat):Int):=by split<;>omega
    have n1:((min k (top rs):Nat):Int)<(top rs:Int)+1:=by omega
    have hdl:=stgD_len rs (top rs+1)
    generalize stg rs (min k (top rs))=R2 at *
    generalize stgD rs (top rs+1)=SD at *
    generalize min k (top rs)=j at *
    refine aE_ Tryz.func11 ?_
    refine rS_ Tryz.func11 ?_
    simp only [go_sem,seval,h0,h1]
    repeat' (first
     | (exact ⟨_,_,rfl⟩)
     | ((first
      | (refine hpr.calls rfl ?_)
      | (refine hss.calls rfl ?_)
      | (refine ACalls.fresh (ds:=[.sl (R2.map fcE)]) (m:=1) hcf [0] rfl rfl (by simp) (by simp) ?_<;>(rintro c H' ⟨rfl,e1,B1,rfl⟩ _;refine ⟨rfl,rfl,?_⟩)))<;>(try simp only [go_sem,seval,h0,h1,w1,m1,n1,hdl,idx_of hat]))
     | fail)
end Go.Proofs.YtlajhmoomlgopaaGreat
namespace Go.Proofs.YtlajhmoomlgopaaGreat
open Go.Abs
set_option maxRecDepth 100000
set_option maxHeartbeats 4000000
set_option linter.unusedSimpArgs false
set_option linter.unusedVariables false
theorem same_fn:∀a b:V,Gives Tryz.prog 129 [.agg a.enc,.agg b.enc] (.d (.bool (decide (a=b)))):=by
 intro a
 induction a with
 | pair x y ihx ihy =>
  intro b
  cases b with
  | pair u v =>
   have hx:=ihx u
   have hy:=ihy v
   rw [show decide (V.pair x y=V.pair u v)=(decide (x=u) && decide (y=v)) from by simp]
   generalize decide (x=u)=p at hx ⊢
   generalize decide (y=v)=q at hy ⊢
   cases p<;>cases q
   all_goals
    refine aE_ Tryz.func129 ?_
    refine rS_ Tryz.func129 ?_
    simp only [go_sem,seval,V.enc_pair]
    repeat' (first
     | (simp (disch:=omega) only [wrap_ok])
     | ((first
      | (refine hx.callQ rfl ?_)
      | (refine hy.callQ rfl ?_)
      | (refine AW.loop ?_<;>(refine rS_ Tryz.func129 ?_))
      | (refine AW.round ?_<;>(refine rS_ Tryz.func129 ?_)))<;>(try simp only [go_sem,seval,V.enc_pair]))
     | fail)
  | _ =>
   rw [show decide _=false from by simp]
   refine aE_ Tryz.func129 ?_
   refine rS_ Tryz.func129 ?_
   simp only [go_sem,seval,V.enc_pair,V.enc_nil,V.enc_var,V.enc_sym,V.enc_num]
 | nil =>
  intro b
  cases b with
  | nil =>
   rw [show decide _=true from by simp]
   refine aE_ Tryz.func129 ?_
   refine rS_ Tryz.func129 ?_
   simp only [go_sem,seval,V.enc_nil]
   repeat' (first
    | ((refine AW.loop ?_<;>(refine rS_ Tryz.func129 ?_))<;>(try simp only [go_sem,seval,V.enc_nil]))
    | fail)
  | _ =>
   rw [show decide _=false from by simp]
   refine aE_ Tryz.func129 ?_
   refine rS_ Tryz.func129 ?_
   simp only [go_sem,seval,V.enc_pair,V.enc_nil,V.enc_var,V.enc_sym,V.enc_num]
 | var n =>
  intro b
  cases b with
  | var m =>
   by_cases e:n=m
   ·subst e
    rw [show decide _=true from by simp]
    refine aE_ Tryz.func129 ?_
    refine rS_ Tryz.func129 ?_
    simp only [go_sem,seval,V.enc_var]
    repeat' (first
     | ((refine AW.loop ?_<;>(refine rS_ Tryz.func129 ?_))<;>(try simp only [go_sem,seval,V.enc_var]))
     | fail)
   ·rw [show decide _=false from by simp [e]]
    refine aE_ Tryz.func129 ?_
    refine rS_ Tryz.func129 ?_
    simp only [go_sem,seval,V.enc_var,e]
    repeat' (first
     | ((refine br_n (fun hq=>?_) (fun hq=>?_))<;>(try simp only [go_sem,seval,V.enc_var,e,hq]))
     | fail)
    all_goals (exfalso;exact e (by assumption))
  | _ =>
   rw [show decide _=false from by simp]
   refine aE_ Tryz.func129 ?_
   refine rS_ Tryz.func129 ?_
   simp only [go_sem,seval,V.enc_pair,V.enc_nil,V.enc_var,V.enc_sym,V.enc_num]
 | num n =>
  intro b
  cases b with
  | num m =>
   by_cases e:n=m
   ·subst e
    rw [show decide _=true from by simp]
    refine aE_ Tryz.func129 ?_
    refine rS_ Tryz.func129 ?_
    simp only [go_sem,seval,V.enc_num]
    repeat' (first
     | ((refine AW.loop ?_<;>(refine rS_ Tryz.func129 ?_))<;>(try simp only [go_sem,seval,V.enc_num]))
     | fail)
   ·rw [show decide _=false from by simp [e]]
    refine aE_ Tryz.func129 ?_
    refine rS_ Tryz.func129 ?_
    simp only [go_sem,seval,V.enc_num,e]
    repeat' (first
     | ((refine br_n (fun hq=>?_) (fun hq=>?_))<;>(try simp only [go_sem,seval,V.enc_num,e,hq]))
     | fail)
    all_goals (exfalso;exact e (by assumption))
  | _ =>
   rw [show decide _=false from by simp]
   refine aE_ Tryz.func129 ?_
   refine rS_ Tryz.func129 ?_
   simp only [go_sem,seval,V.enc_pair,V.enc_nil,V.enc_var,V.enc_sym,V.enc_num]
 | sym n =>
  intro b
  cases b with
  | sym m =>
   by_cases e:n=m
   ·subst e
    rw [show decide _=true from by simp]
    refine aE_ Tryz.func129 ?_
    refine rS_ Tryz.func129 ?_
    simp only [go_sem,seval,V.enc_sym]
    repeat' (first
     | ((refine AW.loop ?_<;>(refine rS_ Tryz.func129 ?_))<;>(try simp only [go_sem,seval,V.enc_sym]))
     | fail)
   ·have e2:(n == m)=false:=by simpa using e
    rw [show decide _=false from by simp [e]]
    refine aE_ Tryz.func129 ?_
    refine rS_ Tryz.func129 ?_
    simp only [go_sem,seval,V.enc_sym,e2]
  | _ =>
   rw [show decide _=false from by simp]
   refine aE_ Tryz.func129 ?_
   refine rS_ Tryz.func129 ?_
   simp only [go_sem,seval,V.enc_pair,V.enc_nil,V.enc_var,V.enc_sym,V.enc_num]
theorem list_fn (a b:List V):Gives Tryz.prog 84 [.sl (a.map V.enc),.sl (b.map V.enc)] (.d (.bool (decide (a=b)))):=by
 have hmap:∀x:List V,(x.map V.enc).length=x.length:=fun x=>List.length_map _
 by_cases hl:a.length=b.length
 ·have n1:(a.length:Int)=(b.length:Int):=by omega
  refine aE_ Tryz.func84 ?_
  refine rS_ Tryz.func84 ?_
  simp only [go_sem,seval,hmap,n1]
  refine AW.rng a [1,12,13] 14 12 (fun _:List V=>[]) (fun H _=>H) (fun r s=>b.drop (a.length - r.length)=s∧s.length=r.length∧r.length≤a.length∧decide (a=b)=decide (r=s)) b rfl (by simp) ⟨by simp,hl.symm,Nat.le_refl _,rfl⟩ wk3_ (fun i x r s hxi hdr hlt hm hinv hnext=>?_) (fun s hinv=>?_)
  ·obtain ⟨i1,i2,i3,i4⟩:=hinv
   obtain ⟨y,t,rfl⟩:∃y t,s=y :: t:=by
    cases s with
    | nil=>simp at i2
    | cons y t=>exact ⟨y,t,rfl⟩
   simp only [List.length_cons] at i1 i2 i3
   have hil:i=a.length - (r.length+1):=by
    have:=congrArg List.length hdr
    simp only [List.length_drop,List.length_cons] at this
    omega
   have hyi:b[i]? = some y∧b.drop (i+1)=t:=by
    rw [←hil] at i1
    have hib:i<b.length:=by omega
    rw [List.drop_eq_getElem_cons hib] at i1
    exact ⟨by rw [List.getElem?_eq_getElem hib,(List.cons.inj i1).1],(List.cons.inj i1).2⟩
   have hyb:(b.map V.enc)[i]? = some y.enc:=by rw [List.getElem?_map,hyi.1];rfl
   have hlt2:(i:Int)<(b.length:Int):=by omega
   have hs:=same_fn x y
   by_cases e:x=y
   ·subst e
    rw [show decide (x=x)=true from by simp] at hs
    refine rS_ Tryz.func84 ?_
    simp only [go_sem,seval,hmap,hlt,hlt2,idx_of hxi,idx_of hyi.1]
    repeat' (first
     | (simp (disch:=omega) only [wrap_ok])
     | (refine hnext t _ ⟨by rw [show a.length - r.length=i+1 by omega];exact hyi.2,by omega,by omega,by rw [i4];simp⟩ wk3_)
     | ((refine hs.callQ rfl ?_)<;>(try simp only [go_sem,seval,hmap,hlt,hlt2,idx_of hxi,idx_of hyi.1]))
     | fail)
   ·rw [show decide (x=y)=false from by simp [e]] at hs
    rw [i4,show decide (x :: r=y :: t)=false from by simp [e]]
    refine rS_ Tryz.func84 ?_
    simp only [go_sem,seval,hmap,hlt,hlt2,idx_of hxi,idx_of hyi.1]
    repeat' (first
     | ((refine hs.callQ rfl ?_)<;>(try simp only [go_sem,seval,hmap,hlt,hlt2,idx_of hxi,idx_of hyi.1]))
     | fail)
  ·obtain ⟨i1,i2,i3,i4⟩:=hinv
   obtain rfl:s=[]:=by cases s with
    | nil=>rfl
    | cons y t=>simp at i2
   rw [i4]
   refine rS_ Tryz.func84 ?_
   simp only [go_sem,seval,hmap,n1]
 ·have n1:¬(a.length:Int)=(b.length:Int):=by omega
  rw [show decide (a=b)=false from by simp;exact fun e=>hl (by rw [e])]
  refine aE_ Tryz.func84 ?_
  refine rS_ Tryz.func84 ?_
  simp only [go_sem,seval,hmap,n1]
  repeat' (first
   | ((refine br_n (fun hq=>?_) (fun hq=>?_))<;>(try simp only [go_sem,seval,hmap,n1,hq]))
   | fail)
  all_goals (exfalso;omega)
end Go.Proofs.YtlajhmoomlgopaaGreat
namespace Go.Proofs.YtlajhmoomlgopaaGreat
open Go.Abs
set_option maxRecDepth 100000
set_option maxHeartbeats 8000000
set_option linter.unusedSimpArgs false
set_option linter.unusedVariables false
theorem factL_fn (a b:FcV):Gives Tryz.prog 45 [.agg (fcE a),.agg (fcE b)] (.d (.bool (decide (a=b)))):=by
 have hl:=list_fn a.2 b.2
 rw [fcE_eq,fcE_eq]
 by_cases e:a.1=b.1
 ·rw [show decide (a=b)=decide (a.2=b.2) from by rw [Bool.eq_iff_iff,decide_eq_true_eq,decide_eq_true_eq];exact ⟨fun h=>by rw [h],fun h=>Prod.ext e h⟩]
  refine aE_ Tryz.func45 ?_
  refine rS_ Tryz.func45 ?_
  simp only [go_sem,seval,e]
  repeat' (first
   | ((refine (list_fn _ _).calls rfl ?_)<;>(try simp only [go_sem,seval,e]))
   | fail)
 ·rw [show decide (a=b)=false from decide_eq_false fun h=>e (by rw [h])]
  have e2:(a.1 == b.1)=false:=by simpa using e
  refine aE_ Tryz.func45 ?_
  refine rS_ Tryz.func45 ?_
  simp only [go_sem,seval,e,e2]
theorem factLV_fn (a b:FcV):Gives Tryz.prog 45 [.agg [.str a.1,.sl (a.2.map V.enc)],.agg [.str b.1,.sl (b.2.map V.enc)]] (.d (.bool (decide (a=b)))):=by
 have h:=factL_fn a b
 rw [fcE_eq,fcE_eq] at h;exact h
theorem inL_fn (l:List FcV) (f:FcV):Gives Tryz.prog 14 [.sl (l.map fcE),.agg (fcE f)] (.d (.bool (decide (f∈l)))):=by
 obtain ⟨K,hK⟩:∃K,decide (f∈l)=K:=⟨_,rfl⟩
 rw [hK,fcE_eq]
 refine aE_ Tryz.func14 ?_
 refine rS_ Tryz.func14 ?_
 simp only [go_sem,seval]
 refine AW.rng l [3,7,8] 9 7 (fun _:Unit=>[]) (fun H _=>H) (fun r _=>decide (f∈r)=K) () rfl (by simp) hK wk1_ (fun j y q b hyj hdr2 hlt2 hm2 hinv2 hnext2=>?_) (fun b hinv2=>?_)
 ·have he:=factLV_fn y f
  by_cases hc:y=f
  ·rw [decide_eq_true hc] at he
   subst hc
   simp only [List.mem_cons,true_or,decide_true] at hinv2
   rw [←hinv2]
   refine rS_ Tryz.func14 ?_
   simp only [go_sem,seval,hlt2,idx_of hyj,fcE_eq]
   repeat' (first
    | ((refine he.calls rfl ?_)<;>(try simp only [go_sem,seval,hlt2,idx_of hyj,fcE_eq]))
    | fail)
  ·have hyf:¬f=y:=fun e=>hc e.symm
   rw [decide_eq_false hc] at he
   simp only [List.mem_cons,hyf,false_or] at hinv2
   refine rS_ Tryz.func14 ?_
   simp only [go_sem,seval,hlt2,idx_of hyj,fcE_eq]
   repeat' (first
    | (simp (disch:=omega) only [wrap_ok])
    | (refine hnext2 () _ hinv2 wk1_)
    | ((refine he.calls rfl ?_)<;>(try simp only [go_sem,seval,hlt2,idx_of hyj,fcE_eq]))
    | fail)
 ·simp only [List.not_mem_nil,decide_false] at hinv2
  rw [←hinv2]
  refine rS_ Tryz.func14 ?_
  simp only [go_sem,seval]
theorem withinL_fn (a b:List FcV):Gives Tryz.prog 15 [.sl (a.map fcE),.sl (b.map fcE)] (.d (.bool (a.all fun f=>decide (f∈b)))):=by
 obtain ⟨K,hK⟩:∃K,(a.all fun f=>decide (f∈b))=K:=⟨_,rfl⟩
 rw [hK]
 refine aE_ Tryz.func15 ?_
 refine rS_ Tryz.func15 ?_
 simp only [go_sem,seval]
 refine AW.rng a [1,7,8] 9 7 (fun _:Unit=>[]) (fun H _=>H) (fun r _=>(r.all fun f=>decide (f∈b))=K) () rfl (by simp) hK wk1_ (fun j y q u hyj hdr2 hlt2 hm2 hinv2 hnext2=>?_) (fun u hinv2=>?_)
 ·have he:=inL_fn b y
  rw [fcE_eq] at he
  rw [List.all_cons] at hinv2
  cases hc:decide (y∈b) with
  | true =>
   rw [hc,Bool.true_and] at hinv2
   rw [hc] at he
   refine rS_ Tryz.func15 ?_
   simp only [go_sem,seval,hlt2,idx_of hyj,fcE_eq]
   repeat' (first
    | (simp (disch:=omega) only [wrap_ok])
    | (refine hnext2 () _ hinv2 wk1_)
    | ((refine he.calls rfl ?_)<;>(try simp only [go_sem,seval,hlt2,idx_of hyj,fcE_eq]))
    | fail)
  | false =>
   rw [hc,Bool.false_and] at hinv2
   rw [hc] at he
   rw [←hinv2]
   refine rS_ Tryz.func15 ?_
   simp only [go_sem,seval,hlt2,idx_of hyj,fcE_eq]
   repeat' (first
    | ((refine he.calls rfl ?_)<;>(try simp only [go_sem,seval,hlt2,idx_of hyj,fcE_eq]))
    | fail)
 ·rw [List.all_nil] at hinv2
  rw [←hinv2]
  refine rS_ Tryz.func15 ?_
  simp only [go_sem,seval]
end Go.Proofs.YtlajhmoomlgopaaGreat
namespace Go.Proofs.YtlajhmoomlgopaaGreat
open Go.Abs
set_option maxRecDepth 100000
set_option maxHeartbeats 8000000
set_option linter.unusedSimpArgs false
set_option linter.unusedVariables false
def lmR (o:Option (List RV)) (c:C) (H:List O):Prop:=match o with
 | some rs=>c=.tup [.own 0 1,.d (.int .i64 (top rs:Int)),.d (.bool true)]∧∃e B,H=[.tree 1 2 e ((stg rs (top rs)).map fcE) B none]
 | none=>c=.tup [.d (.sl []),.d (.int .i64 0),.d (.bool false)]∧H=[.hole]
theorem iLeastModel_T (p:Pg) (u:List Tm) (hw:wtL p.enc≤1048576) (hwu:wtR (u.map Tm.enc)≤1048576):ACalls Tryz.prog 10 [.d (.agg p.enc),.d (.sl (u.map Tm.enc))] [.hole] (lmR (posO p u)):=by
 have hmx:maxLen=9223372036854775807:=rfl
 have hpr:=positiveRules_fn p u hw (mem_wtR hwu).1 (mem_wtR hwu).2
 cases hg:posO p u with
 | none =>
  unfold lmR;dsimp only
  rw [hg,grC_none] at hpr
  refine aE_ Tryz.func10 ?_
  refine rS_ Tryz.func10 ?_
  simp only [go_sem,seval]
  repeat' (first
   | ((refine hpr.calls rfl ?_)<;>(try simp only [go_sem,seval]))
   | fail)
 | some rs =>
  unfold lmR;dsimp only
  rw [hg,grC_some] at hpr
  obtain ⟨hrl,hpo,hst⟩:=posO_some hg
  have hss:=stages_fn rs (by omega) hpo
  have ht:=(top_spec rs).1
  have hsl:=stg_len rs (top rs)
  have hcf:=copyFacts_T (stg rs (top rs)) (by omega) (fun x hx=>by have:=(hst _ x hx).2;omega)
  have hat:=stgD_at rs (i:=top rs) (m:=top rs+1) (by omega)
  have w1:IntKind.i64.wrap ((top rs:Int)+1 - 1)=(top rs:Int):=by rw [wrap_ok (by omega) (by omega)];omega
  have n1:(top rs:Int)<(top rs:Int)+1:=by omega
  have hdl:=stgD_len rs (top rs+1)
  generalize stg rs (top rs)=R2 at *
  generalize stgD rs (top rs+1)=SD at *
  generalize top rs=j at *
  refine aE_ Tryz.func10 ?_
  refine rS_ Tryz.func10 ?_
  simp only [go_sem,seval]
  repeat' (first
   | (exact ⟨_,_,rfl⟩)
   | ((first
    | (refine hpr.calls rfl ?_)
    | (refine hss.calls rfl ?_)
    | (refine ACalls.fresh (ds:=[.sl (R2.map fcE)]) (m:=1) hcf [0] rfl rfl (by simp) (by simp) ?_<;>(rintro c H' ⟨rfl,e1,B1,rfl⟩ _;refine ⟨rfl,rfl,?_⟩)))<;>(try simp only [go_sem,seval,w1,n1,hdl,idx_of hat]))
   | fail)
end Go.Proofs.YtlajhmoomlgopaaGreat
namespace Go.Proofs.YtlajhmoomlgopaaGreat
open Go.Abs
set_option maxRecDepth 100000
set_option maxHeartbeats 8000000
set_option linter.unusedSimpArgs false
set_option linter.unusedVariables false
theorem V_tmV {v:V} (h:v.ok=true):v.tm.V=v:=by
 unfold V.ok at h
 rw [Bool.and_eq_true] at h
 simp [Tm.V,V.v?_tm v h.1]
theorem tmsV {u:List V} (h:∀v,v∈u→v.ok=true):(u.map V.tm).map Tm.V=u:=by
 rw [List.map_map]
 conv=>rhs;rw [←List.map_id u]
 exact List.map_congr_left fun v hv=>V_tmV (h v hv)
theorem ground_tm {v:V} (h:v.ok=true) (hg:v.vars=[]):v.tm.ground=true:=by
 unfold Tm.ground
 rw [tmOk_V,h,V.vars_tm,hg];rfl
theorem uniL_to:∀(u:List V) (p:Option V),ascC V.cmp u→(∀v,v∈u→v.ok=true∧v.vars=[])→(∀q,p=some q→∀v,v∈u→q.cmp v<0)→uniL p (u.map V.tm)=true
 | [],_,_,_,_=>rfl
 | v :: r,p,ha,ho,hp=>by
  obtain ⟨h1,h2⟩:=List.pairwise_cons.1 ha
  obtain ⟨o1,o2⟩:=ho v (by simp)
  simp only [List.map_cons,uniL,ground_tm o1 o2,V_tmV o1,Bool.true_and,Bool.and_eq_true]
  refine ⟨?_,uniL_to r (some v) h2 (fun x hx=>ho x (by simp [hx])) (fun q hq x hx=>by cases hq;exact h1 x hx)⟩
  cases p with
  | none=>rfl
  | some q=>exact decide_eq_true (hp q rfl v (by simp))
theorem uni_to {u:List V} (h:Uni u):uniOk (u.map V.tm)=true:=by
 unfold uniOk
 rw [uniL_to u none h.asc (fun v hv=>⟨h.ok v hv,h.gr v hv⟩) (fun q hq=>by cases hq),List.length_map,decide_eq_true h.pos,decide_eq_true h.le];rfl
structure Made (p:Pg) (u:List V):Prop where
 ok:pgOk p=true
 wt:wtL p.enc≤60000
 gr:p.gr u=some (Pg.gnd u p.rels)
 uni:Uni u
 uw:∀v,v∈u→wtL v.enc≤112
theorem Made.of {p:Pg} {u:List V} {m:Int} (hf:p.fine m) (hg:Pg.gszL p.rels≤2000) (hu:Uni u) (hl:u.length≤2) (hd:∀v,v∈u→drawn 7 0 v):Made p u:=
 ⟨hf.ok,hf.wt,Pg.gr_small hf.ok (fun r hr=>by have:=hf.cls r hr;omega) hl hg,hu,fun v hv=>(drawn_tm (hd v hv)).2.1⟩
section
variable {p:Pg} {u:List V}
theorem Made.wu (h:Made p u):wtR ((u.map V.tm).map Tm.enc)≤1048576:=by
 rw [enc_tms]
 have key:∀l:List V,(∀v,v∈l→wtL v.enc≤112)→wtR (l.map V.enc)≤113 * l.length:=fun l=>by
  induction l with
  | nil=>intro _;simp [wtR]
  | cons v r ih =>
   intro hv
   have h1:=ih (fun x hx=>hv x (by simp [hx]))
   have h2:=hv v (by simp)
   simp only [List.map_cons,wtR,List.length_cons];omega
 have:=key u h.uw
 have:=h.uni.le
 omega
theorem Made.mem (h:Made p u):∀t,t∈u.map V.tm→wtL t.enc≤1048576:=(mem_wtR h.wu).1
theorem Made.wp (h:Made p u):wtL p.enc≤1048576:=by have:=h.wt;omega
theorem Made.head (h:Made p u) {F G:List FcV} {f:FcV} (hf:f∈nextF (Pg.gnd u p.rels) F G):f.fc.args.all tmOk=true∧p.factFits f.fc=true∧Fc.toV f.fc=f∧wtL (fcE f)+1≤500:=by
 obtain ⟨r,h1,_,h3⟩:=nextF_mem.1 hf
 obtain ⟨x,hx,c,_,j,w,_,rfl⟩:=gnd_mem _ h1
 obtain ⟨z1,z2,z3,z4⟩:=Pg.dims h.ok hx
 obtain ⟨i,hi⟩:=List.getElem?_of_mem hx
 have hfs:=find_self h.ok hi
 have hvl:=gVals_len u (x.arity+x.locals).toNat w
 have hvm:=gVals_mem h.uni.pos (x.arity+x.locals).toNat w
 have e1:x.name=f.1:=congrArg Prod.fst h3
 have e2:(gVals u (x.arity+x.locals).toNat w).take x.arity.toNat=f.2:=congrArg Prod.snd h3
 have hm:∀v,v∈f.2→v∈u:=fun v hv=>by rw [←e2] at hv;exact hvm v (List.mem_of_mem_take hv)
 have hfl:f.2.length=x.arity.toNat:=by rw [←e2,List.length_take,hvl];omega
 have e3:p.find f.1=(i:Int):=by rw [←e1];exact hfs
 refine ⟨List.all_eq_true.2 fun t ht=>?_,?_,Prod.ext rfl (tmsV fun v hv=>h.uni.ok v (hm v hv)),?_⟩
 ·obtain ⟨v,hv,rfl⟩:=List.mem_map.1 ht
  rw [tmOk_V];exact h.uni.ok v (hm v hv)
 ·rw [Pg.factFits_at (f:=f.fc) (r:=x) (by show 0≤p.find f.1;rw [e3];omega) (by show p.rels[(p.find f.1).toNat]? = some x;rw [e3];simpa using hi),Bool.and_eq_true,decide_eq_true_eq,List.all_eq_true]
  refine ⟨by show x.arity=((f.2.map V.tm).length:Int);rw [List.length_map];omega,fun t ht=>?_⟩
  obtain ⟨v,hv,rfl⟩:=List.mem_map.1 ht
  exact ground_tm (h.uni.ok v (hm v hv)) (h.uni.gr v (hm v hv))
 ·have hn:f.1.length≤12:=by
   have h0:=h.ok
   unfold pgOk at h0
   rw [Bool.and_eq_true] at h0
   obtain ⟨k,hk⟩:=okL_mem h0.2 x hx
   unfold Pg.relOk at hk
   simp only [Bool.and_eq_true] at hk
   have hr:isRel x.name=true:=by simp only [decide_eq_true_eq] at hk;exact hk.1.1.1.1.1.1.2
   unfold isRel at hr
   rw [Bool.and_eq_true] at hr
   rw [←e1];exact (isName_len hr.2).2
  have key:∀l:List V,(∀v,v∈l→wtL v.enc≤112)→wtR (l.map V.enc)≤113 * l.length:=fun l=>by
   induction l with
   | nil=>intro _;simp [wtR]
   | cons v r ih =>
    intro hv
    have h1:=ih (fun x hx=>hv x (by simp [hx]))
    have h2:=hv v (by simp)
    simp only [List.map_cons,wtR,List.length_cons];omega
  have h5:=key f.2 fun v hv=>h.uw v (hm v hv)
  rw [fcE_eq]
  simp only [wtL,D.wt];omega
theorem Made.next (h:Made p u) (F G:List FcV):((nextF (Pg.gnd u p.rels) F G).map FcV.fc).all p.factFits=true∧((nextF (Pg.gnd u p.rels) F G).map FcV.fc).map Fc.toV=nextF (Pg.gnd u p.rels) F G∧wtR ((nextF (Pg.gnd u p.rels) F G).map fcE)≤1048576:=by
 have hl:=nextF_len (Pg.gnd u p.rels) F G
 have hr:=(gr_mem h.gr).2
 refine ⟨List.all_eq_true.2 fun x hx=>?_,?_,?_⟩
 ·obtain ⟨f,hf,rfl⟩:=List.mem_map.1 hx
  exact (h.head hf).2.1
 ·rw [List.map_map]
  conv=>rhs;rw [←List.map_id (nextF (Pg.gnd u p.rels) F G)]
  exact List.map_congr_left fun f hf=>(h.head hf).2.2.1
 ·have key:∀l:List FcV,(∀f,f∈l→wtL (fcE f)+1≤500)→wtR (l.map fcE)≤500 * l.length:=fun l=>by
   induction l with
   | nil=>intro _;simp [wtR]
   | cons v r ih =>
    intro hv
    have h1:=ih (fun x hx=>hv x (by simp [hx]))
    have h2:=hv v (by simp)
    simp only [List.map_cons,wtR,List.length_cons];omega
  have:=key (nextF (Pg.gnd u p.rels) F G) fun f hf=>(h.head hf).2.2.2
  omega
theorem stg_all (h:Made p u) (k:Nat):((stg (Pg.gnd u p.rels) k).map FcV.fc).all p.factFits=true∧((stg (Pg.gnd u p.rels) k).map FcV.fc).map Fc.toV=stg (Pg.gnd u p.rels) k∧wtR ((stg (Pg.gnd u p.rels) k).map fcE)≤1048576:=by
 cases k with
 | zero=>exact ⟨rfl,rfl,by simp [stg,wtR]⟩
 | succ k=>exact h.next _ _
theorem posO_made (h:Made p u) (ha:p.all false=true):posO p (u.map V.tm)=some (Pg.gnd u p.rels):=by
 unfold posO
 rw [if_pos ⟨ha,uni_to h.uni⟩,tmsV h.uni.ok,h.gr]
theorem fcEs (F:List FcV):(F.map FcV.fc).map Fc.enc=F.map fcE:=by rw [List.map_map];rfl
theorem csq_made (h:Made p u) {F:List FcV} (h1:(F.map FcV.fc).all p.factFits=true) (h2:(F.map FcV.fc).map Fc.toV=F):Pg.csq p (u.map V.tm) (F.map FcV.fc)=some (nextF (Pg.gnd u p.rels) F F):=by
 unfold Pg.csq
 rw [if_pos ⟨h.ok,uni_to h.uni,h1⟩,tmsV h.uni.ok,h.gr,h2];rfl
theorem pos_made (h:Made p u) (ha:p.all false=true):∀r,r∈Pg.gnd u p.rels→r.neg=[]:=pos_gnd ha h.gr
end
theorem stgM_fn {p:Pg} {u:List V} (h:Made p u) (ha:p.all false=true) (n:Nat) (hn:n≤100):Gives Tryz.prog 11 [.agg p.enc,.sl (u.map V.enc),.int .i64 n] (.tup [.d (.sl ((stg (Pg.gnd u p.rels) n).map fcE)),.d (.bool true)]):=by
 have hs:Pg.stgF p (u.map V.tm) n=some (stg (Pg.gnd u p.rels) n):=by
  unfold Pg.stgF
  rw [if_pos ⟨by omega,by omega⟩,posO_made h ha];rfl
 have h1:=iStageFacts_T p (u.map V.tm) n h.wp h.wu
 rw [hs,enc_tms] at h1
 refine ACalls.frozen (ds:=[.agg p.enc,.sl (u.map V.enc),.int .i64 n]) (m:=1) h1 (fun c H' hh _=>?_)
 obtain ⟨h1,e,B,h2⟩:=hh
 subst h1 h2;rfl
theorem lmM_fn {p:Pg} {u:List V} (h:Made p u) (ha:p.all false=true):Gives Tryz.prog 10 [.agg p.enc,.sl (u.map V.enc)] (.tup [.d (.sl ((stg (Pg.gnd u p.rels) (top (Pg.gnd u p.rels))).map fcE)),.d (.int .i64 (top (Pg.gnd u p.rels):Nat)),.d (.bool true)]):=by
 have h1:=iLeastModel_T p (u.map V.tm) h.wp h.wu
 rw [posO_made h ha,enc_tms] at h1
 refine ACalls.frozen (ds:=[.agg p.enc,.sl (u.map V.enc)]) (m:=1) h1 (fun c H' hh _=>?_)
 obtain ⟨h1,e,B,h2⟩:=hh
 subst h1 h2;rfl
theorem csM_fn {p:Pg} {u:List V} (h:Made p u) {F:List FcV} (h1:(F.map FcV.fc).all p.factFits=true) (h2:(F.map FcV.fc).map Fc.toV=F) (h3:wtR (F.map fcE)≤1048576):Gives Tryz.prog 12 [.agg p.enc,.sl (u.map V.enc),.sl (F.map fcE)] (.tup [.d (.sl ((nextF (Pg.gnd u p.rels) F F).map fcE)),.d (.bool true)]):=by
 have hc:=iConsequences_D p (u.map V.tm) (F.map FcV.fc) h.wp h.mem (by rw [List.length_map];have:=h.uni.le;omega) (by rw [fcEs];exact h3)
 rw [csq_made h h1 h2,enc_tms,fcEs] at hc
 exact hc
theorem imM_fn {p:Pg} {u:List V} (h:Made p u) (ha:p.all false=true):Gives Tryz.prog 16 [.agg p.enc,.sl (u.map V.enc),.sl ((stg (Pg.gnd u p.rels) (top (Pg.gnd u p.rels))).map fcE)] (.d (.bool true)):=by
 obtain ⟨h1,h2,h3⟩:=stg_all h (top (Pg.gnd u p.rels))
 have hc:=iIsModel_fn p (u.map V.tm) ((stg (Pg.gnd u p.rels) (top (Pg.gnd u p.rels))).map FcV.fc) h.wp h.mem (by rw [List.length_map];have:=h.uni.le;omega) (by rw [fcEs];exact h3)
 have hm:Pg.model p (u.map V.tm) ((stg (Pg.gnd u p.rels) (top (Pg.gnd u p.rels))).map FcV.fc)=true:=by
  unfold Pg.model
  rw [csq_made h h1 h2,h2,nextF_stg (pos_made h ha),(top_spec _).2.1]
  exact List.all_eq_true.2 fun f hf=>decide_eq_true hf
 rw [hm,enc_tms,fcEs] at hc
 exact hc
theorem fhM_fn {p:Pg} {u:List V} (h:Made p u) (ha:p.all false=true) {k:Nat} {f:FcV} (hf:f∈stg (Pg.gnd u p.rels) k):Gives Tryz.prog 13 [.agg p.enc,.sl (u.map V.enc),.agg (fcE f)] (.d (.int .i64 (hgt (Pg.gnd u p.rels) f))):=by
 obtain ⟨k,rfl⟩:∃k',k=k'+1:=by
  cases k with
  | zero=>simp [stg] at hf
  | succ k=>exact ⟨k,rfl⟩
 obtain ⟨h1,h2,h3,h4⟩:=h.head hf
 have hc:=iFactHeight_fn p (u.map V.tm) f.fc h.wp h.wu (by have:wtL f.fc.enc=wtL (fcE f):=rfl;omega)
 have hh:Pg.hgtF p (u.map V.tm) f.fc=hgt (Pg.gnd u p.rels) f:=by
  unfold Pg.hgtF
  rw [if_pos ⟨ha,uni_to h.uni,h1⟩,tmsV h.uni.ok,h.gr,h3]
 rw [hh,enc_tms] at hc
 exact hc
end Go.Proofs.YtlajhmoomlgopaaGreat
