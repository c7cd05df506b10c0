import Derived.Test.YtockpdkdnlkkfaaGreatW112
namespace Go.Proofs.YtockpdkdnlkkfaaGreat
open Go.Abs
set_option maxRecDepth 100000
set_option maxHeartbeats 8000000
set_option linter.unusedSimpArgs false
set_option linter.unusedVariables false
theorem l19FactsOk_fn (p:Pg) (fs:List Fc) (hw:wtL p.enc≤1048576) (hwf:wtR (fs.map Fc.enc)≤1048576):Gives Tryz.prog 51 [.agg p.enc,.sl (fs.map Fc.enc)] (.d (.bool (fs.all fun f=>pgOk p && p.factFits f))):=by
 obtain ⟨K,hK⟩:∃K,(fs.all fun f=>pgOk p && p.factFits f)=K:=⟨_,rfl⟩
 rw [hK]
 refine ACalls.enter (fn:=Tryz.f51) Tryz.func51 rfl (by show 2≤_;decide) ?_
 refine run_sound Tryz.func51 mixed 200 _ _ (by kernel_rfl) ?_
 simp only [go_sem,seval]
 refine AW.rng fs [2,7,8] 9 7 (fun _:Unit=>[]) (fun H _=>H) (fun q _=>(q.all fun f=>pgOk p && p.factFits f)=K) () rfl (by simp) hK (by refine ⟨by simp [mkS],by simp [mkS],by simp only [mkS,List.all_cons,List.all_nil,O.refsLt,C.refsLt,C.refsLt1,all_dmap];first | done | rfl | (simp;done),?_⟩;simp [mkS,Abs.get,C.refsLtT,C.refsLt,C.refsLt1]) (fun j f q b hyj hdr2 hlt2 hm2 hinv2 hnext2=>?_) (fun b hinv2=>?_)
 ·have hfm:=List.mem_of_getElem? hyj
  have hff:=sFactOk_fn p f hw (Nat.le_trans (wtR_mem (List.mem_map.2 ⟨f,hfm,rfl⟩)) hwf)
  rw [Fc.enc_eq] at hff
  rw [List.all_cons] at hinv2
  generalize (pgOk p && p.factFits f)=b2 at hff hinv2
  cases b2 with
  | true =>
   rw [Bool.true_and] at hinv2
   refine run_sound Tryz.func51 mixed 200 _ _ (by kernel_rfl) ?_
   simp only [go_sem,seval,hlt2,idx_of hyj,Fc.enc_eq]
   repeat' (first
    | (simp (disch:=omega) only [wrap_ok])
    | (refine hnext2 () _ hinv2 (by refine ⟨by simp [mkS],by simp [mkS],by simp only [mkS,List.all_cons,List.all_nil,O.refsLt,C.refsLt,C.refsLt1,all_dmap];first | done | rfl | (simp;done),?_⟩;simp [mkS,Abs.get,C.refsLtT,C.refsLt,C.refsLt1]))
    | ((refine hff.calls rfl ?_)<;>(try simp only [go_sem,seval,hlt2,idx_of hyj,Fc.enc_eq]))
    | fail)
  | false =>
   rw [Bool.false_and] at hinv2
   rw [←hinv2]
   refine run_sound Tryz.func51 mixed 200 _ _ (by kernel_rfl) ?_
   simp only [go_sem,seval,hlt2,idx_of hyj,Fc.enc_eq]
   repeat' (first
    | ((refine hff.calls rfl ?_)<;>(try simp only [go_sem,seval,hlt2,idx_of hyj,Fc.enc_eq]))
    | fail)
 ·rw [List.all_nil] at hinv2
  rw [←hinv2]
  refine run_sound Tryz.func51 mixed 200 _ _ (by kernel_rfl) ?_
  simp only [go_sem,seval]
theorem factsOk_all {p:Pg} (h:pgOk p=true) (fs:List Fc):(fs.all fun f=>pgOk p && p.factFits f)=fs.all p.factFits:=by
 rw [h];simp only [Bool.true_and]
theorem oksU_wt {u:List V} (hu:Uni u) {l:List FcV} (h:∀f,f∈l→(∀v,v∈f.2→v∈u)∧f.2.length≤12):∀f,f∈l→wtR (f.2.map V.enc)≤2000000:=fun f hf=>uniwts hu f.2 (h f hf).1 (h f hf).2
theorem sConsequences_D (p:Pg) (u:List Tm) (fs:List Fc) (hw:wtL p.enc≤1048576) (hwu:∀t,t∈u→wtL t.enc≤1048576) (hlu:u.length≤9000000) (hwf:wtR (fs.map Fc.enc)≤1048576):Gives Tryz.prog 24 [.agg p.enc,.sl (u.map Tm.enc),.sl (fs.map Fc.enc)] (csC (Pg.csq p u fs)):=by
 have hmx:maxLen=9223372036854775807:=rfl
 have hgr:=sGroundRules_fn p u hw hwu hlu
 have hfo:=l19FactsOk_fn p fs hw hwf
 have hfl:fs.length≤1048576:=by have:=wtR_len (fs.map Fc.enc);simp at this;omega
 obtain ⟨RES,hRES⟩:∃RES,csC (Pg.csq p u fs)=RES:=⟨_,rfl⟩
 rw [hRES]
 unfold Pg.csq at hRES
 by_cases h12:pgOk p=true∧uniOk u=true
 ·rw [factsOk_all h12.1] at hfo
  unfold Pg.grO at hgr
  rw [if_pos h12] at hgr
  cases hg:p.gr (u.map Tm.V) with
  | none =>
   rw [hg,grC_none] at hgr
   rw [show (if pgOk p=true∧uniOk u=true∧fs.all p.factFits=true then (p.gr (u.map Tm.V)).map (fun rs=>nextF rs (fs.map Fc.toV) (fs.map Fc.toV)) else none)=none from by rw [hg];simp,csC_none] at hRES
   rw [←hRES]
   refine ACalls.enter (fn:=Tryz.f24) Tryz.func24 rfl (by show 3≤_;decide) ?_
   refine run_sound Tryz.func24 mixed 200 _ _ (by kernel_rfl) ?_
   simp only [go_sem,seval]
   repeat' (first
    | ((refine hgr.calls rfl ?_)<;>(try simp only [go_sem,seval]))
    | fail)
  | some rs =>
   rw [hg,grC_some] at hgr
   cases hq:fs.all p.factFits with
   | false =>
    rw [hq] at hfo
    rw [hq,if_neg (fun h=>by cases h.2.2),csC_none] at hRES
    rw [←hRES]
    refine ACalls.enter (fn:=Tryz.f24) Tryz.func24 rfl (by show 3≤_;decide) ?_
    refine run_sound Tryz.func24 mixed 200 _ _ (by kernel_rfl) ?_
    simp only [go_sem,seval]
    repeat' (first
     | ((first
      | (refine hgr.calls rfl ?_)
      | (refine hfo.calls rfl ?_))<;>(try simp only [go_sem,seval]))
     | fail)
   | true =>
    rw [hq] at hfo
    rw [if_pos ⟨h12.1,h12.2,hq⟩,hg,Option.map_some,csC_some] at hRES
    obtain ⟨hu,he⟩:=Uni.of h12.2
    have hfe:=fits_Vs hq
    obtain ⟨_,hrl⟩:=gr_mem hg
    have hfl2:(fs.map Fc.toV).length≤1048576:=by rw [List.length_map];exact hfl
    rw [hfe] at hfo ⊢
    generalize fs.map Fc.toV=F at *
    have hnh:=next_head h12.1 hu hg F F
    have hcq:=l19Next_fn rs F F (by omega) (by omega) (by omega)
    have hnl:=nextF_len rs F F
    have hcf:=l18Copy_V (nextF rs F F) (by omega) (oksU_wt hu hnh)
    generalize nextF rs F F=R2 at *
    rw [←hRES]
    refine ACalls.enter (fn:=Tryz.f24) Tryz.func24 rfl (by show 3≤_;decide) ?_
    refine run_sound Tryz.func24 mixed 200 _ _ (by kernel_rfl) ?_
    simp only [go_sem,seval]
    repeat' (first
     | ((first
      | (refine hgr.calls rfl ?_)
      | (refine hfo.calls rfl ?_)
      | (refine hcq.calls rfl ?_)
      | (refine hcf.calls rfl ?_))<;>(try simp only [go_sem,seval]))
     | fail)
 ·have hno:Pg.grO p u=none:=by unfold Pg.grO;rw [if_neg h12]
  rw [hno,grC_none] at hgr
  rw [if_neg (fun h=>h12 ⟨h.1,h.2.1⟩),csC_none] at hRES
  rw [←hRES]
  refine ACalls.enter (fn:=Tryz.f24) Tryz.func24 rfl (by show 3≤_;decide) ?_
  refine run_sound Tryz.func24 mixed 200 _ _ (by kernel_rfl) ?_
  simp only [go_sem,seval]
  repeat' (first
   | ((refine hgr.calls rfl ?_)<;>(try simp only [go_sem,seval]))
   | fail)
def Pg.model (p:Pg) (u:List Tm) (fs:List Fc):Bool:=match Pg.csq p u fs with | some l=>l.all fun f=>decide (f∈fs.map Fc.toV) | none=>false
theorem csq_fits {p:Pg} {u:List Tm} {fs:List Fc} {l:List FcV} (h:Pg.csq p u fs=some l):fs.all p.factFits=true∧l.length≤2000:=by
 unfold Pg.csq at h
 split at h
 ·rename_i h2
  refine ⟨h2.2.2,?_⟩
  cases hg:p.gr (u.map Tm.V) with
  | none=>rw [hg] at h;cases h
  | some rs =>
   rw [hg] at h
   obtain rfl:=Option.some.inj h
   have:=nextF_len rs (fs.map Fc.toV) (fs.map Fc.toV)
   have:=(gr_mem hg).2
   show (nextF rs (fs.map Fc.toV) (fs.map Fc.toV)).length≤2000
   omega
 ·cases h
theorem iIsModel_fn (p:Pg) (u:List Tm) (fs:List Fc) (hw:wtL p.enc≤1048576) (hwu:∀t,t∈u→wtL t.enc≤1048576) (hlu:u.length≤9000000) (hwf:wtR (fs.map Fc.enc)≤1048576):Gives Tryz.prog 15 [.agg p.enc,.sl (u.map Tm.enc),.sl (fs.map Fc.enc)] (.d (.bool (Pg.model p u fs))):=by
 have hcs:=iConsequences_D p u fs hw hwu hlu hwf
 have hfl:fs.length≤1048576:=by have:=wtR_len (fs.map Fc.enc);simp at this;omega
 obtain ⟨K,hK⟩:∃K,Pg.model p u fs=K:=⟨_,rfl⟩
 rw [hK]
 unfold Pg.model at hK
 cases hc:Pg.csq p u fs with
 | none =>
  rw [hc,csC_none] at hcs
  rw [hc] at hK
  rw [←hK]
  refine ACalls.enter (fn:=Tryz.f15) Tryz.func15 rfl (by show 3≤_;decide) ?_
  refine run_sound Tryz.func15 mixed 200 _ _ (by kernel_rfl) ?_
  simp only [go_sem,seval]
  repeat' (first
   | ((refine hcs.calls rfl ?_)<;>(try simp only [go_sem,seval]))
   | fail)
 | some l =>
  rw [hc,csC_some] at hcs
  rw [hc] at hK
  dsimp only at hK
  obtain ⟨hff,hll⟩:=csq_fits hc
  have hfl2:(fs.map Fc.toV).length≤1048576:=by rw [List.length_map];exact hfl
  rw [fits_Vs hff] at hcs ⊢
  generalize fs.map Fc.toV=F at *
  have hso:=sortFacts_fn F (by omega)
  have hsm:∀f,decide (f∈sortC FcV.cmp F)=decide (f∈F):=fun f=>by rw [Bool.eq_iff_iff,decide_eq_true_eq,decide_eq_true_eq];exact sortC_mem FcV.cmp_lin F f
  have hsa:=sortC_asc FcV.cmp_lin F
  have hsl:=sortC_len (c:=FcV.cmp) F
  generalize sortC FcV.cmp F=S at *
  refine ACalls.enter (fn:=Tryz.f15) Tryz.func15 rfl (by show 3≤_;decide) ?_
  refine run_sound Tryz.func15 mixed 200 _ _ (by kernel_rfl) ?_
  simp only [go_sem,seval]
  repeat' (first
   | ((first
    | (refine hcs.calls rfl ?_)
    | (refine hso.calls rfl ?_))<;>(try simp only [go_sem,seval]))
   | fail)
  refine AW.rng l [9,23,24] 25 23 (fun _:Unit=>[]) (fun H _=>H) (fun q _=>(q.all fun f=>decide (f∈F))=K) () rfl (by simp) hK (by refine ⟨by simp [mkS],by simp [mkS],by simp only [mkS,List.all_cons,List.all_nil,O.refsLt,C.refsLt,C.refsLt1,all_dmap];first | done | rfl | (simp;done),?_⟩;simp [mkS,Abs.get,C.refsLtT,C.refsLt,C.refsLt1]) (fun j y q b hyj hdr2 hlt2 hm2 hinv2 hnext2=>?_) (fun b hinv2=>?_)
  ·have he:=hasFact_fn S y (by omega) hsa
   rw [fcE_eq,hsm] at he
   rw [List.all_cons] at hinv2
   generalize decide (y∈F)=b2 at he hinv2
   cases b2 with
   | true =>
    rw [Bool.true_and] at hinv2
    refine run_sound Tryz.func15 mixed 200 _ _ (by kernel_rfl) ?_
    simp only [go_sem,seval,hlt2,idx_of hyj,fcE_eq]
    repeat' (first
     | (simp (disch:=omega) only [wrap_ok])
     | (refine hnext2 () _ hinv2 (by refine ⟨by simp [mkS],by simp [mkS],by simp only [mkS,List.all_cons,List.all_nil,O.refsLt,C.refsLt,C.refsLt1,all_dmap];first | done | rfl | (simp;done),?_⟩;simp [mkS,Abs.get,C.refsLtT,C.refsLt,C.refsLt1]))
     | ((refine he.calls rfl ?_)<;>(try simp only [go_sem,seval,hlt2,idx_of hyj,fcE_eq]))
     | fail)
   | false =>
    rw [Bool.false_and] at hinv2
    rw [←hinv2]
    refine run_sound Tryz.func15 mixed 200 _ _ (by kernel_rfl) ?_
    simp only [go_sem,seval,hlt2,idx_of hyj,fcE_eq]
    repeat' (first
     | ((refine he.calls rfl ?_)<;>(try simp only [go_sem,seval,hlt2,idx_of hyj,fcE_eq]))
     | fail)
  ·rw [List.all_nil] at hinv2
   rw [←hinv2]
   refine run_sound Tryz.func15 mixed 200 _ _ (by kernel_rfl) ?_
   simp only [go_sem,seval]
theorem sIsModel_fn (p:Pg) (u:List Tm) (fs:List Fc) (hw:wtL p.enc≤1048576) (hwu:∀t,t∈u→wtL t.enc≤1048576) (hlu:u.length≤9000000) (hwf:wtR (fs.map Fc.enc)≤1048576):Gives Tryz.prog 11 [.agg p.enc,.sl (u.map Tm.enc),.sl (fs.map Fc.enc)] (.d (.bool (Pg.model p u fs))):=by
 have hcs:=sConsequences_D p u fs hw hwu hlu hwf
 have hfl:fs.length≤1048576:=by have:=wtR_len (fs.map Fc.enc);simp at this;omega
 obtain ⟨K,hK⟩:∃K,Pg.model p u fs=K:=⟨_,rfl⟩
 rw [hK]
 unfold Pg.model at hK
 cases hc:Pg.csq p u fs with
 | none =>
  rw [hc,csC_none] at hcs
  rw [hc] at hK
  rw [←hK]
  have z0:¬(0:Int)<0:=by omega
  refine ACalls.enter (fn:=Tryz.f11) Tryz.func11 rfl (by show 3≤_;decide) ?_
  refine run_sound Tryz.func11 mixed 200 _ _ (by kernel_rfl) ?_
  simp only [go_sem,seval]
  repeat' (first
   | ((refine hcs.calls rfl ?_)<;>(try simp only [go_sem,seval]))
   | fail)
  refine AW.rng ([]:List FcV) [2,18,19] 20 18 (fun _:Unit=>[(8,.d (.bool false))]) (fun H _=>H) (fun q _=>True) () rfl (by simp) trivial (by refine ⟨by simp [mkS],by simp [mkS],by simp only [mkS,List.all_cons,List.all_nil,O.refsLt,C.refsLt,C.refsLt1,all_dmap];first | done | rfl | (simp;done),?_⟩;simp [mkS,Abs.get,C.refsLtT,C.refsLt,C.refsLt1]) (fun j y q b hyj hdr2 hlt2 hm2 hinv2 hnext2=>by simp at hyj) (fun b hinv2=>?_)
  refine run_sound Tryz.func11 mixed 200 _ _ (by kernel_rfl) ?_
  simp only [go_sem,seval]
 | some l =>
  rw [hc,csC_some] at hcs
  rw [hc] at hK
  dsimp only at hK
  obtain ⟨hff,hll⟩:=csq_fits hc
  have hfl2:(fs.map Fc.toV).length≤1048576:=by rw [List.length_map];exact hfl
  rw [fits_Vs hff] at hcs ⊢
  generalize fs.map Fc.toV=F at *
  refine ACalls.enter (fn:=Tryz.f11) Tryz.func11 rfl (by show 3≤_;decide) ?_
  refine run_sound Tryz.func11 mixed 200 _ _ (by kernel_rfl) ?_
  simp only [go_sem,seval]
  repeat' (first
   | ((refine hcs.calls rfl ?_)<;>(try simp only [go_sem,seval]))
   | fail)
  refine AW.rng l [2,18,19] 20 18 (fun b:Bool=>[(8,.d (.bool b))]) (fun H _=>H) (fun q b=>(b && q.all fun f=>decide (f∈F))=K) true rfl (by simp) (by rw [Bool.true_and];exact hK) (by refine ⟨by simp [mkS],by simp [mkS],by simp only [mkS,List.all_cons,List.all_nil,O.refsLt,C.refsLt,C.refsLt1,all_dmap];first | done | rfl | (simp;done),?_⟩;simp [mkS,Abs.get,C.refsLtT,C.refsLt,C.refsLt1]) (fun j y q b hyj hdr2 hlt2 hm2 hinv2 hnext2=>?_) (fun b hinv2=>?_)
  ·have he:=l18Has_fn F y (by omega)
   rw [fcE_eq] at he
   rw [List.all_cons,←Bool.and_assoc] at hinv2
   generalize decide (y∈F)=b2 at he hinv2
   cases b<;>· (
    refine run_sound Tryz.func11 mixed 200 _ _ (by kernel_rfl) ?_
    simp only [go_sem,seval,hlt2,idx_of hyj,fcE_eq]
    repeat' (first
     | (simp (disch:=omega) only [wrap_ok])
     | ((refine he.calls rfl ?_)<;>(try simp only [go_sem,seval,hlt2,idx_of hyj,fcE_eq]))
     | fail)
    refine hnext2 _ _ hinv2 (by refine ⟨by simp [mkS],by simp [mkS],by simp only [mkS,List.all_cons,List.all_nil,O.refsLt,C.refsLt,C.refsLt1,all_dmap];first | done | rfl | (simp;done),?_⟩;simp [mkS,Abs.get,C.refsLtT,C.refsLt,C.refsLt1]))
  ·rw [List.all_nil,Bool.and_true] at hinv2
   subst hinv2
   refine run_sound Tryz.func11 mixed 200 _ _ (by kernel_rfl) ?_
   simp only [go_sem,seval]
theorem mem_wtR {u:List Tm} (h:wtR (u.map Tm.enc)≤1048576):(∀t,t∈u→wtL t.enc≤1048576)∧u.length≤9000000:=
 ⟨fun t ht=>Nat.le_trans (wtR_mem (List.mem_map.2 ⟨t,ht,rfl⟩)) h,by have:=wtR_len (u.map Tm.enc);simp at this;omega⟩
theorem iIsModel_L (p:Pg) (u:List Tm) (fs:List Fc) (hw:wtL p.enc≤1048576) (hwu:wtR (u.map Tm.enc)≤1048576) (hwf:wtR (fs.map Fc.enc)≤1048576):Gives Tryz.prog 15 [.agg p.enc,.sl (u.map Tm.enc),.sl (fs.map Fc.enc)] (.d (.bool (Pg.model p u fs))):=
 iIsModel_fn p u fs hw (mem_wtR hwu).1 (mem_wtR hwu).2 hwf
theorem sIsModel_L (p:Pg) (u:List Tm) (fs:List Fc) (hw:wtL p.enc≤1048576) (hwu:wtR (u.map Tm.enc)≤1048576) (hwf:wtR (fs.map Fc.enc)≤1048576):Gives Tryz.prog 11 [.agg p.enc,.sl (u.map Tm.enc),.sl (fs.map Fc.enc)] (.d (.bool (Pg.model p u fs))):=
 sIsModel_fn p u fs hw (mem_wtR hwu).1 (mem_wtR hwu).2 hwf
end Go.Proofs.YtockpdkdnlkkfaaGreat
