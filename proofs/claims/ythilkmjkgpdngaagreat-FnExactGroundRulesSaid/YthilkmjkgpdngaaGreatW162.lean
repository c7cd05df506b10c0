import Derived.Test.YthilkmjkgpdngaaGreatW112
import Derived.Test.YthilkmjkgpdngaaGreatW158
import Derived.Test.YthilkmjkgpdngaaGreatW117
open List renaming length_map→a_,getElem?_set_self→b_,take_succ_cons→c_,drop_succ_cons→d_,getElem?_eq_some_iff→e_,length_take→f_,cons_append→g_,nil_append→h_,length_set→i_,take_zero→j_,drop_zero→k_,getElem?_map→l_,set_set→m_,mem_map→n_,length_filter_le→o_
namespace Go.Proofs.YthilkmjkgpdngaaGreat
open Go.Abs
set_option maxRecDepth 100000
set_option maxHeartbeats 8000000
set_option linter.unusedSimpArgs false
set_option linter.unusedVariables false
theorem oksU_wt {u:List V} (hu:Uni u) {l:List FcV} (h:∀f,f∈l→(∀v,v∈f.2→v∈u)∧f.2.length≤12):∀f,f∈l→wtR (f.2.map V.enc)≤2000000:=fun f hf=>uniwts hu f.2 (h f hf).1 (h f hf).2
theorem mem_wtR {u:List Tm} (h:wtR (u.map Tm.enc)≤1048576):(∀t,t∈u→wtL t.enc≤1048576)∧u.length≤9000000:=
 ⟨fun t ht=>Nat.le_trans (wtR_mem (n_.2 ⟨t,ht,rfl⟩)) h,by have:=wtR_len (u.map Tm.enc);simp at this;omega⟩
def rvA (r:RV):List D:=[.any,.any,.int .i64 r.clause,.any,.any,.any]
theorem rvA_len (r:RV):(rvA r).length=6:=rfl
def mixR (L:List RV) (k:Nat):List (List D):=(L.take k).map rvE++(L.drop k).map rvA
theorem mixR_len (L:List RV) (k:Nat):(mixR L k).length=L.length:=by
 simp only [mixR,List.length_append,a_,f_,List.length_drop];omega
theorem mixR_at {L:List RV} {k:Nat} {r:RV} (h:L[k]? = some r):(mixR L k)[k]? = some (rvA r):=by
 have hk:=(e_.1 h).1
 unfold mixR
 rw [List.getElem?_append_right (by simp;omega)]
 simp only [a_,f_,l_,List.getElem?_drop]
 rw [show min k L.length=k by omega,Nat.sub_self,Nat.add_zero,h];rfl
theorem mixR_next {L:List RV} {k:Nat} {r:RV} (h:L[k]? = some r):(mixR L k).set k (rvE r)=mixR L (k+1):=by
 have hk:=(e_.1 h).1
 have h1:L.drop k=r :: L.drop (k+1):=by
  rw [List.drop_eq_getElem_cons hk];congr 1
  exact (e_.1 h).2
 unfold mixR
 rw [h1,List.take_add_one,h,List.set_append,if_neg (by simp;omega)]
 simp only [a_,f_,List.map_append,List.map_cons,List.map_nil,Option.toList_some]
 rw [show k - min k L.length=0 by omega];simp
theorem mixR_full (L:List RV):mixR L L.length=L.map rvE:=by
 unfold mixR;rw [List.take_length,List.drop_length];simp
theorem gnd_dims {p:Pg} (hp:pgOk p=true) {u:List V} {r:RV} (h:r∈Pg.gnd u p.rels):r.head.2.length≤12∧r.values.length≤12∧(r.pos.length≤60∧∀f,f∈r.pos→f.2.length≤12)∧r.neg.length≤60∧∀f,f∈r.neg→f.2.length≤12:=by
 obtain ⟨x,hx,c,hc,j,w,_,rfl⟩:=gnd_mem _ h
 obtain ⟨z1,z2,z3,z4⟩:=Pg.dims hp hx
 have hvl:=gVals_len u (x.arity+x.locals).toNat w
 have hcl:=(Gl.clsS_row x.body c hc).1
 have hsh:=Pg.body_inst hp hx (m:=(x.arity+x.locals).toNat) (by omega)
 have hin:∀g,g∈c→g.inst (x.arity+x.locals).toNat:=fun g hg=>Gl.inst_sub hsh.1 g (clsS_sub hc hg)
 have hct:=hsh.2.2.2.2.2
 refine ⟨by simp only [rvOf,f_];omega,by show (gVals u _ w).length≤12;omega,⟨?_,fun f hf=>?_⟩,?_,fun f hf=>?_⟩
 ·show (clsPos _ c).length≤60
  unfold clsPos
  rw [a_]
  have:=o_ (fun g:Gl=>decide (g.kind=9)) c
  omega
 ·have hf':f∈clsPos (valAt (gVals u (x.arity+x.locals).toNat w)) c:=hf
  unfold clsPos at hf'
  obtain ⟨g,hg,rfl⟩:=n_.1 hf'
  have:=(Gl.shape_len (hin g (List.mem_filter.1 hg).1).1).1
  unfold Gl.callV
  rw [a_];omega
 ·show (clsNeg _ c).length≤60
  unfold clsNeg
  rw [a_]
  have h1:=List.length_filterMap_le (fun g:Gl=>g.goals.head?) (c.filter fun g=>decide (g.kind=10))
  have h2:=o_ (fun g:Gl=>decide (g.kind=10)) c
  omega
 ·have hf':f∈clsNeg (valAt (gVals u (x.arity+x.locals).toNat w)) c:=hf
  unfold clsNeg at hf'
  obtain ⟨y,hy,rfl⟩:=n_.1 hf'
  obtain ⟨g,hg,hgy⟩:=List.mem_filterMap.1 hy
  have hym:y∈g.goals:=by
   cases hgg:g.goals with
   | nil=>rw [hgg] at hgy;cases hgy
   | cons a q=>rw [hgg] at hgy;cases hgy;simp
  have hys:y∈g.subs:=by
   rw [Gl.subs_eq,Gl.subss_eq]
   refine List.mem_cons_of_mem _ (List.mem_flatMap.2 ⟨y,hym,?_⟩)
   rw [Gl.subs_eq];simp
  have:=(Gl.shape_len (Gl.inst_sub (hin g (List.mem_filter.1 hg).1) y hys).1).1
  unfold Gl.callV
  rw [a_];omega
def grT (o:Option (List RV)) (c:C) (H:List O):Prop:=match o with
 | some L=>c=.tup [.own 0 1,.d (.bool true)]∧∃e B,H=[.tree 1 6 e (L.map rvE) B none]
 | none=>c=.tup [.d (.sl []),.d (.bool false)]∧H=[.hole]
theorem iGroundRules_some {p:Pg} {u:List V} {L:List RV} (hp:pgOk p=true) (hw:wtL p.enc≤1048576) (hu:Uni u) (hwu:wtR (u.map V.enc)≤1048576) (huk:uniOk (u.map V.tm)=true) (hL:p.gr u=some L) (hdm:∀r,r∈L→r.head.2.length≤12∧r.values.length≤12∧(r.pos.length≤60∧∀f,f∈r.pos→f.2.length≤12)∧r.neg.length≤60∧∀f,f∈r.neg→f.2.length≤12) (hl2:L.length≤2000):ACalls Tryz.prog 9 [.d (.agg p.enc),.d (.sl (u.map V.enc))] [.hole] (grT (some L)):=by
 have hmx:maxLen=9223372036854775807:=rfl
 have hok:=iProgramOk_fn p (by omega)
 have hun:=iUniverseOk_fn (u.map V.tm) (by rw [←enc_tms] at hwu;exact (mem_wtR hwu).1) (by rw [a_];have:=hu.le;omega)
 rw [hp] at hok
 rw [huk,enc_tms] at hun
 have hgr:=groundRules_B p u hp hw hu
 rw [hL,grR_some] at hgr
 have hml:(L.map rvE).length=L.length:=a_ _
 unfold grT;dsimp only
 refine aE_ Tryz.func9 ?_
 refine runG_sound Tryz.func9 mixed 200 _ _ (by kernel_rfl) ?_
 simp only [go_sem,seval,hml]
 repeat' (first
  | ((first
   | (refine hok.calls rfl ?_)
   | (refine hun.calls rfl ?_)
   | (refine (ACalls.emb hgr [0] rfl rfl rfl (by decide) rfl ?_)<;>(rintro c H' ⟨rfl,e,rfl⟩ _;refine ⟨rfl,rfl,?_⟩)))<;>(try simp only [go_sem,seval,hml]))
  | fail)
 refine AW.bufM 0 (L.map rvA) rfl (by simp) (fun i y x hy hx=>?_) ?_
 ·rw [l_,Option.map_eq_some_iff] at hy hx
  obtain ⟨r,h1,rfl⟩:=hy
  obtain ⟨r2,h2,rfl⟩:=hx
  rw [h1] at h2;cases h2
  refine ⟨by rw [rvE_eq];rfl,fun j c d hc hd=>?_⟩
  rw [rvE_eq] at hd
  unfold rvA at hc
  match j with
  | 0=>simp at hc;exact .inl hc.symm
  | 1=>simp at hc;exact .inl hc.symm
  | 2=>simp at hc hd;subst hc hd;exact .inr ⟨rfl,rfl⟩
  | 3=>simp at hc;exact .inl hc.symm
  | 4=>simp at hc;exact .inl hc.symm
  | 5=>simp at hc;exact .inl hc.symm
  | j+6=>simp at hc
 refine AW.lp [6,26] (fun k:Nat×(Nat→Prop)=>[(27,.d (.int .i64 (k.1:Int)))]) (fun _ k=>[.mix 1 6 e (mixR L k.1) (L.map rvE) k.2,.box (p.enc.map .d)]) (fun k=>k.1≤L.length) (fun k=>L.length - k.1) (0,fun _=>False) (Nat.zero_le _) (by refine ⟨by simp [mkS,mixR],by simp [mkS,mixR],by simp only [mkS,List.all_cons,List.all_nil,O.refsLt,C.refsLt,C.refsLt1,all_dmap];first | done | rfl | (simp;done),?_⟩;simp [mkS,Abs.get,C.refsLtT,C.refsLt,C.refsLt1]) ?_
 rintro ⟨k,Bz⟩ hk hnext
 dsimp only at hk hnext ⊢
 by_cases hc:k<L.length
 ·have n1:(k:Int)<(L.length:Int):=by omega
  have wk:IntKind.i64.wrap ((k:Int)+1)=(k:Int)+1:=by rw [wrap_ok (by omega) (by omega)]
  obtain ⟨r,hr⟩:∃r,L[k]? = some r:=⟨_,List.getElem?_eq_getElem hc⟩
  obtain ⟨d1,d2,⟨d3,d4⟩,d5,d6⟩:=hdm r (List.mem_of_getElem? hr)
  have hrE:=rvE_eq r
  have hre:(L.map rvE)[k]? = some [.str r.head.1,.sl (r.head.2.map V.enc),.int .i64 r.clause,.sl (r.values.map V.enc),.sl (r.pos.map fcE),.sl (r.neg.map fcE)]:=by rw [l_,hr,←rvE_eq];rfl
  have hra:=mixR_at hr
  have hrl:=mixR_len L k
  unfold rvA at hra
  have hc1:=copyFact_T r.head.1 r.head.2 (by omega)
  have hc2:=copyTerms_T r.values (by omega)
  have hc3:=copyFacts_T r.pos (by omega) (fun f hf=>by have:=d4 f hf;omega)
  have hc4:=copyFacts_T r.neg (by omega) (fun f hf=>by have:=d6 f hf;omega)
  unfold cpTs at hc2
  obtain ⟨M0,hM0⟩:∃M,mixR L k=M:=⟨_,rfl⟩
  rw [hM0] at hra hrl ⊢
  have nx:=mixR_next hr
  rw [hM0,hrE] at nx
  refine AW.hole ?_
  refine run_sound Tryz.func9 mixed 10 _ _ (by kernel_rfl) ?_
  simp only [go_sem,seval,run.eq_1,n1]
  refine AW.regX ?_
  simp only [go_sem,seval,idx_of hra,idx_of hre,hml,n1,hrl]
  repeat' (first
   | ((first
    | (refine ACalls.fresh (ds:=[.agg [.str r.head.1,.sl (r.head.2.map V.enc)]]) (m:=1) hc1 [2] rfl rfl (by simp) (by simp) ?_<;>(rintro c H' ⟨rfl,e2,B2,rfl⟩ _;refine ⟨rfl,rfl,?_⟩))
    | (refine all_intro (fun Bz2=>?_))
    | (refine ⟨sd,?_⟩))<;>(try simp only [go_sem,seval,idx_of hra,idx_of hre,hml,n1,hrl]))
   | fail)
  rw [show M0[k]?.getD []=[.any,.any,.int .i64 r.clause,.any,.any,.any] from by rw [hra];rfl]
  obtain ⟨M1,hM1⟩:∃M,M0.set k [D.str r.head.1,D.sl (r.head.2.map V.enc),.int .i64 r.clause,.any,.any,.any]=M:=⟨_,rfl⟩
  have hx1:M1.length=L.length:=by rw [←hM1,i_];exact hrl
  have hy1:M1[k]? = some [D.str r.head.1,D.sl (r.head.2.map V.enc),.int .i64 r.clause,.any,.any,.any]:=by rw [←hM1];exact b_ (by omega)
  clear hra hrl;have hra:=hy1;have hrl:=hx1;clear hy1 hx1
  simp only [d_,k_,c_,j_,g_,h_]
  rw [hM1]
  refine AW.hole ?_
  refine run_sound Tryz.func9 mixed 1 _ _ (by kernel_rfl) ?_
  simp only [go_sem,seval,run.eq_1,n1]
  refine AW.regX ?_
  simp only [go_sem,seval,idx_of hra,idx_of hre,hml,n1,hrl]
  repeat' (first
   | ((first
    | (refine ACalls.fresh (ds:=[.sl (r.values.map V.enc)]) (m:=1) hc2 [3] rfl rfl (by simp) (by simp) ?_<;>(rintro c H' ⟨rfl,e3,B3,rfl⟩ _;refine ⟨rfl,rfl,?_⟩))
    | (refine all_intro (fun Bz3=>?_))
    | (refine ⟨sd,?_⟩))<;>(try simp only [go_sem,seval,idx_of hra,idx_of hre,hml,n1,hrl]))
   | fail)
  rw [show M1[k]?.getD []=[D.str r.head.1,D.sl (r.head.2.map V.enc),.int .i64 r.clause,.any,.any,.any] from by rw [hra];rfl]
  obtain ⟨M2,hM2⟩:∃M,M1.set k [D.str r.head.1,D.sl (r.head.2.map V.enc),.int .i64 r.clause,D.sl (r.values.map V.enc),.any,.any]=M:=⟨_,rfl⟩
  have hx2:M2.length=L.length:=by rw [←hM2,i_];exact hrl
  have hy2:M2[k]? = some [D.str r.head.1,D.sl (r.head.2.map V.enc),.int .i64 r.clause,D.sl (r.values.map V.enc),.any,.any]:=by rw [←hM2];exact b_ (by omega)
  clear hra hrl;have hra:=hy2;have hrl:=hx2;clear hy2 hx2
  simp only [d_,k_,c_,j_,g_,h_]
  rw [hM2]
  refine AW.hole ?_
  refine run_sound Tryz.func9 mixed 1 _ _ (by kernel_rfl) ?_
  simp only [go_sem,seval,run.eq_1,n1]
  refine AW.regX ?_
  simp only [go_sem,seval,idx_of hra,idx_of hre,hml,n1,hrl]
  repeat' (first
   | ((first
    | (refine ACalls.fresh (ds:=[.sl (r.pos.map fcE)]) (m:=1) hc3 [4] rfl rfl (by simp) (by simp) ?_<;>(rintro c H' ⟨rfl,e4,B4,rfl⟩ _;refine ⟨rfl,rfl,?_⟩))
    | (refine all_intro (fun Bz4=>?_))
    | (refine ⟨sd,?_⟩))<;>(try simp only [go_sem,seval,idx_of hra,idx_of hre,hml,n1,hrl]))
   | fail)
  rw [show M2[k]?.getD []=[D.str r.head.1,D.sl (r.head.2.map V.enc),.int .i64 r.clause,D.sl (r.values.map V.enc),.any,.any] from by rw [hra];rfl]
  obtain ⟨M3,hM3⟩:∃M,M2.set k [D.str r.head.1,D.sl (r.head.2.map V.enc),.int .i64 r.clause,D.sl (r.values.map V.enc),D.sl (r.pos.map fcE),.any]=M:=⟨_,rfl⟩
  have hx3:M3.length=L.length:=by rw [←hM3,i_];exact hrl
  have hy3:M3[k]? = some [D.str r.head.1,D.sl (r.head.2.map V.enc),.int .i64 r.clause,D.sl (r.values.map V.enc),D.sl (r.pos.map fcE),.any]:=by rw [←hM3];exact b_ (by omega)
  clear hra hrl;have hra:=hy3;have hrl:=hx3;clear hy3 hx3
  simp only [d_,k_,c_,j_,g_,h_]
  rw [hM3]
  refine AW.hole ?_
  refine AW.regX ?_
  simp only [go_sem,seval,idx_of hra,idx_of hre,hml,n1,hrl]
  repeat' (first
   | ((first
    | (refine ACalls.fresh (ds:=[.sl (r.neg.map fcE)]) (m:=1) hc4 [5] rfl rfl (by simp) (by simp) ?_<;>(rintro c H' ⟨rfl,e5,B5,rfl⟩ _;refine ⟨rfl,rfl,?_⟩))
    | (refine all_intro (fun Bz5=>?_))
    | (refine ⟨sd,?_⟩))<;>(try simp only [go_sem,seval,idx_of hra,idx_of hre,hml,n1,hrl]))
   | fail)
  rw [show M3[k]?.getD []=[D.str r.head.1,D.sl (r.head.2.map V.enc),.int .i64 r.clause,D.sl (r.values.map V.enc),D.sl (r.pos.map fcE),.any] from by rw [hra];rfl]
  obtain ⟨M4,hM4⟩:∃M,M3.set k [D.str r.head.1,D.sl (r.head.2.map V.enc),.int .i64 r.clause,D.sl (r.values.map V.enc),D.sl (r.pos.map fcE),D.sl (r.neg.map fcE)]=M:=⟨_,rfl⟩
  have hx4:M4.length=L.length:=by rw [←hM4,i_];exact hrl
  have hy4:M4[k]? = some [D.str r.head.1,D.sl (r.head.2.map V.enc),.int .i64 r.clause,D.sl (r.values.map V.enc),D.sl (r.pos.map fcE),D.sl (r.neg.map fcE)]:=by rw [←hM4];exact b_ (by omega)
  clear hra hrl;have hra:=hy4;have hrl:=hx4;clear hy4 hx4
  simp only [d_,k_,c_,j_,g_,h_]
  rw [hM4]
  have hMf:M4=mixR L (k+1):=by rw [←hM4,←hM3,←hM2,←hM1,m_,m_,m_];exact nx
  subst hMf
  refine rS_ Tryz.func9 ?_
  simp only [go_sem,seval,n1,wk]
  refine hnext (k+1,Bz5) _ (by dsimp only;omega) (by dsimp only;omega) wk1_
 ·obtain rfl:k=L.length:=by omega
  refine run_sound Tryz.func9 mixed 6 _ _ (by kernel_rfl) ?_
  simp only [go_sem,seval,run.eq_1]
  refine AW.mixT 0 rfl ?_
  refine rS_ Tryz.func9 ?_
  simp only [go_sem,seval]
  exact ⟨_,_,by rw [mixR_full]⟩
theorem iGroundRules_T (p:Pg) (u:List Tm) (hw:wtL p.enc≤1048576) (hwu:wtR (u.map Tm.enc)≤1048576):ACalls Tryz.prog 9 [.d (.agg p.enc),.d (.sl (u.map Tm.enc))] [.hole] (grT (Pg.grO p u)):=by
 have ha:=iProgramOk_fn p (by omega)
 have hb:=iUniverseOk_fn u (mem_wtR hwu).1 (mem_wtR hwu).2
 unfold Pg.grO
 by_cases h1:pgOk p=true
 ·by_cases h2:uniOk u=true
  ·rw [if_pos ⟨h1,h2⟩]
   obtain ⟨hu,he⟩:=Uni.of h2
   have hee:u.map Tm.enc=(u.map Tm.V).map V.enc:=by rw [←enc_tms,←he]
   cases hL:p.gr (u.map Tm.V) with
   | some L =>
    rw [hee] at hwu ⊢
    exact iGroundRules_some h1 hw hu hwu (by rw [←he];exact h2) hL (fun r hr=>gnd_dims h1 (u:=u.map Tm.V) (by rw [←(gr_mem hL).1];exact hr)) (gr_mem hL).2
   | none =>
    have hgr:=groundRules_B p (u.map Tm.V) h1 hw hu
    rw [hL,grR_none] at hgr
    rw [h1] at ha
    rw [h2] at hb
    rw [hee] at hb ⊢
    unfold grT;dsimp only
    refine aE_ Tryz.func9 ?_
    refine runG_sound Tryz.func9 mixed 200 _ _ (by kernel_rfl) ?_
    simp only [go_sem,seval]
    repeat' (first
     | ((first
      | (refine ha.calls rfl ?_)
      | (refine hb.calls rfl ?_)
      | (refine (ACalls.emb hgr [0] rfl rfl rfl (by decide) rfl ?_)<;>(rintro c H' ⟨rfl,rfl⟩ _;refine ⟨rfl,rfl,?_⟩)))<;>(try simp only [go_sem,seval]))
     | fail)
  ·rw [if_neg (fun h=>h2 h.2)]
   rw [h1] at ha
   simp only [Bool.not_eq_true] at h2
   rw [h2] at hb
   unfold grT;dsimp only
   refine aE_ Tryz.func9 ?_
   refine runG_sound Tryz.func9 mixed 200 _ _ (by kernel_rfl) ?_
   simp only [go_sem,seval]
   repeat' (first
    | ((first
     | (refine ha.calls rfl ?_)
     | (refine hb.calls rfl ?_))<;>(try simp only [go_sem,seval]))
    | fail)
 ·rw [if_neg (fun h=>h1 h.1)]
  simp only [Bool.not_eq_true] at h1
  rw [h1] at ha
  unfold grT;dsimp only
  refine aE_ Tryz.func9 ?_
  refine runG_sound Tryz.func9 mixed 200 _ _ (by kernel_rfl) ?_
  simp only [go_sem,seval]
  repeat' (first
   | ((refine ha.calls rfl ?_)<;>(try simp only [go_sem,seval]))
   | fail)
end Go.Proofs.YthilkmjkgpdngaaGreat
