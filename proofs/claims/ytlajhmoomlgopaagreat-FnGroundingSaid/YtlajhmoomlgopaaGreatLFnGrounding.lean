import Derived.Test.YtlajhmoomlgopaaGreatW158
import Derived.Test.YtlajhmoomlgopaaGreatW152
import Derived.Test.YtlajhmoomlgopaaGreatW160
open List renaming length_map→a_,all_cons→b_,all_nil→c_,mem_filter→d_,length_cons→e_,mem_map→f_,length_filter_le→g_
namespace Go.Proofs.YtlajhmoomlgopaaGreat
open Go.Abs
set_option maxRecDepth 100000
set_option maxHeartbeats 8000000
set_option linter.unusedSimpArgs false
set_option linter.unusedVariables false
theorem copyTerms_D (l:List V) (hl:l.length≤100000000):Gives Tryz.prog 56 [.sl (l.map V.enc)] (.d (.sl (l.map V.enc))):=by
 have h:=copyTerms_T l hl
 unfold cpTs at h
 refine ACalls.frozen (ds:=[.sl (l.map V.enc)]) (m:=1) h (fun c H' ⟨h1,e,B,h2⟩ _=>?_)
 subst h1 h2;rfl
theorem gnd_dims {p:Pg} (hp:pgOk p=true) {u:List V} {r:RV} (h:r∈Pg.gnd u p.rels):r.head.2.length≤12∧r.values.length≤12∧(r.pos.length≤60∧∀f,f∈r.pos→f.2.length≤100)∧r.neg.length≤60∧∀f,f∈r.neg→f.2.length≤100:=by
 obtain ⟨x,hx,c,hc,j,w,_,rfl⟩:=gnd_mem _ h
 obtain ⟨z1,z2,z3,z4⟩:=Pg.dims hp hx
 have hvl:=gVals_len u (x.arity+x.locals).toNat w
 have hcl:=(Gl.clsS_row x.body c hc).1
 have hsh:=Pg.body_inst hp hx (m:=(x.arity+x.locals).toNat) (by omega)
 have hin:∀g,g∈c→g.inst (x.arity+x.locals).toNat:=fun g hg=>Gl.inst_sub hsh.1 g (clsS_sub hc hg)
 have hct:=hsh.2.2.2.2.2
 refine ⟨by simp only [rvOf,List.length_take];omega,by show (gVals u _ w).length≤12;omega,⟨?_,fun f hf=>?_⟩,?_,fun f hf=>?_⟩
 ·show (clsPos _ c).length≤60
  unfold clsPos
  rw [a_]
  have:=g_ (fun g:Gl=>decide (g.kind=9)) c
  omega
 ·have hf':f∈clsPos (valAt (gVals u (x.arity+x.locals).toNat w)) c:=hf
  unfold clsPos at hf'
  obtain ⟨g,hg,rfl⟩:=f_.1 hf'
  have:=(Gl.shape_len (hin g (d_.1 hg).1).1).1
  unfold Gl.callV
  rw [a_];omega
 ·show (clsNeg _ c).length≤60
  unfold clsNeg
  rw [a_]
  have h1:=List.length_filterMap_le (fun g:Gl=>g.goals.head?) (c.filter fun g=>decide (g.kind=10))
  have h2:=g_ (fun g:Gl=>decide (g.kind=10)) c
  omega
 ·have hf':f∈clsNeg (valAt (gVals u (x.arity+x.locals).toNat w)) c:=hf
  unfold clsNeg at hf'
  obtain ⟨y,hy,rfl⟩:=f_.1 hf'
  obtain ⟨g,hg,hgy⟩:=List.mem_filterMap.1 hy
  have hym:y∈g.goals:=by
   cases hgg:g.goals with
   | nil=>rw [hgg] at hgy;cases hgy
   | cons a q=>rw [hgg] at hgy;cases hgy;simp
  have hys:y∈g.subs:=by
   rw [Gl.subs_eq,Gl.subss_eq]
   refine List.mem_cons_of_mem _ (List.mem_flatMap.2 ⟨y,hym,?_⟩)
   rw [Gl.subs_eq];simp
  have:=(Gl.shape_len (Gl.inst_sub (hin g (d_.1 hg).1) y hys).1).1
  unfold Gl.callV
  rw [a_];omega
theorem GroundRulesM_R {p:Pg} {u:List V} (h:Made p u):ACalls Tryz.prog 23 [.d (.agg p.enc),.d (.sl (u.map V.enc))] [] (fun c H'=>c=.tup [.d (.sl ((Pg.gnd u p.rels).map rvE)),.d (.bool true)]∧H'=[]):=by
 have hmx:maxLen=9223372036854775807:=rfl
 have hok:=iProgramOk_fn p (by have:=h.wp;omega)
 have hun:=iUniverseOk_fn (u.map V.tm) h.mem (by rw [a_];have:=h.uni.le;omega)
 rw [h.ok] at hok
 rw [uni_to h.uni,enc_tms] at hun
 have hgr:=groundRules_B p u h.ok h.wp h.uni
 rw [h.gr,grR_some] at hgr
 have hdm:=fun r hr=>gnd_dims h.ok (u:=u) (r:=r) hr
 have hl2:=(gr_mem h.gr).2
 generalize Pg.gnd u p.rels=L at *
 have hml:(L.map rvE).length=L.length:=a_ _
 refine aE_ Tryz.func23 ?_
 refine AW.hole ?_
 refine runG_sound Tryz.func23 mixed 200 _ _ (by kernel_rfl) ?_
 simp only [go_sem,seval,hml]
 repeat' (first
  | ((first
   | (refine hok.calls rfl ?_)
   | (refine hun.calls rfl ?_)
   | (refine (ACalls.emb hgr [0] rfl rfl rfl (by decide) rfl ?_)<;>(rintro c H' ⟨rfl,e,rfl⟩ _;refine ⟨rfl,rfl,?_⟩)))<;>(try simp only [go_sem,seval,hml]))
  | fail)
 refine AW.lp [6,26] (fun k:Nat=>[(27,.d (.int .i64 (k:Int)))]) (fun _ _=>[.buf 1 6 e (L.map rvE),.box (p.enc.map .d)]) (fun k=>k≤L.length) (fun k=>L.length - k) 0 (Nat.zero_le _) wk1_ ?_
 intro k hk hnext
 by_cases hc:k<L.length
 ·have n1:(k:Int)<(L.length:Int):=by omega
  have wk:IntKind.i64.wrap ((k:Int)+1)=(k:Int)+1:=by rw [wrap_ok (by omega) (by omega)]
  obtain ⟨r,hr⟩:∃r,L[k]? = some r:=⟨_,List.getElem?_eq_getElem hc⟩
  obtain ⟨d1,d2,⟨d3,d4⟩,d5,d6⟩:=hdm r (List.mem_of_getElem? hr)
  have hre:(L.map rvE)[k]? = some [.str r.head.1,.sl (r.head.2.map V.enc),.int .i64 r.clause,.sl (r.values.map V.enc),.sl (r.pos.map fcE),.sl (r.neg.map fcE)]:=by rw [List.getElem?_map,hr,←rvE_eq];rfl
  have hse:(L.map rvE).set k [.str r.head.1,.sl (r.head.2.map V.enc),.int .i64 r.clause,.sl (r.values.map V.enc),.sl (r.pos.map fcE),.sl (r.neg.map fcE)]=L.map rvE:=by
   obtain ⟨a,b⟩:=List.getElem?_eq_some_iff.1 hre
   rw [←b,List.set_getElem_self]
  have hrE:=rvE_eq r
  have hc1:=copyFact_D r.head (by omega)
  have hc2:=copyTerms_D r.values (by omega)
  have hc3:=copyFacts_D r.pos (by omega) (fun f hf=>by have:=d4 f hf;omega)
  have hc4:=copyFacts_D r.neg (by omega) (fun f hf=>by have:=d6 f hf;omega)
  refine run_sound Tryz.func23 mixed 10 _ _ (by kernel_rfl) ?_
  simp only [go_sem,seval,run.eq_1,n1]
  refine AW.regA ?_
  simp only [go_sem,seval,idx_of hre,hml,n1,hr,hrE,hse]
  repeat' (first
   | ((first
    | (refine hc1.calls rfl ?_)
    | (refine ⟨sd,?_⟩))<;>(try simp only [go_sem,seval,idx_of hre,hml,n1,hr,hrE,hse]))
   | fail)
  refine run_sound Tryz.func23 mixed 1 _ _ (by kernel_rfl) ?_
  simp only [go_sem,seval,run.eq_1]
  refine AW.regA ?_
  simp only [go_sem,seval,idx_of hre,hml,n1,hr,hrE,hse]
  repeat' (first
   | ((first
    | (refine hc2.calls rfl ?_)
    | (refine ⟨sd,?_⟩))<;>(try simp only [go_sem,seval,idx_of hre,hml,n1,hr,hrE,hse]))
   | fail)
  refine run_sound Tryz.func23 mixed 1 _ _ (by kernel_rfl) ?_
  simp only [go_sem,seval,run.eq_1]
  refine AW.regA ?_
  simp only [go_sem,seval,idx_of hre,hml,n1,hr,hrE,hse]
  repeat' (first
   | ((first
    | (refine hc3.calls rfl ?_)
    | (refine ⟨sd,?_⟩))<;>(try simp only [go_sem,seval,idx_of hre,hml,n1,hr,hrE,hse]))
   | fail)
  refine AW.regA ?_
  simp only [go_sem,seval,idx_of hre,hml,n1,hr,hrE,hse]
  repeat' (first
   | ((first
    | (refine hc4.calls rfl ?_)
    | (refine ⟨sd,?_⟩))<;>(try simp only [go_sem,seval,idx_of hre,hml,n1,hr,hrE,hse]))
   | fail)
  refine rS_ Tryz.func23 ?_
  simp only [go_sem,seval,wk]
  refine hnext (k+1) _ (by omega) (by omega) (by refine ⟨by simp [mkS,hse],by simp [mkS,hse],by simp only [mkS,b_,c_,O.refsLt,C.refsLt,C.refsLt1,all_dmap];first | done | rfl | (simp;done),?_⟩;simp [mkS,Abs.get,C.refsLtT,C.refsLt,C.refsLt1])
 ·obtain rfl:k=L.length:=by omega
  refine run_sound Tryz.func23 mixed 6 _ _ (by kernel_rfl) ?_
  simp only [go_sem,seval,run.eq_1]
  refine AW.freezeB 6 0 rfl rfl ?_
  refine rS_ Tryz.func23 ?_
  simp only [go_sem,seval]
theorem GroundRulesM_fn {p:Pg} {u:List V} (h:Made p u):Gives Tryz.prog 23 [.agg p.enc,.sl (u.map V.enc)] (.tup [.d (.sl ((Pg.gnd u p.rels).map rvE)),.d (.bool true)]):=
 ACalls.frozen (ds:=[.agg p.enc,.sl (u.map V.enc)]) (m:=0) (GroundRulesM_R h) (fun c H' ⟨h1,h2⟩ _=>by subst h1 h2;rfl)
theorem MakeFacts_R (B:List UInt8) (hB:B.length≤1048576) (n:Nat) (hn:n≤1000) {p:Pg} {u:List V} (h:Made p u):ACalls Tryz.prog 22 [.d (.sl (bytesD B)),.d (.int .i64 n),.d (.agg p.enc),.d (.sl (u.map V.enc))] [] (fun c H'=>∃F:List FcV,c=.d (.sl (F.map fcE))∧H'=[]∧F.length≤2000∧∀f,f∈F→fitU p u f):=by
 have hmx:maxLen=9223372036854775807:=rfl
 have hw:=l43New_T B hB n (by omega)
 have haf:=AllFacts_R h
 have hPe:=Pg.enc_eq p
 have hmf:∀l:List FcV,(l.map fcE).length=l.length:=fun l=>a_ _
 rw [hPe] at haf ⊢
 refine aE_ Tryz.func22 ?_
 refine AW.hole ?_
 refine run_sound Tryz.func22 mixed 4 _ _ (by kernel_rfl) ?_
 simp only [go_sem,seval,run.eq_1]
 repeat' (first
  | ((refine (ACalls.emb hw [0] rfl rfl rfl (by decide) rfl ?_)<;>(rintro c H' ⟨rfl,i,h,rfl,e1,e2⟩ _;refine ⟨rfl,rfl,?_⟩))<;>(try simp only [go_sem,seval,run.eq_1]))
  | fail)
 refine AW.unbox 9 0 (cs:=cuD B i h) rfl rfl ?_
 refine run_sound Tryz.func22 mixed 3 _ _ (by kernel_rfl) ?_
 simp only [go_sem,seval,run.eq_1]
 repeat' (first
  | ((refine (ACalls.emb haf [] rfl rfl rfl (by decide) rfl ?_)<;>(rintro c H' ⟨F,b,rfl,rfl,hF,hfu⟩ _;refine ⟨rfl,rfl,?_⟩))<;>(try simp only [go_sem,seval,run.eq_1]))
  | fail)
 refine run_sound Tryz.func22 mixed 1 _ _ (by kernel_rfl) ?_
 simp only [go_sem,seval,run.eq_1]
 refine AW.adopt 12 2 37 (by decide) rfl ?_
 refine rS_ Tryz.func22 ?_
 simp only [go_sem,seval,hmf]
 refine AW.rng F [9,25,26] 27 25 (fun y:Nat×List FcV×Int×Int=>[(12,.own 3 y.1)]) (fun _ y=>[.dead,.box [.d (.sl (p.rels.map Rl.enc))],cuO B y.2.2.1 y.2.2.2,.grow y.1 2 37 (y.2.1.map fcE)]) (fun r y=>y.2.1.length+r.length≤F.length∧(∀f,f∈y.2.1→f∈F)∧0≤y.2.2.1∧y.2.2.1≤B.length) (0,[],i,h) rfl (by simp) ⟨by simp,(fun f hf=>by cases hf),e1,e2⟩ (by refine ⟨by simp [mkS,cuO_eq,cuD],by simp [mkS,cuO_eq,cuD],by simp only [mkS,b_,c_,O.refsLt,C.refsLt,C.refsLt1,all_dmap];first | done | rfl | (simp;done),?_⟩;simp [mkS,Abs.get,C.refsLtT,C.refsLt,C.refsLt1]) (fun ii f r y hxi hdr hlt hm hinv hnext=>?_) (fun y hinv=>?_)
 ·obtain ⟨q,L,i3,h3⟩:=y
  obtain ⟨j1,j2,j3,j4⟩:=hinv
  dsimp only at j1 j2 j3 j4 hnext ⊢
  simp only [e_] at j1
  have hfm:=List.mem_of_getElem? hxi
  have hon:=l01Once_R B hB 3 i3 h3 j3 j4
  have hfe:=fcE_eq f
  have wi:IntKind.i64.wrap ((ii:Int)+1)=(ii:Int)+1:=by rw [wrap_ok (by omega) (by omega)]
  refine rS_ Tryz.func22 ?_
  simp only [go_sem,seval,hlt,idx_of hxi,hfe,wi]
  repeat' (first
   | ((first
    | (refine (ACalls.emb hon [2] rfl rfl rfl (by decide) rfl ?_)<;>(rintro c H' ⟨b,i4,h4,rfl,rfl,c3,c4⟩ _;cases b<;>refine ⟨rfl,rfl,?_⟩))
    | (refine ⟨sd,?_⟩))<;>(try simp only [go_sem,seval,hlt,idx_of hxi,hfe,wi]))
   | fail)
  ·refine hnext (q,L,i4,h4) _ ⟨by dsimp only;omega,j2,c3,c4⟩ (by refine ⟨by simp [mkS,cuO_eq,hfe],by simp [mkS,cuO_eq,hfe],by simp only [mkS,b_,c_,O.refsLt,C.refsLt,C.refsLt1,all_dmap];first | done | rfl | (simp;done),?_⟩;simp [mkS,Abs.get,C.refsLtT,C.refsLt,C.refsLt1])
  ·refine hnext (q+1,L++[f],i4,h4) _ ⟨by rw [List.length_append];dsimp only [e_,List.length_nil];omega,(fun x hx=>by
    rcases List.mem_append.1 hx with hx | hx
    ·exact j2 x hx
    ·simp at hx;subst hx;exact hfm),c3,c4⟩ (by refine ⟨by simp [mkS,cuO_eq,hfe],by simp [mkS,cuO_eq,hfe],by simp only [mkS,b_,c_,O.refsLt,C.refsLt,C.refsLt1,all_dmap];first | done | rfl | (simp;done),?_⟩;simp [mkS,Abs.get,C.refsLtT,C.refsLt,C.refsLt1])
 ·obtain ⟨q,L,i3,h3⟩:=y
  obtain ⟨j1,j2,j3,j4⟩:=hinv
  dsimp only at j1 j2 j3 j4 ⊢
  simp only [List.length_nil,Nat.add_zero] at j1
  refine rS_ Tryz.func22 ?_
  simp only [go_sem,seval]
  repeat' (first
   | (exact ⟨L,rfl,by omega,fun f hf=>hfu f (j2 f hf)⟩)
   | fail)
theorem within_of {a b:List FcV} (h:∀f,f∈a→f∈b):(a.all fun f=>decide (f∈b))=true:=List.all_eq_true.2 fun f hf=>decide_eq_true (h f hf)
theorem fires_all (F:List FcV) (r:RV):RV.fires F F r=((r.pos.all fun f=>decide (f∈F)) && (r.neg.all fun f=>!decide (f∈F))):=rfl
theorem lawFnGrounding_R (B:List UInt8):ACalls Tryz.prog 6 [.d (.sl (bytesD B))] [] (fun c H'=>c=.d (.bool true)∧H'=[]):=by
 have hmx:maxLen=9223372036854775807:=rfl
 refine aE_ Tryz.func6 ?_
 refine run_sound Tryz.func6 mixed 10 _ _ (by kernel_rfl) ?_
 simp only [go_sem,seval,run.eq_1,bytesD_len]
 refine br_intro (fun hq=>?_) (fun hq=>?_)
 ·simp only [go_sem,seval]
 simp only [decide_eq_false_iff_not,Int.not_lt] at hq
 have hB:B.length≤1048576:=by omega
 clear hq
 have hmk:=MakeProgramG_R B hB
 have hmu:=MakeUniverse_R B hB 60 2 (by decide) (by decide) (by decide)
 simp only [go_sem,seval,bytesD_len]
 refine ACalls.emb hmk [] rfl rfl rfl (by decide) rfl ?_
 rintro c H' ⟨p,rfl,rfl,hmd⟩ _
 refine ⟨rfl,rfl,?_⟩
 have hf:=Pg.made_fine hmd
 have hgs:=Pg.made_gsz hmd
 have hPe:=Pg.enc_eq p
 simp only [go_sem,seval,hPe,run.eq_1]
 refine rS_ Tryz.func6 ?_
 simp only [go_sem,seval]
 repeat' (first
  | ((refine (ACalls.emb hmu [] rfl rfl rfl (by decide) rfl ?_)<;>(rintro c H' ⟨u,rfl,rfl,hu,hul,hud⟩ _;refine ⟨rfl,rfl,?_⟩))<;>(try simp only [go_sem,seval]))
  | fail)
 have hM:=Made.of hf hgs hu hul hud
 have hmf:=MakeFacts_R B hB 80 (by decide) hM
 rw [hPe] at hmf
 repeat' (first
  | ((refine (ACalls.emb hmf [] rfl rfl rfl (by decide) rfl ?_)<;>(rintro c H' ⟨F,rfl,rfl,hFl,hFu⟩ _;refine ⟨rfl,rfl,?_⟩))<;>(try simp only [go_sem,seval]))
  | fail)
 obtain ⟨a1,a2,a3⟩:=hM.list hFu hFl
 have hgr:=GroundRulesM_fn hM
 have hcs:=csM_fn hM a1 a2 a3
 have hnm:=fun f=>nextF_mem (rs:=Pg.gnd u p.rels) (F:=F) (G:=F) (f:=f)
 have hl2:=(gr_mem hM.gr).2
 generalize nextF (Pg.gnd u p.rels) F F=Z at *
 generalize Pg.gnd u p.rels=rs at *
 rw [hPe] at hgr hcs
 have hml:(rs.map rvE).length=rs.length:=a_ _
 have hmz:∀l:List FcV,(l.map fcE).length=l.length:=fun l=>a_ _
 repeat' (first
  | ((first
   | (refine hgr.calls rfl ?_)
   | (refine hcs.calls rfl ?_))<;>(try simp only [go_sem,seval]))
  | fail)
 refine AW.adopt 10 2 37 (by decide) rfl ?_
 refine AW.rng rs [5,7,8,9,41,42] 43 41 (fun L:List FcV=>[(10,.own 1 L.length)]) (fun _ L=>[.box [.d (.sl (p.rels.map Rl.enc))],.grow L.length 2 37 (L.map fcE)]) (fun s L=>L++(s.filter (RV.fires F F)).map RV.head=(rs.filter (RV.fires F F)).map RV.head∧L.length+s.length≤rs.length) [] rfl (by simp) ⟨rfl,by simp⟩ wk1_ (fun ii r s L hxi hdr hlt hm hinv hnext=>?_) (fun L hinv=>?_)
 ·obtain ⟨i1,i2⟩:=hinv
  rw [List.filter_cons,fires_all] at i1
  simp only [e_] at i2
  have hrE:=rvE_eq r
  have hw:=withinL_fn r.pos F
  have wi:IntKind.i64.wrap ((ii:Int)+1)=(ii:Int)+1:=by rw [wrap_ok (by omega) (by omega)]
  generalize (r.pos.all fun f=>decide (f∈F))=b0 at hw i1
  refine rS_ Tryz.func6 ?_
  simp only [go_sem,seval,hlt,idx_of hxi,hrE,hml,hmz]
  repeat' (first
   | ((refine hw.calls rfl ?_)<;>(try simp only [go_sem,seval,hlt,idx_of hxi,hrE,hml,hmz]))
   | fail)
  refine AW.rng r.neg [5,7,8,9,10,12,41,42,43,52,53] 54 52 (fun b:Bool=>[(13,.d (.bool b))]) (fun _ b=>[.box [.d (.sl (p.rels.map Rl.enc))],.grow L.length 2 37 (L.map fcE),.box ((rvE r).map .d)]) (fun t b=>(b && t.all fun f=>!decide (f∈F))=(b0 && r.neg.all fun f=>!decide (f∈F))) b0 rfl (by simp) rfl (by refine ⟨by simp [mkS,hrE],by simp [mkS,hrE],by simp only [mkS,b_,c_,O.refsLt,C.refsLt,C.refsLt1,all_dmap];first | done | rfl | (simp;done),?_⟩;simp [mkS,Abs.get,C.refsLtT,C.refsLt,C.refsLt1]) (fun jj f t b hyj hds hjt hm2 hinv2 hn2=>?_) (fun b hinv2=>?_)
  ·have hin:=inL_fn F f
   rw [fcE_eq] at hin
   rw [b_] at hinv2
   have wj:IntKind.i64.wrap ((jj:Int)+1)=(jj:Int)+1:=by rw [wrap_ok (by omega) (by omega)]
   cases b with
   | false =>
    refine rS_ Tryz.func6 ?_
    simp only [go_sem,seval,hjt,idx_of hyj,fcE_eq,wj]
    refine hn2 false _ (by rw [←hinv2];simp) (by refine ⟨by simp [mkS,hrE],by simp [mkS,hrE],by simp only [mkS,b_,c_,O.refsLt,C.refsLt,C.refsLt1,all_dmap];first | done | rfl | (simp;done),?_⟩;simp [mkS,Abs.get,C.refsLtT,C.refsLt,C.refsLt1])
   | true =>
    generalize decide (f∈F)=d at hin hinv2
    refine rS_ Tryz.func6 ?_
    simp only [go_sem,seval,hjt,idx_of hyj,fcE_eq,wj]
    repeat' (first
     | ((refine hin.calls rfl ?_)<;>(try simp only [go_sem,seval,hjt,idx_of hyj,fcE_eq,wj]))
     | fail)
    refine hn2 (!d) _ (by rw [←hinv2];simp) (by refine ⟨by simp [mkS,hrE],by simp [mkS,hrE],by simp only [mkS,b_,c_,O.refsLt,C.refsLt,C.refsLt1,all_dmap];first | done | rfl | (simp;done),?_⟩;simp [mkS,Abs.get,C.refsLtT,C.refsLt,C.refsLt1])
  ·rw [c_,Bool.and_true] at hinv2
   rw [←hinv2] at i1
   have hhe:=fcE_eq r.head
   cases b with
   | false =>
    refine rS_ Tryz.func6 ?_
    simp only [go_sem,seval,wi]
    all_goals refine hnext L _ ⟨i1,by omega⟩ wk1_
   | true =>
    rw [if_pos rfl,List.map_cons] at i1
    refine rS_ Tryz.func6 ?_
    simp only [go_sem,seval,hrE,wi]
    repeat' (first
     | ((refine ⟨sd,?_⟩)<;>(try simp only [go_sem,seval,hrE,wi]))
     | fail)
    all_goals refine hnext (L++[r.head]) _ ⟨by rw [←i1];simp,by simp;omega⟩ (by refine ⟨by simp [mkS,hhe],by simp [mkS,hhe],by simp only [mkS,b_,c_,O.refsLt,C.refsLt,C.refsLt1,all_dmap];first | done | rfl | (simp;done),?_⟩;simp [mkS,Abs.get,C.refsLtT,C.refsLt,C.refsLt1])
 ·obtain ⟨i1,i2⟩:=hinv
  rw [List.filter_nil,List.map_nil,List.append_nil] at i1
  have hmem:∀f,f∈L↔f∈Z:=fun f=>by
   rw [hnm f,i1,f_]
   exact ⟨fun ⟨r,h1,h2⟩=>⟨r,(d_.1 h1).1,(d_.1 h1).2,h2⟩,fun ⟨r,h1,h2,h3⟩=>⟨r,d_.2 ⟨h1,h2⟩,h3⟩⟩
  have w1:=withinL_fn L Z
  have w2:=withinL_fn Z L
  rw [within_of fun f hf=>(hmem f).1 hf] at w1
  rw [within_of fun f hf=>(hmem f).2 hf] at w2
  refine rS_ Tryz.func6 ?_
  simp only [go_sem,seval]
  repeat' (first
   | ((first
    | (refine w1.calls rfl ?_)
    | (refine w2.calls rfl ?_))<;>(try simp only [go_sem,seval]))
   | fail)
theorem lawFnGrounding (B:List UInt8):Gives Tryz.prog 6 [.sl (bytesD B)] (.d (.bool true)):=
 ACalls.frozen (ds:=[.sl (bytesD B)]) (m:=0) (lawFnGrounding_R B) (fun c H' ⟨h1,h2⟩ _=>by subst h1 h2;rfl)
end Go.Proofs.YtlajhmoomlgopaaGreat
