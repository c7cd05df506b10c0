import Derived.Test.YtlajhmoomlgopaaGreatW107
import Derived.Test.YtlajhmoomlgopaaGreatW41
import Derived.Test.YtlajhmoomlgopaaGreatW20
import Derived.Test.YtlajhmoomlgopaaGreatW22
import Derived.Test.YtlajhmoomlgopaaGreatW110
namespace Go.Proofs.YtlajhmoomlgopaaGreat
open Go.Abs
set_option maxRecDepth 100000
set_option maxHeartbeats 8000000
set_option linter.unusedSimpArgs false
set_option linter.unusedVariables false
theorem uniwts {u:List V} (hu:Uni u) (l:List V) (hl:∀v,v∈l→v∈u) (hn:l.length≤12):wtR (l.map V.enc)≤2000000:=by
 have:=oks_wtV l (List.all_eq_true.2 fun v hv=>hu.ok v (hl v hv))
 omega
def Over (G L R:List RV):Prop:=(L.length≤2000∧G=L++R)∨(L.length=2001∧∃X,G=L++X)
theorem Over.le {G L R:List RV} (h:Over G L R):L.length≤2001:=by rcases h with h | h<;>omega
theorem Over.full {G L R R':List RV} (h:Over G L R) (hl:¬L.length≤2000):Over G L R':=by
 rcases h with h | h
 ·omega
 ·exact Or.inr h
theorem Over.step {G L R R':List RV} {o:Option RV} (h:Over G L R) (hl:L.length≤2000) (hr:R=o.toList++R'):Over G (L++o.toList) R':=by
 rcases h with ⟨h1,h2⟩ | h
 ·subst hr
  have e:G=(L++o.toList)++R':=by rw [h2,List.append_assoc]
  have h3:(L++o.toList).length≤2001:=by cases o<;>simp<;>omega
  by_cases h4:(L++o.toList).length≤2000
  ·exact Or.inl ⟨h4,e⟩
  ·exact Or.inr ⟨by omega,_,e⟩
 ·omega
def vrs (n:Nat):List (List D):=intsD ((List.range n).map fun i:Nat=>(i:Int))
theorem vrs_0:vrs 0=[]:=rfl
end Go.Proofs.YtlajhmoomlgopaaGreat
namespace Go.Proofs.YtlajhmoomlgopaaGreat
open Go.Abs
set_option maxRecDepth 100000
set_option maxHeartbeats 8000000
set_option linter.unusedSimpArgs false
set_option linter.unusedVariables false
theorem nextF_ext (rs:List RV) {F G:List FcV} (h:∀f,f∈F↔f∈G):nextF rs F F=nextF rs G G:=by
 unfold nextF
 congr 2
 refine List.filter_congr fun r _=>?_
 unfold RV.fires
 simp only [h]
end Go.Proofs.YtlajhmoomlgopaaGreat
namespace Go.Proofs.YtlajhmoomlgopaaGreat
open Go.Abs
set_option maxRecDepth 100000
set_option maxHeartbeats 8000000
set_option linter.unusedSimpArgs false
set_option linter.unusedVariables false
theorem copyFact_T (rel:List UInt8) (vs:List V) (hl:vs.length≤100000000):ACalls Tryz.prog 55 [.d (.agg [.str rel,.sl (vs.map V.enc)])] [.hole] (fun c H'=>c=.agg [.d (.str rel),.own 0 1]∧∃e B,H'=[.tree 1 4 e (vs.map V.enc) B none]):=by
 have hct:=copyTerms_T vs hl
 unfold cpTs at hct
 refine aE_ Tryz.func55 ?_
 refine run_sound Tryz.func55 mixed 3 _ _ (by kernel_rfl) ?_
 simp only [go_sem,seval,run.eq_1]
 refine AW.drawA mixed #[true,true,true,true,true,true,false] [(1,.box [.d (.str rel),.d (.sl (vs.map V.enc))])] [] [0,1,2,3,4,5] [6] none (by kernel_rfl) trivial (by simp [holdsB]) ?_
 simp only [go_sem,seval]
 repeat' (first
  | ((refine ACalls.fresh (ds:=[.sl (vs.map V.enc)]) (m:=1) hct [0] rfl rfl (by simp) (by simp) ?_<;>(rintro c H' ⟨rfl,e1,B1,rfl⟩ _;refine ⟨rfl,rfl,?_⟩))<;>(try simp only [go_sem,seval]))
  | fail)
 refine rS_ Tryz.func55 ?_
 simp only [go_sem,seval]
 repeat' (first
  | (exact ⟨_,_,rfl⟩)
  | fail)
theorem copyFact_D (f:FcV) (hl:f.2.length≤100000000):Gives Tryz.prog 55 [.agg [.str f.1,.sl (f.2.map V.enc)]] (.d (.agg [.str f.1,.sl (f.2.map V.enc)])):=by
 have h:=copyFact_T f.1 f.2 hl
 refine ACalls.frozen (ds:=[.agg [.str f.1,.sl (f.2.map V.enc)]]) (m:=1) h (fun c H' ⟨h1,e,B,h2⟩ _=>?_)
 subst h1 h2;rfl
theorem copyFacts_D (l:List FcV) (hl:l.length≤2000000) (hw:∀x,x∈l→x.2.length≤100000000):Gives Tryz.prog 36 [.sl (l.map fcE)] (.d (.sl (l.map fcE))):=by
 have hmx:maxLen=9223372036854775807:=rfl
 refine aE_ Tryz.func36 ?_
 refine rS_ Tryz.func36 ?_
 simp only [go_sem,seval]
 refine AW.adopt 3 2 37 (by decide) rfl ?_
 refine AW.rng l [7,8] 9 7 (fun p:List FcV=>[(3,.own 0 p.length)]) (fun _ p=>[.grow p.length 2 37 (p.map fcE)]) (fun r p=>p++r=l) [] rfl (by simp) rfl wk1_ (fun i x r p hxi hdr hlt hm hinv hnext=>?_) (fun p hinv=>?_)
 ·have hc:=copyFact_D x (hw x (List.mem_of_getElem? hxi))
  have hpl:p.length+(r.length+1)=l.length:=by rw [←hinv];simp
  have hX:=fcE_eq x
  refine rS_ Tryz.func36 ?_
  simp only [go_sem,seval,hlt,idx_of hxi,fcE_eq]
  repeat' (first
   | (simp (disch:=omega) only [wrap_ok])
   | ((first
    | (refine hc.calls rfl ?_)
    | (refine ⟨sd,?_⟩))<;>(try simp only [go_sem,seval,hlt,idx_of hxi,fcE_eq]))
   | fail)
  refine hnext (p++[x]) _ (by simp [←hinv]) (by refine ⟨by simp [mkS,hX],by simp [mkS,hX],by simp only [mkS,List.all_cons,List.all_nil,O.refsLt,C.refsLt,C.refsLt1,all_dmap];first | done | rfl | (simp;done),?_⟩;simp [mkS,Abs.get,C.refsLtT,C.refsLt,C.refsLt1,hX])
 ·simp only [List.append_nil] at hinv
  subst hinv
  refine rS_ Tryz.func36 ?_
  simp only [go_sem,seval]
theorem rvsC_mem {u:List V} {x:Rl} {i:Int} {c:List Gl} {r:RV}:∀m k,r∈rvsC u x i c k m→∃w,rvFine u c (gVals u (x.arity+x.locals).toNat w)=true∧r=rvOf x i c (gVals u (x.arity+x.locals).toNat w)
 | 0,k,h=>by simp [rvsC] at h
 | m+1,k,h=>by
  rw [rvsC_s] at h
  rcases List.mem_append.1 h with h | h
  ·unfold rvK at h
   split at h
   ·rename_i hf
    simp at h
    exact ⟨k,hf,h⟩
   ·simp at h
  ·exact rvsC_mem m (k+1) h
theorem rvsB_mem {u:List V} {x:Rl} {n:Nat} {r:RV}:∀(cs:List (List Gl)) (i:Int),r∈rvsB u x n i cs→∃c,c∈cs∧∃j w,rvFine u c (gVals u (x.arity+x.locals).toNat w)=true∧r=rvOf x j c (gVals u (x.arity+x.locals).toNat w)
 | [],i,h=>by simp [rvsB] at h
 | c :: cs,i,h=>by
  rw [rvsB_s] at h
  rcases List.mem_append.1 h with h | h
  ·obtain ⟨w,h1,h2⟩:=rvsC_mem _ _ h
   exact ⟨c,by simp,i,w,h1,h2⟩
  ·obtain ⟨c',h1,h2⟩:=rvsB_mem cs (i+1) h
   exact ⟨c',by simp [h1],h2⟩
theorem gnd_mem {u:List V} {r:RV}:∀rels:List Rl,r∈Pg.gnd u rels→∃x,x∈rels∧∃c,c∈x.body.clsS∧∃j w,rvFine u c (gVals u (x.arity+x.locals).toNat w)=true∧r=rvOf x j c (gVals u (x.arity+x.locals).toNat w)
 | [],h=>by simp [Pg.gnd] at h
 | x :: xs,h=>by
  rw [show Pg.gnd u (x :: xs)=rvsB u x (x.ways u) 0 x.body.clsS++Pg.gnd u xs from rfl] at h
  rcases List.mem_append.1 h with h | h
  ·obtain ⟨c,h1,h2⟩:=rvsB_mem _ _ h
   exact ⟨x,by simp,c,h1,h2⟩
  ·obtain ⟨y,h1,h2⟩:=gnd_mem xs h
   exact ⟨y,by simp [h1],h2⟩
theorem gr_mem {p:Pg} {u:List V} {rs:List RV} (h:p.gr u=some rs):rs=Pg.gnd u p.rels∧rs.length≤2000:=by
 unfold Pg.gr at h
 split at h
 ·rename_i h2
  obtain rfl:=Option.some.inj h
  exact ⟨rfl,h2.2⟩
 ·cases h
theorem gr_head {p:Pg} {u:List V} {rs:List RV} (hp:pgOk p=true) (hu:Uni u) (h:p.gr u=some rs):∀r,r∈rs→(∀v,v∈r.head.2→v∈u)∧r.head.2.length≤12:=fun r hr=>by
 obtain ⟨rfl,_⟩:=gr_mem h
 obtain ⟨x,hx,c,_,j,w,_,rfl⟩:=gnd_mem _ hr
 obtain ⟨z1,z2,z3,z4⟩:=Pg.dims hp hx
 have hvl:=gVals_len u (x.arity+x.locals).toNat w
 refine ⟨fun v hv=>gVals_mem hu.pos _ _ v (List.mem_of_mem_take hv),?_⟩
 simp only [rvOf,List.length_take];omega
theorem next_head {p:Pg} {u:List V} {rs:List RV} (hp:pgOk p=true) (hu:Uni u) (h:p.gr u=some rs) (F G:List FcV):∀f,f∈nextF rs F G→(∀v,v∈f.2→v∈u)∧f.2.length≤12:=fun f hf=>by
 obtain ⟨r,h1,_,rfl⟩:=nextF_mem.1 hf
 exact gr_head hp hu h r h1
def Fc.toV (f:Fc):FcV:=(f.rel,f.args.map Tm.V)
def csC (o:Option (List FcV)):C:=match o with | some l=>.tup [.d (.sl (l.map fcE)),.d (.bool true)] | none=>.tup [.d (.sl []),.d (.bool false)]
def Pg.csq (p:Pg) (u:List Tm) (fs:List Fc):Option (List FcV):=
 if pgOk p=true∧uniOk u=true∧fs.all p.factFits=true then (p.gr (u.map Tm.V)).map (fun rs=>nextF rs (fs.map Fc.toV) (fs.map Fc.toV)) else none
theorem csC_none:csC none=.tup [.d (.sl []),.d (.bool false)]:=rfl
theorem csC_some (l:List FcV):csC (some l)=.tup [.d (.sl (l.map fcE)),.d (.bool true)]:=rfl
theorem fits_V {p:Pg} {f:Fc} (h:p.factFits f=true):f.enc=fcE (Fc.toV f):=by
 unfold Pg.factFits at h
 split at h
 ·simp only [Bool.and_eq_true] at h
  rw [Fc.enc_eq,fcE_eq]
  unfold Fc.toV
  dsimp only
  conv=>lhs;rw [grounds_V h.2]
  rw [enc_tms]
 ·cases h
theorem fits_Vs {p:Pg} {fs:List Fc} (h:fs.all p.factFits=true):fs.map Fc.enc=(fs.map Fc.toV).map fcE:=by
 rw [List.map_map]
 exact List.map_congr_left fun f hf=>fits_V (List.all_eq_true.1 h f hf)
theorem wtR_mem {l:List (List D)} {x:List D} (h:x∈l):wtL x≤wtR l:=by
 have:=wtL_lt l x h;omega
theorem wtR_len (l:List (List D)):l.length≤wtR l:=by
 have:=sumW_le l 0;simp [sumW] at this;omega
theorem iConsequences_D (p:Pg) (u:List Tm) (fs:List Fc) (hw:wtL p.enc≤1048576) (hwu:∀t,t∈u→wtL t.enc≤1048576) (hlu:u.length≤9000000) (hwf:wtR (fs.map Fc.enc)≤1048576):Gives Tryz.prog 12 [.agg p.enc,.sl (u.map Tm.enc),.sl (fs.map Fc.enc)] (csC (Pg.csq p u fs)):=by
 have hmx:maxLen=9223372036854775807:=rfl
 have ha:=iProgramOk_fn p (by omega)
 have hb:=iUniverseOk_fn u hwu hlu
 have hfl:fs.length≤1048576:=by have:=wtR_len (fs.map Fc.enc);simp at this;omega
 obtain ⟨RES,hRES⟩:∃RES,csC (Pg.csq p u fs)=RES:=⟨_,rfl⟩
 rw [hRES]
 unfold Pg.csq at hRES
 by_cases h1:pgOk p=true
 ·by_cases h2:uniOk u=true
  ·rw [h1] at ha
   rw [h2] at hb
   have hcl:∀d,d=fs→d.all p.factFits=fs.all p.factFits:=fun d e=>by rw [e]
   refine aE_ Tryz.func12 ?_
   refine rS_ Tryz.func12 ?_
   simp only [go_sem,seval]
   repeat' (first
    | ((first
     | (refine ha.calls rfl ?_)
     | (refine hb.calls rfl ?_))<;>(try simp only [go_sem,seval]))
    | fail)
   refine AW.rng fs [1,2,3,20,21] 22 20 (fun _:Unit=>[]) (fun H _=>H) (fun r _=>∃d,fs=d++r∧d.all p.factFits=true) () rfl (by simp) ⟨[],rfl,rfl⟩ wk1_ (fun j f q b hyj hdr2 hlt2 hm2 hinv2 hnext2=>?_) (fun b hinv2=>?_)
   ·obtain ⟨d,d1,d2⟩:=hinv2
    have hfm:=List.mem_of_getElem? hyj
    have hff:=factFits_fn p f (Nat.le_trans (wtR_mem (List.mem_map.2 ⟨f,hfm,rfl⟩)) hwf)
    rw [Fc.enc_eq] at hff
    cases hq:p.factFits f with
    | true =>
     rw [hq] at hff
     refine rS_ Tryz.func12 ?_
     simp only [go_sem,seval,hlt2,idx_of hyj,Fc.enc_eq]
     repeat' (first
      | (simp (disch:=omega) only [wrap_ok])
      | (refine hnext2 () _ ⟨d++[f],by rw [d1];simp,by rw [List.all_append,d2];simp [hq]⟩ wk1_)
      | ((refine hff.calls rfl ?_)<;>(try simp only [go_sem,seval,hlt2,idx_of hyj,Fc.enc_eq]))
      | fail)
    | false =>
     rw [hq] at hff
     have hn:¬fs.all p.factFits=true:=fun h=>by have:=List.all_eq_true.1 h f hfm;rw [hq] at this;cases this
     rw [if_neg (fun h=>hn h.2.2),csC_none] at hRES
     rw [←hRES]
     refine rS_ Tryz.func12 ?_
     simp only [go_sem,seval,hlt2,idx_of hyj,Fc.enc_eq]
     repeat' (first
      | ((refine hff.calls rfl ?_)<;>(try simp only [go_sem,seval,hlt2,idx_of hyj,Fc.enc_eq]))
      | fail)
   ·obtain ⟨d,d1,d2⟩:=hinv2
    rw [List.append_nil] at d1
    subst d1
    rw [if_pos ⟨h1,h2,d2⟩] at hRES
    obtain ⟨hu,he⟩:=Uni.of h2
    have hee:u.map Tm.enc=(u.map Tm.V).map V.enc:=by rw [←enc_tms,←he]
    have hfe:=fits_Vs d2
    have hgr:=groundRules_fn p (u.map Tm.V) h1 hw hu
    have hfl2:(fs.map Fc.toV).length≤1048576:=by rw [List.length_map];exact hfl
    rw [hee,hfe]
    generalize fs.map Fc.toV=F at *
    have hso:=sortFacts_fn F (by omega)
    cases hg:p.gr (u.map Tm.V) with
    | none =>
     rw [hg,grC_none] at hgr
     rw [hg,Option.map_none,csC_none] at hRES
     rw [←hRES]
     refine rS_ Tryz.func12 ?_
     simp only [go_sem,seval]
     repeat' (first
      | ((refine hgr.calls rfl ?_)<;>(try simp only [go_sem,seval]))
      | fail)
    | some rs =>
     rw [hg,grC_some] at hgr
     obtain ⟨_,hrl⟩:=gr_mem hg
     have hnh:=next_head h1 hu hg F F
     rw [hg,Option.map_some,csC_some] at hRES
     have hsl:=sortC_len (c:=FcV.cmp) F
     have hcq:=consequences_fn rs (sortC FcV.cmp F) (sortC_asc FcV.cmp_lin F) (by omega) (by omega)
     rw [nextF_ext rs (F:=sortC FcV.cmp F) (G:=F) (fun f=>sortC_mem FcV.cmp_lin F f)] at hcq
     have hnl:=nextF_len rs F F
     have hcf:=copyFacts_D (nextF rs F F) (by omega) (fun x hx=>by have:=(hnh x hx).2;omega)
     generalize nextF rs F F=R2 at *
     generalize sortC FcV.cmp F=F2 at *
     rw [←hRES]
     refine rS_ Tryz.func12 ?_
     simp only [go_sem,seval]
     repeat' (first
      | ((first
       | (refine hgr.calls rfl ?_)
       | (refine hso.calls rfl ?_)
       | (refine hcq.calls rfl ?_)
       | (refine hcf.calls rfl ?_))<;>(try simp only [go_sem,seval]))
      | fail)
  ·simp only [Bool.not_eq_true] at h2
   rw [h1] at ha
   rw [h2] at hb hRES
   rw [if_neg (fun h=>by cases h.2.1),csC_none] at hRES
   rw [←hRES]
   refine aE_ Tryz.func12 ?_
   refine rS_ Tryz.func12 ?_
   simp only [go_sem,seval]
   repeat' (first
    | ((first
     | (refine ha.calls rfl ?_)
     | (refine hb.calls rfl ?_))<;>(try simp only [go_sem,seval]))
    | fail)
 ·simp only [Bool.not_eq_true] at h1
  rw [h1] at ha hRES
  rw [if_neg (fun h=>by cases h.1),csC_none] at hRES
  rw [←hRES]
  refine aE_ Tryz.func12 ?_
  refine rS_ Tryz.func12 ?_
  simp only [go_sem,seval]
  repeat' (first
   | ((refine ha.calls rfl ?_)<;>(try simp only [go_sem,seval]))
   | fail)
end Go.Proofs.YtlajhmoomlgopaaGreat
