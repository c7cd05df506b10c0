import Derived.Test.YtlajhmoomlgopaaGreatW111
import Derived.Test.YtlajhmoomlgopaaGreatW108
import Derived.Test.YtlajhmoomlgopaaGreatFx
import Derived.Test.YtlajhmoomlgopaaGreatA9
import Derived.Test.YtlajhmoomlgopaaGreatP11
import Derived.Test.YtlajhmoomlgopaaGreatW3
import Derived.Test.YtlajhmoomlgopaaGreatW6
import Derived.Test.YtlajhmoomlgopaaGreatP12
import Derived.Test.YtlajhmoomlgopaaGreatW91
import Derived.Test.YtlajhmoomlgopaaGreatP14
import Derived.Test.YtlajhmoomlgopaaGreatA10
import Derived.Test.YtlajhmoomlgopaaGreatW103
import Derived.Test.YtlajhmoomlgopaaGreatP15
open Bool renaming and_eq_true→a_
open List renaming length_cons→b_,getElem?_eq_some_iff→c_,length_map→d_,all_eq_true→e_,mem_map→f_,map_congr_left→g_,map_take→h_,map_drop→i_,all_cons→j_,map_map→k_,all_nil→l_,mem_append→m_,getElem?_eq_none_iff→n_,map_cons→o_,getElem?_eq_getElem→p_
namespace Go.Proofs.YtlajhmoomlgopaaGreat
open Go.Abs
set_option maxRecDepth 100000
set_option maxHeartbeats 8000000
set_option linter.unusedSimpArgs false
set_option linter.unusedVariables false
theorem copyFact_T (rel:List UInt8) (vs:List V) (hl:vs.length≤100000000):ACalls Tryz.prog 55 [.d (.agg [.str rel,.sl (vs.map V.enc)])] [.hole] (fun c H'=>c=.agg [.d (.str rel),.own 0 1]∧∃e B,H'=[.tree 1 4 e (vs.map V.enc) B none]):=by
 have hct:=copyTerms_T vs hl
 unfold cpTs at hct
 refine aE_ Tryz.func55 ?_
 refine run_sound Tryz.func55 mixed 3 _ _ (by kernel_rfl) ?_
 simp only [go_sem,seval,run.eq_1]
 refine AW.drawA mixed #[true,true,true,true,true,true,false] [(1,.box [.d (.str rel),.d (.sl (vs.map V.enc))])] [] [0,1,2,3,4,5] [6] none (by kernel_rfl) trivial (by simp [holdsB]) ?_
 simp only [go_sem,seval]
 repeat' (first
  | ((refine ACalls.fresh (ds:=[.sl (vs.map V.enc)]) (m:=1) hct [0] rfl rfl (by simp) (by simp) ?_<;>(rintro c H' ⟨rfl,e1,B1,rfl⟩ _;refine ⟨rfl,rfl,?_⟩))<;>(try simp only [go_sem,seval]))
  | fail)
 refine rS_ Tryz.func55 ?_
 simp only [go_sem,seval]
 repeat' (first
  | (exact ⟨_,_,rfl⟩)
  | fail)
theorem copyFact_D (f:FcV) (hl:f.2.length≤100000000):Gives Tryz.prog 55 [.agg [.str f.1,.sl (f.2.map V.enc)]] (.d (.agg [.str f.1,.sl (f.2.map V.enc)])):=by
 have h:=copyFact_T f.1 f.2 hl
 refine ACalls.frozen (ds:=[.agg [.str f.1,.sl (f.2.map V.enc)]]) (m:=1) h (fun c H' ⟨h1,e,B,h2⟩ _=>?_)
 subst h1 h2;rfl
theorem copyFacts_D (l:List FcV) (hl:l.length≤2000000) (hw:∀x,x∈l→x.2.length≤100000000):Gives Tryz.prog 36 [.sl (l.map fcE)] (.d (.sl (l.map fcE))):=by
 have hmx:maxLen=9223372036854775807:=rfl
 refine aE_ Tryz.func36 ?_
 refine rS_ Tryz.func36 ?_
 simp only [go_sem,seval]
 refine AW.adopt 3 2 37 (by decide) rfl ?_
 refine AW.rng l [7,8] 9 7 (fun p:List FcV=>[(3,.own 0 p.length)]) (fun _ p=>[.grow p.length 2 37 (p.map fcE)]) (fun r p=>p++r=l) [] rfl (by simp) rfl wk1_ (fun i x r p hxi hdr hlt hm hinv hnext=>?_) (fun p hinv=>?_)
 ·have hc:=copyFact_D x (hw x (List.mem_of_getElem? hxi))
  have hpl:p.length+(r.length+1)=l.length:=by rw [←hinv];simp
  have hX:=fcE_eq x
  refine rS_ Tryz.func36 ?_
  simp only [go_sem,seval,hlt,idx_of hxi,fcE_eq]
  repeat' (first
   | (simp (disch:=omega) only [wrap_ok])
   | ((first
    | (refine hc.calls rfl ?_)
    | (refine ⟨sd,?_⟩))<;>(try simp only [go_sem,seval,hlt,idx_of hxi,fcE_eq]))
   | fail)
  refine hnext (p++[x]) _ (by simp [←hinv]) (by refine ⟨by simp [mkS,hX],by simp [mkS,hX],by simp only [mkS,j_,l_,O.refsLt,C.refsLt,C.refsLt1,all_dmap];first | done | rfl | (simp;done),?_⟩;simp [mkS,Abs.get,C.refsLtT,C.refsLt,C.refsLt1,hX])
 ·simp only [List.append_nil] at hinv
  subst hinv
  refine rS_ Tryz.func36 ?_
  simp only [go_sem,seval]
theorem rvsC_mem {u:List V} {x:Rl} {i:Int} {c:List Gl} {r:RV}:∀m k,r∈rvsC u x i c k m→∃w,rvFine u c (gVals u (x.arity+x.locals).toNat w)=true∧r=rvOf x i c (gVals u (x.arity+x.locals).toNat w)
 | 0,k,h=>by simp [rvsC] at h
 | m+1,k,h=>by
  rw [rvsC_s] at h
  rcases m_.1 h with h | h
  ·unfold rvK at h
   split at h
   ·rename_i hf
    simp at h
    exact ⟨k,hf,h⟩
   ·simp at h
  ·exact rvsC_mem m (k+1) h
theorem rvsB_mem {u:List V} {x:Rl} {n:Nat} {r:RV}:∀(cs:List (List Gl)) (i:Int),r∈rvsB u x n i cs→∃c,c∈cs∧∃j w,rvFine u c (gVals u (x.arity+x.locals).toNat w)=true∧r=rvOf x j c (gVals u (x.arity+x.locals).toNat w)
 | [],i,h=>by simp [rvsB] at h
 | c :: cs,i,h=>by
  rw [rvsB_s] at h
  rcases m_.1 h with h | h
  ·obtain ⟨w,h1,h2⟩:=rvsC_mem _ _ h
   exact ⟨c,by simp,i,w,h1,h2⟩
  ·obtain ⟨c',h1,h2⟩:=rvsB_mem cs (i+1) h
   exact ⟨c',by simp [h1],h2⟩
theorem gnd_mem {u:List V} {r:RV}:∀rels:List Rl,r∈Pg.gnd u rels→∃x,x∈rels∧∃c,c∈x.body.clsS∧∃j w,rvFine u c (gVals u (x.arity+x.locals).toNat w)=true∧r=rvOf x j c (gVals u (x.arity+x.locals).toNat w)
 | [],h=>by simp [Pg.gnd] at h
 | x :: xs,h=>by
  rw [show Pg.gnd u (x :: xs)=rvsB u x (x.ways u) 0 x.body.clsS++Pg.gnd u xs from rfl] at h
  rcases m_.1 h with h | h
  ·obtain ⟨c,h1,h2⟩:=rvsB_mem _ _ h
   exact ⟨x,by simp,c,h1,h2⟩
  ·obtain ⟨y,h1,h2⟩:=gnd_mem xs h
   exact ⟨y,by simp [h1],h2⟩
theorem gr_mem {p:Pg} {u:List V} {rs:List RV} (h:p.gr u=some rs):rs=Pg.gnd u p.rels∧rs.length≤2000:=by
 unfold Pg.gr at h
 split at h
 ·rename_i h2
  obtain rfl:=Option.some.inj h
  exact ⟨rfl,h2.2⟩
 ·cases h
theorem gr_head {p:Pg} {u:List V} {rs:List RV} (hp:pgOk p=true) (hu:Uni u) (h:p.gr u=some rs):∀r,r∈rs→(∀v,v∈r.head.2→v∈u)∧r.head.2.length≤12:=fun r hr=>by
 obtain ⟨rfl,_⟩:=gr_mem h
 obtain ⟨x,hx,c,_,j,w,_,rfl⟩:=gnd_mem _ hr
 obtain ⟨z1,z2,z3,z4⟩:=Pg.dims hp hx
 have hvl:=gVals_len u (x.arity+x.locals).toNat w
 refine ⟨fun v hv=>gVals_mem hu.pos _ _ v (List.mem_of_mem_take hv),?_⟩
 simp only [rvOf,List.length_take];omega
theorem next_head {p:Pg} {u:List V} {rs:List RV} (hp:pgOk p=true) (hu:Uni u) (h:p.gr u=some rs) (F G:List FcV):∀f,f∈nextF rs F G→(∀v,v∈f.2→v∈u)∧f.2.length≤12:=fun f hf=>by
 obtain ⟨r,h1,_,rfl⟩:=nextF_mem.1 hf
 exact gr_head hp hu h r h1
def Fc.toV (f:Fc):FcV:=(f.rel,f.args.map Tm.V)
def csC (o:Option (List FcV)):C:=match o with | some l=>.tup [.d (.sl (l.map fcE)),.d (.bool true)] | none=>.tup [.d (.sl []),.d (.bool false)]
def Pg.csq (p:Pg) (u:List Tm) (fs:List Fc):Option (List FcV):=
 if pgOk p=true∧uniOk u=true∧fs.all p.factFits=true then (p.gr (u.map Tm.V)).map (fun rs=>nextF rs (fs.map Fc.toV) (fs.map Fc.toV)) else none
theorem csC_none:csC none=.tup [.d (.sl []),.d (.bool false)]:=rfl
theorem csC_some (l:List FcV):csC (some l)=.tup [.d (.sl (l.map fcE)),.d (.bool true)]:=rfl
theorem fits_V {p:Pg} {f:Fc} (h:p.factFits f=true):f.enc=fcE (Fc.toV f):=by
 unfold Pg.factFits at h
 split at h
 ·simp only [a_] at h
  rw [Fc.enc_eq,fcE_eq]
  unfold Fc.toV
  dsimp only
  conv=>lhs;rw [grounds_V h.2]
  rw [enc_tms]
 ·cases h
theorem fits_Vs {p:Pg} {fs:List Fc} (h:fs.all p.factFits=true):fs.map Fc.enc=(fs.map Fc.toV).map fcE:=by
 rw [k_]
 exact g_ fun f hf=>fits_V (e_.1 h f hf)
theorem wtR_mem {l:List (List D)} {x:List D} (h:x∈l):wtL x≤wtR l:=by
 have:=wtL_lt l x h;omega
theorem wtR_len (l:List (List D)):l.length≤wtR l:=by
 have:=sumW_le l 0;simp [sumW] at this;omega
theorem iConsequences_D (p:Pg) (u:List Tm) (fs:List Fc) (hw:wtL p.enc≤1048576) (hwu:∀t,t∈u→wtL t.enc≤1048576) (hlu:u.length≤9000000) (hwf:wtR (fs.map Fc.enc)≤1048576):Gives Tryz.prog 12 [.agg p.enc,.sl (u.map Tm.enc),.sl (fs.map Fc.enc)] (csC (Pg.csq p u fs)):=by
 have hmx:maxLen=9223372036854775807:=rfl
 have ha:=iProgramOk_fn p (by omega)
 have hb:=iUniverseOk_fn u hwu hlu
 have hfl:fs.length≤1048576:=by have:=wtR_len (fs.map Fc.enc);simp at this;omega
 obtain ⟨RES,hRES⟩:∃RES,csC (Pg.csq p u fs)=RES:=⟨_,rfl⟩
 rw [hRES]
 unfold Pg.csq at hRES
 by_cases h1:pgOk p=true
 ·by_cases h2:uniOk u=true
  ·rw [h1] at ha
   rw [h2] at hb
   have hcl:∀d,d=fs→d.all p.factFits=fs.all p.factFits:=fun d e=>by rw [e]
   refine aE_ Tryz.func12 ?_
   refine rS_ Tryz.func12 ?_
   simp only [go_sem,seval]
   repeat' (first
    | ((first
     | (refine ha.calls rfl ?_)
     | (refine hb.calls rfl ?_))<;>(try simp only [go_sem,seval]))
    | fail)
   refine AW.rng fs [1,2,3,20,21] 22 20 (fun _:Unit=>[]) (fun H _=>H) (fun r _=>∃d,fs=d++r∧d.all p.factFits=true) () rfl (by simp) ⟨[],rfl,rfl⟩ wk1_ (fun j f q b hyj hdr2 hlt2 hm2 hinv2 hnext2=>?_) (fun b hinv2=>?_)
   ·obtain ⟨d,d1,d2⟩:=hinv2
    have hfm:=List.mem_of_getElem? hyj
    have hff:=factFits_fn p f (Nat.le_trans (wtR_mem (f_.2 ⟨f,hfm,rfl⟩)) hwf)
    rw [Fc.enc_eq] at hff
    cases hq:p.factFits f with
    | true =>
     rw [hq] at hff
     refine rS_ Tryz.func12 ?_
     simp only [go_sem,seval,hlt2,idx_of hyj,Fc.enc_eq]
     repeat' (first
      | (simp (disch:=omega) only [wrap_ok])
      | (refine hnext2 () _ ⟨d++[f],by rw [d1];simp,by rw [List.all_append,d2];simp [hq]⟩ wk1_)
      | ((refine hff.calls rfl ?_)<;>(try simp only [go_sem,seval,hlt2,idx_of hyj,Fc.enc_eq]))
      | fail)
    | false =>
     rw [hq] at hff
     have hn:¬fs.all p.factFits=true:=fun h=>by have:=e_.1 h f hfm;rw [hq] at this;cases this
     rw [if_neg (fun h=>hn h.2.2),csC_none] at hRES
     rw [←hRES]
     refine rS_ Tryz.func12 ?_
     simp only [go_sem,seval,hlt2,idx_of hyj,Fc.enc_eq]
     repeat' (first
      | ((refine hff.calls rfl ?_)<;>(try simp only [go_sem,seval,hlt2,idx_of hyj,Fc.enc_eq]))
      | fail)
   ·obtain ⟨d,d1,d2⟩:=hinv2
    rw [List.append_nil] at d1
    subst d1
    rw [if_pos ⟨h1,h2,d2⟩] at hRES
    obtain ⟨hu,he⟩:=Uni.of h2
    have hee:u.map Tm.enc=(u.map Tm.V).map V.enc:=by rw [←enc_tms,←he]
    have hfe:=fits_Vs d2
    have hgr:=groundRules_fn p (u.map Tm.V) h1 hw hu
    have hfl2:(fs.map Fc.toV).length≤1048576:=by rw [d_];exact hfl
    rw [hee,hfe]
    generalize fs.map Fc.toV=F at *
    have hso:=sortFacts_fn F (by omega)
    cases hg:p.gr (u.map Tm.V) with
    | none =>
     rw [hg,grC_none] at hgr
     rw [hg,Option.map_none,csC_none] at hRES
     rw [←hRES]
     refine rS_ Tryz.func12 ?_
     simp only [go_sem,seval]
     repeat' (first
      | ((refine hgr.calls rfl ?_)<;>(try simp only [go_sem,seval]))
      | fail)
    | some rs =>
     rw [hg,grC_some] at hgr
     obtain ⟨_,hrl⟩:=gr_mem hg
     have hnh:=next_head h1 hu hg F F
     rw [hg,Option.map_some,csC_some] at hRES
     have hsl:=sortC_len (c:=FcV.cmp) F
     have hcq:=consequences_fn rs (sortC FcV.cmp F) (sortC_asc FcV.cmp_lin F) (by omega) (by omega)
     rw [nextF_ext rs (F:=sortC FcV.cmp F) (G:=F) (fun f=>sortC_mem FcV.cmp_lin F f)] at hcq
     have hnl:=nextF_len rs F F
     have hcf:=copyFacts_D (nextF rs F F) (by omega) (fun x hx=>by have:=(hnh x hx).2;omega)
     generalize nextF rs F F=R2 at *
     generalize sortC FcV.cmp F=F2 at *
     rw [←hRES]
     refine rS_ Tryz.func12 ?_
     simp only [go_sem,seval]
     repeat' (first
      | ((first
       | (refine hgr.calls rfl ?_)
       | (refine hso.calls rfl ?_)
       | (refine hcq.calls rfl ?_)
       | (refine hcf.calls rfl ?_))<;>(try simp only [go_sem,seval]))
      | fail)
  ·simp only [Bool.not_eq_true] at h2
   rw [h1] at ha
   rw [h2] at hb hRES
   rw [if_neg (fun h=>by cases h.2.1),csC_none] at hRES
   rw [←hRES]
   refine aE_ Tryz.func12 ?_
   refine rS_ Tryz.func12 ?_
   simp only [go_sem,seval]
   repeat' (first
    | ((first
     | (refine ha.calls rfl ?_)
     | (refine hb.calls rfl ?_))<;>(try simp only [go_sem,seval]))
    | fail)
 ·simp only [Bool.not_eq_true] at h1
  rw [h1] at ha hRES
  rw [if_neg (fun h=>by cases h.1),csC_none] at hRES
  rw [←hRES]
  refine aE_ Tryz.func12 ?_
  refine rS_ Tryz.func12 ?_
  simp only [go_sem,seval]
  repeat' (first
   | ((refine ha.calls rfl ?_)<;>(try simp only [go_sem,seval]))
   | fail)
set_option maxHeartbeats 4000000
theorem same_fn:∀a b:V,Gives Tryz.prog 129 [.agg a.enc,.agg b.enc] (.d (.bool (decide (a=b)))):=by
 intro a
 induction a with
 | pair x y ihx ihy =>
  intro b
  cases b with
  | pair u v =>
   have hx:=ihx u
   have hy:=ihy v
   rw [show decide (V.pair x y=V.pair u v)=(decide (x=u) && decide (y=v)) from by simp]
   generalize decide (x=u)=p at hx ⊢
   generalize decide (y=v)=q at hy ⊢
   cases p<;>cases q
   all_goals
    refine aE_ Tryz.func129 ?_
    refine rS_ Tryz.func129 ?_
    simp only [go_sem,seval,V.enc_pair]
    repeat' (first
     | (simp (disch:=omega) only [wrap_ok])
     | ((first
      | (refine hx.callQ rfl ?_)
      | (refine hy.callQ rfl ?_)
      | (refine AW.loop ?_<;>(refine rS_ Tryz.func129 ?_))
      | (refine AW.round ?_<;>(refine rS_ Tryz.func129 ?_)))<;>(try simp only [go_sem,seval,V.enc_pair]))
     | fail)
  | _ =>
   rw [show decide _=false from by simp]
   refine aE_ Tryz.func129 ?_
   refine rS_ Tryz.func129 ?_
   simp only [go_sem,seval,V.enc_pair,V.enc_nil,V.enc_var,V.enc_sym,V.enc_num]
 | nil =>
  intro b
  cases b with
  | nil =>
   rw [show decide _=true from by simp]
   refine aE_ Tryz.func129 ?_
   refine rS_ Tryz.func129 ?_
   simp only [go_sem,seval,V.enc_nil]
   repeat' (first
    | ((refine AW.loop ?_<;>(refine rS_ Tryz.func129 ?_))<;>(try simp only [go_sem,seval,V.enc_nil]))
    | fail)
  | _ =>
   rw [show decide _=false from by simp]
   refine aE_ Tryz.func129 ?_
   refine rS_ Tryz.func129 ?_
   simp only [go_sem,seval,V.enc_pair,V.enc_nil,V.enc_var,V.enc_sym,V.enc_num]
 | var n =>
  intro b
  cases b with
  | var m =>
   by_cases e:n=m
   ·subst e
    rw [show decide _=true from by simp]
    refine aE_ Tryz.func129 ?_
    refine rS_ Tryz.func129 ?_
    simp only [go_sem,seval,V.enc_var]
    repeat' (first
     | ((refine AW.loop ?_<;>(refine rS_ Tryz.func129 ?_))<;>(try simp only [go_sem,seval,V.enc_var]))
     | fail)
   ·rw [show decide _=false from by simp [e]]
    refine aE_ Tryz.func129 ?_
    refine rS_ Tryz.func129 ?_
    simp only [go_sem,seval,V.enc_var,e]
    repeat' (first
     | ((refine br_n (fun hq=>?_) (fun hq=>?_))<;>(try simp only [go_sem,seval,V.enc_var,e,hq]))
     | fail)
    all_goals (exfalso;exact e (by assumption))
  | _ =>
   rw [show decide _=false from by simp]
   refine aE_ Tryz.func129 ?_
   refine rS_ Tryz.func129 ?_
   simp only [go_sem,seval,V.enc_pair,V.enc_nil,V.enc_var,V.enc_sym,V.enc_num]
 | num n =>
  intro b
  cases b with
  | num m =>
   by_cases e:n=m
   ·subst e
    rw [show decide _=true from by simp]
    refine aE_ Tryz.func129 ?_
    refine rS_ Tryz.func129 ?_
    simp only [go_sem,seval,V.enc_num]
    repeat' (first
     | ((refine AW.loop ?_<;>(refine rS_ Tryz.func129 ?_))<;>(try simp only [go_sem,seval,V.enc_num]))
     | fail)
   ·rw [show decide _=false from by simp [e]]
    refine aE_ Tryz.func129 ?_
    refine rS_ Tryz.func129 ?_
    simp only [go_sem,seval,V.enc_num,e]
    repeat' (first
     | ((refine br_n (fun hq=>?_) (fun hq=>?_))<;>(try simp only [go_sem,seval,V.enc_num,e,hq]))
     | fail)
    all_goals (exfalso;exact e (by assumption))
  | _ =>
   rw [show decide _=false from by simp]
   refine aE_ Tryz.func129 ?_
   refine rS_ Tryz.func129 ?_
   simp only [go_sem,seval,V.enc_pair,V.enc_nil,V.enc_var,V.enc_sym,V.enc_num]
 | sym n =>
  intro b
  cases b with
  | sym m =>
   by_cases e:n=m
   ·subst e
    rw [show decide _=true from by simp]
    refine aE_ Tryz.func129 ?_
    refine rS_ Tryz.func129 ?_
    simp only [go_sem,seval,V.enc_sym]
    repeat' (first
     | ((refine AW.loop ?_<;>(refine rS_ Tryz.func129 ?_))<;>(try simp only [go_sem,seval,V.enc_sym]))
     | fail)
   ·have e2:(n == m)=false:=by simpa using e
    rw [show decide _=false from by simp [e]]
    refine aE_ Tryz.func129 ?_
    refine rS_ Tryz.func129 ?_
    simp only [go_sem,seval,V.enc_sym,e2]
  | _ =>
   rw [show decide _=false from by simp]
   refine aE_ Tryz.func129 ?_
   refine rS_ Tryz.func129 ?_
   simp only [go_sem,seval,V.enc_pair,V.enc_nil,V.enc_var,V.enc_sym,V.enc_num]
theorem list_fn (a b:List V):Gives Tryz.prog 84 [.sl (a.map V.enc),.sl (b.map V.enc)] (.d (.bool (decide (a=b)))):=by
 have hmap:∀x:List V,(x.map V.enc).length=x.length:=fun x=>d_ _
 by_cases hl:a.length=b.length
 ·have n1:(a.length:Int)=(b.length:Int):=by omega
  refine aE_ Tryz.func84 ?_
  refine rS_ Tryz.func84 ?_
  simp only [go_sem,seval,hmap,n1]
  refine AW.rng a [1,12,13] 14 12 (fun _:List V=>[]) (fun H _=>H) (fun r s=>b.drop (a.length - r.length)=s∧s.length=r.length∧r.length≤a.length∧decide (a=b)=decide (r=s)) b rfl (by simp) ⟨by simp,hl.symm,Nat.le_refl _,rfl⟩ wk3_ (fun i x r s hxi hdr hlt hm hinv hnext=>?_) (fun s hinv=>?_)
  ·obtain ⟨i1,i2,i3,i4⟩:=hinv
   obtain ⟨y,t,rfl⟩:∃y t,s=y :: t:=by
    cases s with
    | nil=>simp at i2
    | cons y t=>exact ⟨y,t,rfl⟩
   simp only [b_] at i1 i2 i3
   have hil:i=a.length - (r.length+1):=by
    have:=congrArg List.length hdr
    simp only [List.length_drop,b_] at this
    omega
   have hyi:b[i]? = some y∧b.drop (i+1)=t:=by
    rw [←hil] at i1
    have hib:i<b.length:=by omega
    rw [List.drop_eq_getElem_cons hib] at i1
    exact ⟨by rw [p_ hib,(List.cons.inj i1).1],(List.cons.inj i1).2⟩
   have hyb:(b.map V.enc)[i]? = some y.enc:=by rw [List.getElem?_map,hyi.1];rfl
   have hlt2:(i:Int)<(b.length:Int):=by omega
   have hs:=same_fn x y
   by_cases e:x=y
   ·subst e
    rw [show decide (x=x)=true from by simp] at hs
    refine rS_ Tryz.func84 ?_
    simp only [go_sem,seval,hmap,hlt,hlt2,idx_of hxi,idx_of hyi.1]
    repeat' (first
     | (simp (disch:=omega) only [wrap_ok])
     | (refine hnext t _ ⟨by rw [show a.length - r.length=i+1 by omega];exact hyi.2,by omega,by omega,by rw [i4];simp⟩ wk3_)
     | ((refine hs.callQ rfl ?_)<;>(try simp only [go_sem,seval,hmap,hlt,hlt2,idx_of hxi,idx_of hyi.1]))
     | fail)
   ·rw [show decide (x=y)=false from by simp [e]] at hs
    rw [i4,show decide (x :: r=y :: t)=false from by simp [e]]
    refine rS_ Tryz.func84 ?_
    simp only [go_sem,seval,hmap,hlt,hlt2,idx_of hxi,idx_of hyi.1]
    repeat' (first
     | ((refine hs.callQ rfl ?_)<;>(try simp only [go_sem,seval,hmap,hlt,hlt2,idx_of hxi,idx_of hyi.1]))
     | fail)
  ·obtain ⟨i1,i2,i3,i4⟩:=hinv
   obtain rfl:s=[]:=by cases s with
    | nil=>rfl
    | cons y t=>simp at i2
   rw [i4]
   refine rS_ Tryz.func84 ?_
   simp only [go_sem,seval,hmap,n1]
 ·have n1:¬(a.length:Int)=(b.length:Int):=by omega
  rw [show decide (a=b)=false from by simp;exact fun e=>hl (by rw [e])]
  refine aE_ Tryz.func84 ?_
  refine rS_ Tryz.func84 ?_
  simp only [go_sem,seval,hmap,n1]
  repeat' (first
   | ((refine br_n (fun hq=>?_) (fun hq=>?_))<;>(try simp only [go_sem,seval,hmap,n1,hq]))
   | fail)
  all_goals (exfalso;omega)
set_option maxHeartbeats 8000000
theorem l02CmpV_fn (a b:V):Gives Tryz.prog 110 [.agg [.int .i64 a.kind,.int .i64 a.int,.str a.name,.sl (a.kids.map V.enc)],.agg [.int .i64 b.kind,.int .i64 b.int,.str b.name,.sl (b.kids.map V.enc)]] (.d (.int .i64 (a.cmp b))):=by
 have h:=l02Cmp_fn _ a b (Nat.le_refl _)
 rw [V.enc_eq a,V.enc_eq b] at h;exact h
theorem l02SameV_fn (a b:V):Gives Tryz.prog 111 [.agg [.int .i64 a.kind,.int .i64 a.int,.str a.name,.sl (a.kids.map V.enc)],.agg [.int .i64 b.kind,.int .i64 b.int,.str b.name,.sl (b.kids.map V.enc)]] (.d (.bool (decide (a.cmp b=0)))):=by
 have h:=l02Same_fn a b
 rw [V.enc_eq a,V.enc_eq b] at h;exact h
theorem l08Insert_fn (l:List V) (f:V) (ha:ascC V.cmp l) (hl:l.length≤2000000):Gives Tryz.prog 65 [.sl (l.map V.enc),.agg f.enc] (.d (.sl ((insC V.cmp l f).map V.enc))):=by
 have hmx:maxLen=9223372036854775807:=rfl
 have hmap:∀x:List V,(x.map V.enc).length=x.length:=fun x=>d_ _
 obtain ⟨RES,hRES⟩:∃RES,insC V.cmp l f=RES:=⟨_,rfl⟩
 have hFe:=V.enc_eq f
 rw [hRES,hFe]
 refine aE_ Tryz.func65 ?_
 refine rS_ Tryz.func65 ?_
 simp only [go_sem,seval,hmap]
 refine AW.lp [0,3] (fun k:Nat=>[(5,.d (.int .i64 (k:Int)))]) (fun H _=>H) (fun k=>k≤l.length∧∀i y,k≤i→l[i]? = some y→¬y.cmp f<0) (fun k=>k) l.length ⟨Nat.le_refl _,fun i y hi hy=>by have:=(c_.1 hy).1;omega⟩ wk1_ ?_
 intro k hk hnk
 obtain ⟨k1,k2⟩:=hk
 have stop:(∀i y,i<k→l[i]? = some y→y.cmp f<0)→insC V.cmp l f=if eqAt V.cmp l k f then l else l.take k++f :: l.drop k:=fun h=>insC_at V.cmp_lin l f k ha k1 h k2
 by_cases hkz:k=0
 ·have n1:¬(0:Int)<(k:Int):=by omega
  have hst:=stop (fun i y hi=>by omega)
  clear stop hnk
  rw [hRES] at hst
  have hks:(0:Int)≤(k:Int):=by omega
  cases hlk:l[k]? with
  | none =>
   have hkl:k=l.length:=by have:=n_.1 hlk;omega
   have m1:¬(k:Int)<(l.length:Int):=by omega
   have hq:eqAt V.cmp l k f=false:=by unfold eqAt;rw [hlk]
   rw [hq,if_neg (by simp)] at hst
   rw [hst]
   refine rS_ Tryz.func65 ?_
   simp only [go_sem,seval,n1,hmap,m1,hks]
   skip
   repeat' (first
    | ((refine ⟨sd,?_⟩)<;>(try simp only [go_sem,seval,n1,hmap,m1,hks]))
    | fail)
   all_goals simp [hFe,h_,i_]
  | some z =>
   have m1:(k:Int)<(l.length:Int):=by have:=(c_.1 hlk).1;omega
   have hz:=l02SameV_fn z f
   by_cases hzf:z.cmp f=0
   ·have hq:eqAt V.cmp l k f=true:=by unfold eqAt;rw [hlk];simp [hzf]
    rw [hq,if_pos rfl] at hst
    rw [hzf] at hz
    rw [hst]
    refine rS_ Tryz.func65 ?_
    simp only [go_sem,seval,n1,hmap,m1,hks,idx_of hlk,V.enc_eq]
    skip
    repeat' (first
     | ((refine hz.callQ rfl ?_)<;>(try simp only [go_sem,seval,n1,hmap,m1,hks,idx_of hlk,V.enc_eq]))
     | fail)
   ·have hq:eqAt V.cmp l k f=false:=by unfold eqAt;rw [hlk];simp [hzf]
    rw [hq,if_neg (by simp)] at hst
    rw [decide_eq_false hzf] at hz
    rw [hst]
    refine rS_ Tryz.func65 ?_
    simp only [go_sem,seval,n1,hmap,m1,hks,idx_of hlk,V.enc_eq,hzf]
    skip
    repeat' (first
     | ((first
      | (refine hz.callQ rfl ?_)
      | (refine ⟨sd,?_⟩))<;>(try simp only [go_sem,seval,n1,hmap,m1,hks,idx_of hlk,V.enc_eq,hzf]))
     | fail)
    all_goals first | (exact absurd (by assumption) hzf) | skip
    all_goals simp [hFe,h_,i_]
 ·obtain ⟨y,hy⟩:∃y,l[k - 1]? = some y:=⟨_,p_ (by omega)⟩
  have n1:(0:Int)<(k:Int):=by omega
  have w1:IntKind.i64.wrap ((k:Int) - 1)=((k - 1:Nat):Int):=by rw [wrap_ok (by omega) (by omega)];omega
  have n2:((k - 1:Nat):Int)<(l.length:Int):=by omega
  have he:=l02CmpV_fn y f
  by_cases hc:y.cmp f<0
  ·have hc':¬(0:Int)≤y.cmp f:=by omega
   have hst:=stop (fun i z hi hz=>by
    by_cases e:i=k - 1
    ·subst e;rw [hz] at hy;cases hy;exact hc
    ·exact V.cmp_lin.tr _ _ _ (ascC_at ha (show i<k - 1 by omega) hz hy) hc)
   clear stop hnk
   rw [hRES] at hst
   have hks:(0:Int)≤(k:Int):=by omega
   cases hlk:l[k]? with
   | none =>
    have hkl:k=l.length:=by have:=n_.1 hlk;omega
    have m1:¬(k:Int)<(l.length:Int):=by omega
    have hq:eqAt V.cmp l k f=false:=by unfold eqAt;rw [hlk]
    rw [hq,if_neg (by simp)] at hst
    rw [hst]
    refine rS_ Tryz.func65 ?_
    simp only [go_sem,seval,n1,w1,n2,idx_of hy,hmap,V.enc_eq,hc,hc',m1,hks]
    repeat' (first
     | ((first
      | (refine he.callQ rfl ?_)
      | (refine ⟨sd,?_⟩))<;>(try simp only [go_sem,seval,n1,w1,n2,idx_of hy,hmap,V.enc_eq,hc,hc',m1,hks]))
     | fail)
    all_goals simp [hFe,h_,i_]
   | some z =>
    have m1:(k:Int)<(l.length:Int):=by have:=(c_.1 hlk).1;omega
    have hz:=l02SameV_fn z f
    by_cases hzf:z.cmp f=0
    ·have hq:eqAt V.cmp l k f=true:=by unfold eqAt;rw [hlk];simp [hzf]
     rw [hq,if_pos rfl] at hst
     rw [hzf] at hz
     rw [hst]
     refine rS_ Tryz.func65 ?_
     simp only [go_sem,seval,n1,w1,n2,idx_of hy,hmap,V.enc_eq,hc,hc',m1,hks,idx_of hlk,V.enc_eq]
     repeat' (first
      | ((first
       | (refine he.callQ rfl ?_)
       | (refine hz.callQ rfl ?_))<;>(try simp only [go_sem,seval,n1,w1,n2,idx_of hy,hmap,V.enc_eq,hc,hc',m1,hks,idx_of hlk,V.enc_eq]))
      | fail)
    ·have hq:eqAt V.cmp l k f=false:=by unfold eqAt;rw [hlk];simp [hzf]
     rw [hq,if_neg (by simp)] at hst
     rw [decide_eq_false hzf] at hz
     rw [hst]
     refine rS_ Tryz.func65 ?_
     simp only [go_sem,seval,n1,w1,n2,idx_of hy,hmap,V.enc_eq,hc,hc',m1,hks,idx_of hlk,V.enc_eq,hzf]
     repeat' (first
      | ((first
       | (refine he.callQ rfl ?_)
       | (refine hz.callQ rfl ?_)
       | (refine ⟨sd,?_⟩))<;>(try simp only [go_sem,seval,n1,w1,n2,idx_of hy,hmap,V.enc_eq,hc,hc',m1,hks,idx_of hlk,V.enc_eq,hzf]))
      | fail)
     all_goals first | (exact absurd (by assumption) hzf) | skip
     all_goals simp [hFe,h_,i_]
  ·have hc':(0:Int)≤y.cmp f:=by omega
   refine rS_ Tryz.func65 ?_
   simp only [go_sem,seval,n1,w1,n2,idx_of hy,hmap,V.enc_eq,hc,hc']
   repeat' (first
    | ((refine he.callQ rfl ?_)<;>(try simp only [go_sem,seval,n1,w1,n2,idx_of hy,hmap,V.enc_eq,hc,hc']))
    | fail)
   refine hnk (k - 1) _ ⟨by omega,fun i z hi hz=>?_⟩ (by omega) wk1_
   by_cases e:i=k - 1
   ·subst e;rw [hz] at hy;cases hy;exact hc
   ·exact k2 i z (by omega) hz
theorem vbelow0:∀v:V,v.vbelow 0=true→v.vars=[]:=by
 intro v
 induction v with
 | pair a b iha ihb =>
  intro h
  simp only [V.vbelow,a_] at h
  simp [V.vars,iha h.1,ihb h.2]
 | var n=>intro h;simp [V.vbelow] at h;omega
 | _=>intro _;rfl
theorem drawn_gr {m:Nat} {v:V} (h:drawn m 0 v):v.vars=[]:=vbelow0 v h.2.2
theorem insC_le {l:List V} {x:V}:(insC V.cmp l x).length≤l.length+1:=by
 induction l with
 | nil=>simp [insC]
 | cons y q ih =>
  unfold insC
  split
  ·simp only [b_];omega
  ·split<;>simp only [b_]<;>omega
theorem insC_pos {l:List V} {x:V}:1≤(insC V.cmp l x).length:=List.length_pos_of_mem ((insC_mem V.cmp_lin l x x).2 (.inl rfl))
theorem l08Universe_R (B:List UInt8) (hB:B.length≤1048576) (m:Nat) (hm1:1≤m) (hm:m≤8) (i h:Int) (h0:0≤i) (h1:i≤B.length):ACalls Tryz.prog 32 [.ptr 0 0,.d (.int .i64 m)] [cuO B i h] (fun c H'=>∃(u:List V) (i' h':Int),c=.d (.sl (u.map V.enc))∧H'=[cuO B i' h']∧Uni u∧u.length≤m∧(∀v,v∈u→drawn 7 0 v)∧0≤i'∧i'≤B.length):=by
 have hmx:maxLen=9223372036854775807:=rfl
 have hb:=l01Below_R B i h hB h0 h1 (m:Int)
 refine aE_ Tryz.func32 ?_
 refine rS_ Tryz.func32 ?_
 simp only [go_sem,seval]
 repeat' (first
  | (simp (disch:=omega) only [wrap_ok])
  | ((refine (ACalls.emb hb [0] rfl rfl rfl (by decide) rfl ?_)<;>(rintro c H' ⟨x,i2,h2,rfl,rfl,⟨b1,b2⟩,b3,b4⟩ _;refine ⟨rfl,rfl,?_⟩))<;>(try simp only [go_sem,seval]))
  | fail)
 refine AW.nilG 5 rfl ?_
 obtain ⟨k0,hk0,hk1,hkm⟩:∃k0:Nat,1+x=(k0:Int)∧1≤k0∧k0≤m:=⟨(1+x).toNat,by omega,by omega,by omega⟩
 refine AW.lp [0] (fun u:Nat×List V×Int×Int=>[(6,.d (.int .i64 (u.1:Int))),(5,.d (.sl (u.2.1.map V.enc)))]) (fun _ u=>[cuO B u.2.2.1 u.2.2.2]) (fun u=>ascC V.cmp u.2.1∧(∀v,v∈u.2.1→drawn 7 0 v)∧u.1+u.2.1.length≤m∧(1≤u.1∨1≤u.2.1.length)∧0≤u.2.2.1∧u.2.2.1≤B.length) (fun u=>u.1) (k0,[],i2,h2) ⟨List.Pairwise.nil,(fun v hv=>by cases hv),by simp;omega,.inl hk1,b3,b4⟩ (by refine ⟨by simp [mkS,cuO_eq,hk0],by simp [mkS,cuO_eq,hk0],by simp only [mkS,j_,l_,O.refsLt,C.refsLt,C.refsLt1,all_dmap];first | done | rfl | (simp;done),?_⟩;simp [mkS,Abs.get,C.refsLtT,C.refsLt,C.refsLt1,cuO_eq,hk0]) ?_
 rintro ⟨k,u,i3,h3⟩ ⟨u1,u2,u3,u4,u5,u6⟩ hnext
 dsimp only at u1 u2 u3 u4 u5 u6 hnext ⊢
 by_cases hk:k=0
 ·subst hk
  have hu1:1≤u.length:=by omega
  refine rS_ Tryz.func32 ?_
  simp only [go_sem,seval]
  repeat' (first
   | (exact ⟨u,_,_,rfl,rfl,⟨hu1,by omega,fun v hv=>drawn_ok (u2 v hv) (by decide),fun v hv=>drawn_gr (u2 v hv),u1⟩,by omega,u2,u5,u6⟩)
   | fail)
 ·obtain ⟨k,rfl⟩:∃k',k=k'+1:=⟨k - 1,by omega⟩
  have e1:(0:Int)<(k:Int)+1:=by omega
  have wk:IntKind.i64.wrap ((k:Int)+1 - 1)=(k:Int):=by rw [wrap_ok (by omega) (by omega)];omega
  have hb2:=l01Below_R B i3 h3 hB u5 u6 2
  refine rS_ Tryz.func32 ?_
  simp only [go_sem,seval,e1,wk]
  repeat' (first
   | (simp (disch:=omega) only [wrap_ok])
   | ((first
    | (refine (ACalls.emb hb2 [0] rfl rfl rfl (by decide) rfl ?_)<;>(rintro c H' ⟨y,i4,h4,rfl,rfl,⟨c1,c2⟩,c3,c4⟩ _;rcases (show y=0∨y=1 by omega) with rfl | rfl<;>refine ⟨rfl,rfl,?_⟩))
    | (refine (ACalls.emb (l02Draw_R B hB 0 (by decide) 1 i4 h4 (by decide) c3 c4) [0] rfl rfl rfl (by decide) rfl ?_)<;>(rintro c H' ⟨v,i5,h5,rfl,rfl,k1,k2,k3⟩ _;refine ⟨rfl,rfl,?_⟩))
    | (refine (ACalls.emb (l02Draw_R B hB 0 (by decide) 3 i4 h4 (by decide) c3 c4) [0] rfl rfl rfl (by decide) rfl ?_)<;>(rintro c H' ⟨v,i5,h5,rfl,rfl,k1,k2,k3⟩ _;refine ⟨rfl,rfl,?_⟩))
    | (refine (l08Insert_fn u v u1 (by omega)).calls rfl ?_))<;>(try simp only [go_sem,seval,e1,wk]))
   | fail)
  all_goals refine hnext (k,insC V.cmp u v,i5,h5) _ ⟨insC_asc V.cmp_lin u v u1,fun z hz=>by
   rcases (insC_mem V.cmp_lin u v z).1 hz with rfl | hz
   ·exact drawn_le k1 (by decide)
   ·exact u2 z hz,by have:=insC_le (l:=u) (x:=v);dsimp only;omega,.inr insC_pos,k2,k3⟩ (by dsimp only;omega) (by refine ⟨by simp [mkS,cuO_eq],by simp [mkS,cuO_eq],by simp only [mkS,j_,l_,O.refsLt,C.refsLt,C.refsLt1,all_dmap];first | done | rfl | (simp;done),?_⟩;simp [mkS,Abs.get,C.refsLtT,C.refsLt,C.refsLt1])
theorem MakeUniverse_R (B:List UInt8) (hB:B.length≤1048576) (n m:Nat) (hn:n≤1000) (hm1:1≤m) (hm:m≤8):ACalls Tryz.prog 8 [.d (.sl (bytesD B)),.d (.int .i64 n),.d (.int .i64 m)] [] (fun c H'=>∃u:List V,c=.d (.sl (u.map V.enc))∧H'=[]∧Uni u∧u.length≤m∧∀v,v∈u→drawn 7 0 v):=by
 have hw:=l43New_T B hB n (by omega)
 refine aE_ Tryz.func8 ?_
 refine AW.hole ?_
 refine run_sound Tryz.func8 mixed 4 _ _ (by kernel_rfl) ?_
 simp only [go_sem,seval,run.eq_1]
 repeat' (first
  | ((refine (ACalls.emb hw [0] rfl rfl rfl (by decide) rfl ?_)<;>(rintro c H' ⟨rfl,i,h,rfl,e1,e2⟩ _;refine ⟨rfl,rfl,?_⟩))<;>(try simp only [go_sem,seval,run.eq_1]))
  | fail)
 refine ACalls.emb (ACalls.unpb (ds:=[.int .i64 m]) (cs:=cuD B i h) (l08Universe_R B hB m hm1 hm i h e1 e2) (K:=fun c H'=>∃u:List V,c=.d (.sl (u.map V.enc))∧H'=[.dead]∧Uni u∧u.length≤m∧∀v,v∈u→drawn 7 0 v) (fun c H' ⟨u,i',h',c1,c2,c3,c4,c5,_⟩=>⟨_,c1,u,c1,rfl,c3,c4,c5⟩)) [0] rfl rfl rfl (by decide) rfl ?_
 rintro c H' ⟨u,rfl,rfl,c3,c4,c5⟩ _
 refine ⟨rfl,rfl,?_⟩
 simp only [go_sem,seval,run.eq_1]
 refine rS_ Tryz.func8 ?_
 simp only [go_sem,seval]
 repeat' (first
  | ((first
   | (refine ⟨sd,?_⟩)
   | (refine ⟨by assumption,?_⟩))<;>(try simp only [go_sem,seval]))
  | assumption)
theorem factL_fn (a b:FcV):Gives Tryz.prog 45 [.agg (fcE a),.agg (fcE b)] (.d (.bool (decide (a=b)))):=by
 have hl:=list_fn a.2 b.2
 rw [fcE_eq,fcE_eq]
 by_cases e:a.1=b.1
 ·rw [show decide (a=b)=decide (a.2=b.2) from by rw [Bool.eq_iff_iff,decide_eq_true_eq,decide_eq_true_eq];exact ⟨fun h=>by rw [h],fun h=>Prod.ext e h⟩]
  refine aE_ Tryz.func45 ?_
  refine rS_ Tryz.func45 ?_
  simp only [go_sem,seval,e]
  repeat' (first
   | ((refine (list_fn _ _).calls rfl ?_)<;>(try simp only [go_sem,seval,e]))
   | fail)
 ·rw [show decide (a=b)=false from decide_eq_false fun h=>e (by rw [h])]
  have e2:(a.1 == b.1)=false:=by simpa using e
  refine aE_ Tryz.func45 ?_
  refine rS_ Tryz.func45 ?_
  simp only [go_sem,seval,e,e2]
theorem factLV_fn (a b:FcV):Gives Tryz.prog 45 [.agg [.str a.1,.sl (a.2.map V.enc)],.agg [.str b.1,.sl (b.2.map V.enc)]] (.d (.bool (decide (a=b)))):=by
 have h:=factL_fn a b
 rw [fcE_eq,fcE_eq] at h;exact h
theorem inL_fn (l:List FcV) (f:FcV):Gives Tryz.prog 14 [.sl (l.map fcE),.agg (fcE f)] (.d (.bool (decide (f∈l)))):=by
 obtain ⟨K,hK⟩:∃K,decide (f∈l)=K:=⟨_,rfl⟩
 rw [hK,fcE_eq]
 refine aE_ Tryz.func14 ?_
 refine rS_ Tryz.func14 ?_
 simp only [go_sem,seval]
 refine AW.rng l [3,7,8] 9 7 (fun _:Unit=>[]) (fun H _=>H) (fun r _=>decide (f∈r)=K) () rfl (by simp) hK wk1_ (fun j y q b hyj hdr2 hlt2 hm2 hinv2 hnext2=>?_) (fun b hinv2=>?_)
 ·have he:=factLV_fn y f
  by_cases hc:y=f
  ·rw [decide_eq_true hc] at he
   subst hc
   simp only [List.mem_cons,true_or,decide_true] at hinv2
   rw [←hinv2]
   refine rS_ Tryz.func14 ?_
   simp only [go_sem,seval,hlt2,idx_of hyj,fcE_eq]
   repeat' (first
    | ((refine he.calls rfl ?_)<;>(try simp only [go_sem,seval,hlt2,idx_of hyj,fcE_eq]))
    | fail)
  ·have hyf:¬f=y:=fun e=>hc e.symm
   rw [decide_eq_false hc] at he
   simp only [List.mem_cons,hyf,false_or] at hinv2
   refine rS_ Tryz.func14 ?_
   simp only [go_sem,seval,hlt2,idx_of hyj,fcE_eq]
   repeat' (first
    | (simp (disch:=omega) only [wrap_ok])
    | (refine hnext2 () _ hinv2 wk1_)
    | ((refine he.calls rfl ?_)<;>(try simp only [go_sem,seval,hlt2,idx_of hyj,fcE_eq]))
    | fail)
 ·simp only [List.not_mem_nil,decide_false] at hinv2
  rw [←hinv2]
  refine rS_ Tryz.func14 ?_
  simp only [go_sem,seval]
theorem withinL_fn (a b:List FcV):Gives Tryz.prog 15 [.sl (a.map fcE),.sl (b.map fcE)] (.d (.bool (a.all fun f=>decide (f∈b)))):=by
 obtain ⟨K,hK⟩:∃K,(a.all fun f=>decide (f∈b))=K:=⟨_,rfl⟩
 rw [hK]
 refine aE_ Tryz.func15 ?_
 refine rS_ Tryz.func15 ?_
 simp only [go_sem,seval]
 refine AW.rng a [1,7,8] 9 7 (fun _:Unit=>[]) (fun H _=>H) (fun r _=>(r.all fun f=>decide (f∈b))=K) () rfl (by simp) hK wk1_ (fun j y q u hyj hdr2 hlt2 hm2 hinv2 hnext2=>?_) (fun u hinv2=>?_)
 ·have he:=inL_fn b y
  rw [fcE_eq] at he
  rw [j_] at hinv2
  cases hc:decide (y∈b) with
  | true =>
   rw [hc,Bool.true_and] at hinv2
   rw [hc] at he
   refine rS_ Tryz.func15 ?_
   simp only [go_sem,seval,hlt2,idx_of hyj,fcE_eq]
   repeat' (first
    | (simp (disch:=omega) only [wrap_ok])
    | (refine hnext2 () _ hinv2 wk1_)
    | ((refine he.calls rfl ?_)<;>(try simp only [go_sem,seval,hlt2,idx_of hyj,fcE_eq]))
    | fail)
  | false =>
   rw [hc,Bool.false_and] at hinv2
   rw [hc] at he
   rw [←hinv2]
   refine rS_ Tryz.func15 ?_
   simp only [go_sem,seval,hlt2,idx_of hyj,fcE_eq]
   repeat' (first
    | ((refine he.calls rfl ?_)<;>(try simp only [go_sem,seval,hlt2,idx_of hyj,fcE_eq]))
    | fail)
 ·rw [l_] at hinv2
  rw [←hinv2]
  refine rS_ Tryz.func15 ?_
  simp only [go_sem,seval]
theorem mem_wtR {u:List Tm} (h:wtR (u.map Tm.enc)≤1048576):(∀t,t∈u→wtL t.enc≤1048576)∧u.length≤9000000:=
 ⟨fun t ht=>Nat.le_trans (wtR_mem (f_.2 ⟨t,ht,rfl⟩)) h,by have:=wtR_len (u.map Tm.enc);simp at this;omega⟩
theorem okL_at {p:Pg}:∀{l:List Rl},p.okL l=true→∀j x,l[j]? = some x→p.relOk (p.rels.length - (l.length - j)) x=true
 | [],_,j,x,h=>by simp at h
 | r :: q,ho,0,x,h=>by
  simp only [Pg.okL,a_] at ho
  simp at h;subst h
  exact ho.1
 | r :: q,ho,j+1,x,h=>by
  simp only [Pg.okL,a_] at ho
  have:=okL_at ho.2 j x (by simpa using h)
  simpa using this
theorem find_self {p:Pg} (hp:pgOk p=true) {i:Nat} {x:Rl} (h:p.rels[i]? = some x):p.find x.name=(i:Int):=by
 unfold pgOk at hp
 rw [a_] at hp
 have h1:=okL_at hp.2 i x h
 have hi:=(c_.1 h).1
 rw [show p.rels.length - (p.rels.length - i)=i by omega] at h1
 unfold Pg.relOk at h1
 simp only [a_,decide_eq_true_eq] at h1
 exact h1.1.1.1.1.1.1.1
def allC (o:Option (List RV)):C:=match o with | some rs=>.tup [.d (.sl (rs.map rvE)),.d (.sl (stgD rs (top rs+1))),.d (.bool true)] | none=>.tup [.d (.sl []),.d (.sl []),.d (.bool false)]
theorem allC_some (rs:List RV):allC (some rs)=.tup [.d (.sl (rs.map rvE)),.d (.sl (stgD rs (top rs+1))),.d (.bool true)]:=rfl
theorem allC_none:allC none=.tup [.d (.sl []),.d (.sl []),.d (.bool false)]:=rfl
theorem V_tmV {v:V} (h:v.ok=true):v.tm.V=v:=by
 unfold V.ok at h
 rw [a_] at h
 simp [Tm.V,V.v?_tm v h.1]
theorem tmsV {u:List V} (h:∀v,v∈u→v.ok=true):(u.map V.tm).map Tm.V=u:=by
 rw [k_]
 conv=>rhs;rw [←List.map_id u]
 exact g_ fun v hv=>V_tmV (h v hv)
theorem ground_tm {v:V} (h:v.ok=true) (hg:v.vars=[]):v.tm.ground=true:=by
 unfold Tm.ground
 rw [tmOk_V,h,V.vars_tm,hg];rfl
theorem uniL_to:∀(u:List V) (p:Option V),ascC V.cmp u→(∀v,v∈u→v.ok=true∧v.vars=[])→(∀q,p=some q→∀v,v∈u→q.cmp v<0)→uniL p (u.map V.tm)=true
 | [],_,_,_,_=>rfl
 | v :: r,p,ha,ho,hp=>by
  obtain ⟨h1,h2⟩:=List.pairwise_cons.1 ha
  obtain ⟨o1,o2⟩:=ho v (by simp)
  simp only [o_,uniL,ground_tm o1 o2,V_tmV o1,Bool.true_and,a_]
  refine ⟨?_,uniL_to r (some v) h2 (fun x hx=>ho x (by simp [hx])) (fun q hq x hx=>by cases hq;exact h1 x hx)⟩
  cases p with
  | none=>rfl
  | some q=>exact decide_eq_true (hp q rfl v (by simp))
theorem uni_to {u:List V} (h:Uni u):uniOk (u.map V.tm)=true:=by
 unfold uniOk
 rw [uniL_to u none h.asc (fun v hv=>⟨h.ok v hv,h.gr v hv⟩) (fun q hq=>by cases hq),d_,decide_eq_true h.pos,decide_eq_true h.le];rfl
structure Made (p:Pg) (u:List V):Prop where
 ok:pgOk p=true
 wt:wtL p.enc≤1048576
 gr:p.gr u=some (Pg.gnd u p.rels)
 uni:Uni u
 uw:∀v,v∈u→wtL v.enc≤112
theorem Made.of {p:Pg} {u:List V} {m:Int} (hf:p.fine m) (hg:Pg.gszL p.rels≤2000) (hu:Uni u) (hl:u.length≤2) (hd:∀v,v∈u→drawn 7 0 v):Made p u:=
 ⟨hf.ok,by have:=hf.wt;omega,Pg.gr_small hf.ok (fun r hr=>by have:=hf.cls r hr;omega) hl hg,hu,fun v hv=>(drawn_tm (hd v hv)).2.1⟩
section
variable {p:Pg} {u:List V}
theorem wtR_112:∀l:List V,(∀v,v∈l→wtL v.enc≤112)→wtR (l.map V.enc)≤113 * l.length
 | [],_=>by simp [wtR]
 | v :: r,hv=>by
  have h1:=wtR_112 r (fun x hx=>hv x (by simp [hx]))
  have h2:=hv v (by simp)
  simp only [o_,wtR,b_];omega
theorem Made.wu (h:Made p u):wtR ((u.map V.tm).map Tm.enc)≤1048576:=by
 rw [enc_tms]
 have:=wtR_112 u h.uw
 have:=h.uni.le
 omega
theorem Made.mem (h:Made p u):∀t,t∈u.map V.tm→wtL t.enc≤1048576:=(mem_wtR h.wu).1
theorem Made.wp (h:Made p u):wtL p.enc≤1048576:=h.wt
def fitU (p:Pg) (u:List V) (f:FcV):Prop:=∃x,x∈p.rels∧f.1=x.name∧(f.2.length:Int)=x.arity∧∀v,v∈f.2→v∈u
theorem Made.fit (h:Made p u) {f:FcV} (hf:fitU p u f):f.fc.args.all tmOk=true∧p.factFits f.fc=true∧Fc.toV f.fc=f∧wtL (fcE f)+1≤500:=by
 obtain ⟨x,hx,e1,hfl,hm⟩:=hf
 obtain ⟨z1,z2,z3,z4⟩:=Pg.dims h.ok hx
 obtain ⟨i,hi⟩:=List.getElem?_of_mem hx
 have hfs:=find_self h.ok hi
 have e3:p.find f.1=(i:Int):=by rw [e1];exact hfs
 refine ⟨e_.2 fun t ht=>?_,?_,Prod.ext rfl (tmsV fun v hv=>h.uni.ok v (hm v hv)),?_⟩
 ·obtain ⟨v,hv,rfl⟩:=f_.1 ht
  rw [tmOk_V];exact h.uni.ok v (hm v hv)
 ·rw [Pg.factFits_at (f:=f.fc) (r:=x) (by show 0≤p.find f.1;rw [e3];omega) (by show p.rels[(p.find f.1).toNat]? = some x;rw [e3];simpa using hi),a_,decide_eq_true_eq,e_]
  refine ⟨by show x.arity=((f.2.map V.tm).length:Int);rw [d_];omega,fun t ht=>?_⟩
  obtain ⟨v,hv,rfl⟩:=f_.1 ht
  exact ground_tm (h.uni.ok v (hm v hv)) (h.uni.gr v (hm v hv))
 ·have hn:f.1.length≤12:=by
   have h0:=h.ok
   unfold pgOk at h0
   rw [a_] at h0
   obtain ⟨k,hk⟩:=okL_mem h0.2 x hx
   unfold Pg.relOk at hk
   simp only [a_] at hk
   have hr:isRel x.name=true:=by simp only [decide_eq_true_eq] at hk;exact hk.1.1.1.1.1.1.2
   unfold isRel at hr
   rw [a_] at hr
   rw [e1];exact (isName_len hr.2).2
  have h5:=wtR_112 f.2 fun v hv=>h.uw v (hm v hv)
  rw [fcE_eq]
  simp only [wtL,D.wt];omega
theorem Made.fitH (h:Made p u) {F G:List FcV} {f:FcV} (hf:f∈nextF (Pg.gnd u p.rels) F G):fitU p u f:=by
 obtain ⟨r,h1,_,h3⟩:=nextF_mem.1 hf
 obtain ⟨x,hx,c,_,j,w,_,rfl⟩:=gnd_mem _ h1
 obtain ⟨z1,z2,z3,z4⟩:=Pg.dims h.ok hx
 have hvl:=gVals_len u (x.arity+x.locals).toNat w
 have hvm:=gVals_mem h.uni.pos (x.arity+x.locals).toNat w
 have e1:x.name=f.1:=congrArg Prod.fst h3
 have e2:(gVals u (x.arity+x.locals).toNat w).take x.arity.toNat=f.2:=congrArg Prod.snd h3
 exact ⟨x,hx,e1.symm,by rw [←e2,List.length_take,hvl];omega,fun v hv=>by rw [←e2] at hv;exact hvm v (List.mem_of_mem_take hv)⟩
theorem Made.head (h:Made p u) {F G:List FcV} {f:FcV} (hf:f∈nextF (Pg.gnd u p.rels) F G):f.fc.args.all tmOk=true∧p.factFits f.fc=true∧Fc.toV f.fc=f∧wtL (fcE f)+1≤500:=h.fit (h.fitH hf)
theorem Made.list (h:Made p u) {F:List FcV} (hF:∀f,f∈F→fitU p u f) (hl:F.length≤2000):(F.map FcV.fc).all p.factFits=true∧(F.map FcV.fc).map Fc.toV=F∧wtR (F.map fcE)≤1048576:=by
 refine ⟨e_.2 fun x hx=>?_,?_,?_⟩
 ·obtain ⟨f,hf,rfl⟩:=f_.1 hx
  exact (h.fit (hF f hf)).2.1
 ·rw [k_]
  conv=>rhs;rw [←List.map_id F]
  exact g_ fun f hf=>(h.fit (hF f hf)).2.2.1
 ·have key:∀l:List FcV,(∀f,f∈l→wtL (fcE f)+1≤500)→wtR (l.map fcE)≤500 * l.length:=fun l=>by
   induction l with
   | nil=>intro _;simp [wtR]
   | cons v r ih =>
    intro hv
    have h1:=ih (fun x hx=>hv x (by simp [hx]))
    have h2:=hv v (by simp)
    simp only [o_,wtR,b_];omega
  have:=key F fun f hf=>(h.fit (hF f hf)).2.2.2
  omega
theorem Made.next (h:Made p u) (F G:List FcV):((nextF (Pg.gnd u p.rels) F G).map FcV.fc).all p.factFits=true∧((nextF (Pg.gnd u p.rels) F G).map FcV.fc).map Fc.toV=nextF (Pg.gnd u p.rels) F G∧wtR ((nextF (Pg.gnd u p.rels) F G).map fcE)≤1048576:=
 h.list (fun _ hf=>h.fitH hf) (by have h1:=nextF_len (Pg.gnd u p.rels) F G;have h2:=(gr_mem h.gr).2;omega)
theorem fcEs (F:List FcV):(F.map FcV.fc).map Fc.enc=F.map fcE:=by rw [k_];rfl
theorem csq_made (h:Made p u) {F:List FcV} (h1:(F.map FcV.fc).all p.factFits=true) (h2:(F.map FcV.fc).map Fc.toV=F):Pg.csq p (u.map V.tm) (F.map FcV.fc)=some (nextF (Pg.gnd u p.rels) F F):=by
 unfold Pg.csq
 rw [if_pos ⟨h.ok,uni_to h.uni,h1⟩,tmsV h.uni.ok,h.gr,h2];rfl
end
theorem csM_fn {p:Pg} {u:List V} (h:Made p u) {F:List FcV} (h1:(F.map FcV.fc).all p.factFits=true) (h2:(F.map FcV.fc).map Fc.toV=F) (h3:wtR (F.map fcE)≤1048576):Gives Tryz.prog 12 [.agg p.enc,.sl (u.map V.enc),.sl (F.map fcE)] (.tup [.d (.sl ((nextF (Pg.gnd u p.rels) F F).map fcE)),.d (.bool true)]):=by
 have hc:=iConsequences_D p (u.map V.tm) (F.map FcV.fc) h.wp h.mem (by rw [d_];have:=h.uni.le;omega) (by rw [fcEs];exact h3)
 rw [csq_made h h1 h2,enc_tms,fcEs] at hc
 exact hc
end Go.Proofs.YtlajhmoomlgopaaGreat
