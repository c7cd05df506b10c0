import Derived.Test.YtifkkdlpbocgjaaGreatW3
import Derived.Test.YtifkkdlpbocgjaaGreatW6
import Derived.Test.YtifkkdlpbocgjaaGreatW20
import Derived.Test.YtifkkdlpbocgjaaGreatW41
import Derived.Test.YtifkkdlpbocgjaaGreatP7
import Derived.Test.YtifkkdlpbocgjaaGreatP12
namespace Go.Abs
set_option linter.unusedSimpArgs false
set_option linter.unusedVariables false
mutual
def Pf.trms:Pf→List Tm
 | .mk _ _ vs ks=>vs++Pf.trmss ks
def Pf.trmss:List Pf→List Tm
 | []=>[]
 | k :: r=>k.trms++Pf.trmss r
end
theorem Pf.trms_eq (t:Pf):t.trms=t.values++Pf.trmss t.kids:=by cases t;simp only [Pf.trms,Pf.values,Pf.kids]
theorem Pf.trmss_app:∀a b:List Pf,Pf.trmss (a++b)=Pf.trmss a++Pf.trmss b
 | [],b=>rfl
 | k :: a,b=>by simp only [List.cons_append,Pf.trmss,Pf.trmss_app a b,List.append_assoc]
theorem Pf.trms_ground {p:Pg}:∀t:Pf,p.prf t=true→t.trms.all Tm.ground=true:=by
 intro t
 induction t using Pf.ind' with
 | h t ih =>
  intro h
  obtain ⟨_,_,_,_,hg,_⟩:=Pg.prf_head h
  obtain ⟨_,_,_,_,_,_,_,_,hk⟩:=Pg.prf_kids h
  have key:∀l:List Pf,(∀x,x∈l→x∈t.kids)→(Pf.trmss l).all Tm.ground=true:=by
   intro l
   induction l with
   | nil=>intro _;rfl
   | cons k r ihl =>
    intro hl
    rw [Pf.trmss,List.all_append,ih k (hl k (by simp)) (hk k (hl k (by simp))),ihl (fun x hx=>hl x (by simp [hx]))];rfl
  rw [Pf.trms_eq,List.all_append,hg,key t.kids (fun x hx=>hx)];rfl
theorem wtR_app:∀a b:List (List D),wtR (a++b)=wtR a+wtR b
 | [],b=>by simp [wtR]
 | x :: a,b=>by simp only [List.cons_append,wtR,wtR_app a b];omega
theorem Pf.trms_wt:∀t:Pf,wtR (t.trms.map Tm.enc)≤wtL t.enc:=by
 intro t
 induction t using Pf.ind' with
 | h t ih =>
  have key:∀l:List Pf,(∀x,x∈l→x∈t.kids)→wtR ((Pf.trmss l).map Tm.enc)≤wtR (l.map Pf.enc):=by
   intro l
   induction l with
   | nil=>intro _;simp [Pf.trmss,wtR]
   | cons k r ihl =>
    intro hl
    have h1:=ih k (hl k (by simp))
    have h2:=ihl (fun x hx=>hl x (by simp [hx]))
    rw [Pf.trmss,List.map_append,wtR_app]
    simp only [List.map_cons,wtR];omega
  have h1:=key t.kids (fun x hx=>hx)
  rw [Pf.trms_eq,List.map_append,wtR_app,Pf.enc_eq t]
  simp only [wtL,D.wt];omega
theorem wtR_ge (l:List (List D)):l.length≤wtR l:=by
 induction l with
 | nil=>simp [wtR]
 | cons x r ih=>simp only [wtR,List.length_cons];omega
theorem insC_wt {c:V→V→Int}:∀(l:List V) (x:V),wtR ((insC c l x).map V.enc)≤1+wtL x.enc+wtR (l.map V.enc)
 | [],x=>by simp [insC,wtR]
 | y :: r,x=>by
  have ih:=insC_wt (c:=c) r x
  unfold insC
  split
  ·simp only [List.map_cons,wtR];omega
  ·split<;>simp only [List.map_cons,wtR]<;>omega
theorem foldl_wt {c:V→V→Int}:∀(l acc:List V),wtR ((l.foldl (insC c) acc).map V.enc)≤wtR (l.map V.enc)+wtR (acc.map V.enc)
 | [],acc=>by simp [wtR]
 | x :: r,acc=>by
  have h1:=foldl_wt (c:=c) r (insC c acc x)
  have h2:=insC_wt (c:=c) acc x
  simp only [List.foldl_cons,List.map_cons,wtR];omega
def Pf.terms (p:Pg) (t:Pf):List V:=if p.prfOk t=true then sortC V.cmp (t.trms.map Tm.V) else []
theorem Pf.terms_wt (p:Pg) (t:Pf):wtR ((Pf.terms p t).map V.enc)≤wtL t.enc:=by
 unfold Pf.terms
 split
 ·rename_i h
  unfold Pg.prfOk at h
  simp only [Bool.and_eq_true] at h
  have hg:=Pf.trms_ground t h.2.2
  have hv:=Pf.trms_wt t
  rw [grounds_V hg,enc_tms] at hv
  have:=foldl_wt (c:=V.cmp) (t.trms.map Tm.V) []
  simp only [List.map_nil,wtR,Nat.add_zero] at this
  unfold sortC;omega
 ·simp [wtR]
end Go.Abs
namespace Go.Proofs.YtifkkdlpbocgjaaGreat
open Go.Abs
set_option maxRecDepth 100000
set_option maxHeartbeats 8000000
set_option linter.unusedSimpArgs false
set_option linter.unusedVariables false
theorem l02CmpV_fn (a b:V):Gives Tryz.prog 66 [.agg [.int .i64 a.kind,.int .i64 a.int,.str a.name,.sl (a.kids.map V.enc)],.agg [.int .i64 b.kind,.int .i64 b.int,.str b.name,.sl (b.kids.map V.enc)]] (.d (.int .i64 (a.cmp b))):=by
 have h:=l02Cmp_fn _ a b (Nat.le_refl _)
 rw [V.enc_eq a,V.enc_eq b] at h;exact h
theorem l02SameV_fn (a b:V):Gives Tryz.prog 67 [.agg [.int .i64 a.kind,.int .i64 a.int,.str a.name,.sl (a.kids.map V.enc)],.agg [.int .i64 b.kind,.int .i64 b.int,.str b.name,.sl (b.kids.map V.enc)]] (.d (.bool (decide (a.cmp b=0)))):=by
 have h:=l02Same_fn a b
 rw [V.enc_eq a,V.enc_eq b] at h;exact h
theorem l08Insert_fn (l:List V) (f:V) (ha:ascC V.cmp l) (hl:l.length≤2000000):Gives Tryz.prog 41 [.sl (l.map V.enc),.agg f.enc] (.d (.sl ((insC V.cmp l f).map V.enc))):=by
 have hmx:maxLen=9223372036854775807:=rfl
 have hmap:∀x:List V,(x.map V.enc).length=x.length:=fun x=>List.length_map _
 obtain ⟨RES,hRES⟩:∃RES,insC V.cmp l f=RES:=⟨_,rfl⟩
 have hFe:=V.enc_eq f
 rw [hRES,hFe]
 refine ACalls.enter (fn:=Tryz.f41) Tryz.func41 rfl (by show 2≤_;decide) ?_
 refine run_sound Tryz.func41 mixed 200 _ _ (by kernel_rfl) ?_
 simp only [go_sem,seval,hmap]
 refine AW.lp [0,3] (fun k:Nat=>[(5,.d (.int .i64 (k:Int)))]) (fun H _=>H) (fun k=>k≤l.length∧∀i y,k≤i→l[i]? = some y→¬y.cmp f<0) (fun k=>k) l.length ⟨Nat.le_refl _,fun i y hi hy=>by have:=(List.getElem?_eq_some_iff.1 hy).1;omega⟩ (by refine ⟨by simp [mkS],by simp [mkS],by simp only [mkS,List.all_cons,List.all_nil,O.refsLt,C.refsLt,C.refsLt1,all_dmap];first | done | rfl | (simp;done),?_⟩;simp [mkS,Abs.get,C.refsLtT,C.refsLt,C.refsLt1]) ?_
 intro k hk hnk
 obtain ⟨k1,k2⟩:=hk
 have stop:(∀i y,i<k→l[i]? = some y→y.cmp f<0)→insC V.cmp l f=if eqAt V.cmp l k f then l else l.take k++f :: l.drop k:=fun h=>insC_at V.cmp_lin l f k ha k1 h k2
 by_cases hkz:k=0
 ·have n1:¬(0:Int)<(k:Int):=by omega
  have hst:=stop (fun i y hi=>by omega)
  clear stop hnk
  rw [hRES] at hst
  have hks:(0:Int)≤(k:Int):=by omega
  cases hlk:l[k]? with
  | none =>
   have hkl:k=l.length:=by have:=List.getElem?_eq_none_iff.1 hlk;omega
   have m1:¬(k:Int)<(l.length:Int):=by omega
   have hq:eqAt V.cmp l k f=false:=by unfold eqAt;rw [hlk]
   rw [hq,if_neg (by simp)] at hst
   rw [hst]
   refine run_sound Tryz.func41 mixed 200 _ _ (by kernel_rfl) ?_
   simp only [go_sem,seval,n1,hmap,m1,hks]
   skip
   repeat' (first
    | ((refine ⟨sd,?_⟩)<;>(try simp only [go_sem,seval,n1,hmap,m1,hks]))
    | fail)
   all_goals simp [hFe,List.map_take,List.map_drop]
  | some z =>
   have m1:(k:Int)<(l.length:Int):=by have:=(List.getElem?_eq_some_iff.1 hlk).1;omega
   have hz:=l02SameV_fn z f
   by_cases hzf:z.cmp f=0
   ·have hq:eqAt V.cmp l k f=true:=by unfold eqAt;rw [hlk];simp [hzf]
    rw [hq,if_pos rfl] at hst
    rw [hzf] at hz
    rw [hst]
    refine run_sound Tryz.func41 mixed 200 _ _ (by kernel_rfl) ?_
    simp only [go_sem,seval,n1,hmap,m1,hks,idx_of hlk,V.enc_eq]
    skip
    repeat' (first
     | ((refine hz.callQ rfl ?_)<;>(try simp only [go_sem,seval,n1,hmap,m1,hks,idx_of hlk,V.enc_eq]))
     | fail)
   ·have hq:eqAt V.cmp l k f=false:=by unfold eqAt;rw [hlk];simp [hzf]
    rw [hq,if_neg (by simp)] at hst
    rw [decide_eq_false hzf] at hz
    rw [hst]
    refine run_sound Tryz.func41 mixed 200 _ _ (by kernel_rfl) ?_
    simp only [go_sem,seval,n1,hmap,m1,hks,idx_of hlk,V.enc_eq,hzf]
    skip
    repeat' (first
     | ((first
      | (refine hz.callQ rfl ?_)
      | (refine ⟨sd,?_⟩))<;>(try simp only [go_sem,seval,n1,hmap,m1,hks,idx_of hlk,V.enc_eq,hzf]))
     | fail)
    all_goals first | (exact absurd (by assumption) hzf) | skip
    all_goals simp [hFe,List.map_take,List.map_drop]
 ·obtain ⟨y,hy⟩:∃y,l[k - 1]? = some y:=⟨_,List.getElem?_eq_getElem (by omega)⟩
  have n1:(0:Int)<(k:Int):=by omega
  have w1:IntKind.i64.wrap ((k:Int) - 1)=((k - 1:Nat):Int):=by rw [wrap_ok (by omega) (by omega)];omega
  have n2:((k - 1:Nat):Int)<(l.length:Int):=by omega
  have he:=l02CmpV_fn y f
  by_cases hc:y.cmp f<0
  ·have hc':¬(0:Int)≤y.cmp f:=by omega
   have hst:=stop (fun i z hi hz=>by
    by_cases e:i=k - 1
    ·subst e;rw [hz] at hy;cases hy;exact hc
    ·exact V.cmp_lin.tr _ _ _ (ascC_at ha (show i<k - 1 by omega) hz hy) hc)
   clear stop hnk
   rw [hRES] at hst
   have hks:(0:Int)≤(k:Int):=by omega
   cases hlk:l[k]? with
   | none =>
    have hkl:k=l.length:=by have:=List.getElem?_eq_none_iff.1 hlk;omega
    have m1:¬(k:Int)<(l.length:Int):=by omega
    have hq:eqAt V.cmp l k f=false:=by unfold eqAt;rw [hlk]
    rw [hq,if_neg (by simp)] at hst
    rw [hst]
    refine run_sound Tryz.func41 mixed 200 _ _ (by kernel_rfl) ?_
    simp only [go_sem,seval,n1,w1,n2,idx_of hy,hmap,V.enc_eq,hc,hc',m1,hks]
    repeat' (first
     | ((first
      | (refine he.callQ rfl ?_)
      | (refine ⟨sd,?_⟩))<;>(try simp only [go_sem,seval,n1,w1,n2,idx_of hy,hmap,V.enc_eq,hc,hc',m1,hks]))
     | fail)
    all_goals simp [hFe,List.map_take,List.map_drop]
   | some z =>
    have m1:(k:Int)<(l.length:Int):=by have:=(List.getElem?_eq_some_iff.1 hlk).1;omega
    have hz:=l02SameV_fn z f
    by_cases hzf:z.cmp f=0
    ·have hq:eqAt V.cmp l k f=true:=by unfold eqAt;rw [hlk];simp [hzf]
     rw [hq,if_pos rfl] at hst
     rw [hzf] at hz
     rw [hst]
     refine run_sound Tryz.func41 mixed 200 _ _ (by kernel_rfl) ?_
     simp only [go_sem,seval,n1,w1,n2,idx_of hy,hmap,V.enc_eq,hc,hc',m1,hks,idx_of hlk,V.enc_eq]
     repeat' (first
      | ((first
       | (refine he.callQ rfl ?_)
       | (refine hz.callQ rfl ?_))<;>(try simp only [go_sem,seval,n1,w1,n2,idx_of hy,hmap,V.enc_eq,hc,hc',m1,hks,idx_of hlk,V.enc_eq]))
      | fail)
    ·have hq:eqAt V.cmp l k f=false:=by unfold eqAt;rw [hlk];simp [hzf]
     rw [hq,if_neg (by simp)] at hst
     rw [decide_eq_false hzf] at hz
     rw [hst]
     refine run_sound Tryz.func41 mixed 200 _ _ (by kernel_rfl) ?_
     simp only [go_sem,seval,n1,w1,n2,idx_of hy,hmap,V.enc_eq,hc,hc',m1,hks,idx_of hlk,V.enc_eq,hzf]
     repeat' (first
      | ((first
       | (refine he.callQ rfl ?_)
       | (refine hz.callQ rfl ?_)
       | (refine ⟨sd,?_⟩))<;>(try simp only [go_sem,seval,n1,w1,n2,idx_of hy,hmap,V.enc_eq,hc,hc',m1,hks,idx_of hlk,V.enc_eq,hzf]))
      | fail)
     all_goals first | (exact absurd (by assumption) hzf) | skip
     all_goals simp [hFe,List.map_take,List.map_drop]
  ·have hc':(0:Int)≤y.cmp f:=by omega
   refine run_sound Tryz.func41 mixed 200 _ _ (by kernel_rfl) ?_
   simp only [go_sem,seval,n1,w1,n2,idx_of hy,hmap,V.enc_eq,hc,hc']
   repeat' (first
    | ((refine he.callQ rfl ?_)<;>(try simp only [go_sem,seval,n1,w1,n2,idx_of hy,hmap,V.enc_eq,hc,hc']))
    | fail)
   refine hnk (k - 1) _ ⟨by omega,fun i z hi hz=>?_⟩ (by omega) (by refine ⟨by simp [mkS],by simp [mkS],by simp only [mkS,List.all_cons,List.all_nil,O.refsLt,C.refsLt,C.refsLt1,all_dmap];first | done | rfl | (simp;done),?_⟩;simp [mkS,Abs.get,C.refsLtT,C.refsLt,C.refsLt1])
   by_cases e:i=k - 1
   ·subst e;rw [hz] at hy;cases hy;exact hc
   ·exact k2 i z (by omega) hz
theorem foldV_len:∀(l acc:List V),(l.foldl (insC V.cmp) acc).length≤acc.length+l.length
 | [],acc=>by simp
 | x :: r,acc=>by
  have h1:=foldV_len r (insC V.cmp acc x)
  have h2:∀l:List V,(insC V.cmp l x).length≤l.length+1:=fun l=>by
   induction l with
   | nil=>simp [insC]
   | cons y q ih =>
    unfold insC
    split
    ·simp only [List.length_cons];omega
    ·split<;>simp only [List.length_cons]<;>omega
  have:=h2 acc
  simp only [List.foldl_cons,List.length_cons];omega
def trmT (t:Pf):Prop:=∀l:List V,ascC V.cmp l→l.length+t.trms.length≤2000000→Gives Tryz.prog 22 [.agg t.enc,.sl (l.map V.enc)] (.d (.sl (((t.trms.map Tm.V).foldl (insC V.cmp) l).map V.enc)))
theorem l20Terms_T:∀t:Pf,t.trms.all Tm.ground=true→trmT t:=by
 intro t
 induction t using Pf.ind' with
 | h t ih =>
  intro hg l ha hl
  have hmx:maxLen=9223372036854775807:=rfl
  obtain ⟨RES,hRES⟩:∃RES,(t.trms.map Tm.V).foldl (insC V.cmp) l=RES:=⟨_,rfl⟩
  rw [hRES]
  rw [Pf.trms_eq] at hg hl hRES
  rw [List.all_append,Bool.and_eq_true] at hg
  rw [List.map_append,List.foldl_append] at hRES
  rw [List.length_append] at hl
  refine ACalls.enter (fn:=Tryz.f22) Tryz.func22 rfl (by show 2≤_;decide) ?_
  refine run_sound Tryz.func22 mixed 200 _ _ (by kernel_rfl) ?_
  simp only [go_sem,seval]
  refine AW.rng t.values [2,10,11] 12 10 (fun L:List V=>[(1,.d (.sl (L.map V.enc)))]) (fun H _=>H) (fun r L=>∃d,t.values=d++r∧L=(d.map Tm.V).foldl (insC V.cmp) l) l rfl (by simp) ⟨[],rfl,rfl⟩ (by refine ⟨by simp [mkS],by simp [mkS],by simp only [mkS,List.all_cons,List.all_nil,O.refsLt,C.refsLt,C.refsLt1,all_dmap];first | done | rfl | (simp;done),?_⟩;simp [mkS,Abs.get,C.refsLtT,C.refsLt,C.refsLt1]) (fun i x r L hxi hdr hlt hm hinv hnext=>?_) (fun L hinv=>?_)
  ·obtain ⟨d,d1,d2⟩:=hinv
   have hLa:ascC V.cmp L:=by rw [d2];exact (foldl_insC V.cmp_lin _ _ ha).1
   have hLl:L.length≤2000000:=by
    have h1:=foldV_len (d.map Tm.V) l
    have h2:=congrArg List.length d1
    rw [←d2,List.length_map] at h1
    simp at h2;omega
   have hxe:x.enc=x.V.enc:=by
    have:=List.all_eq_true.1 hg.1 x (List.mem_of_getElem? hxi)
    have h3:=Tm.V_of (ground_ok this)
    conv=>lhs;rw [h3]
    rfl
   have hin:=l08Insert_fn L x.V hLa hLl
   rw [←hxe] at hin
   refine run_sound Tryz.func22 mixed 200 _ _ (by kernel_rfl) ?_
   simp only [go_sem,seval,hlt,idx_of hxi]
   repeat' (first
    | (simp (disch:=omega) only [wrap_ok])
    | ((refine hin.calls rfl ?_)<;>(try simp only [go_sem,seval,hlt,idx_of hxi]))
    | fail)
   refine hnext (insC V.cmp L x.V) _ ⟨d++[x],by rw [d1];simp,by rw [d2,List.map_append,List.foldl_append];rfl⟩ (by refine ⟨by simp [mkS],by simp [mkS],by simp only [mkS,List.all_cons,List.all_nil,O.refsLt,C.refsLt,C.refsLt1,all_dmap];first | done | rfl | (simp;done),?_⟩;simp [mkS,Abs.get,C.refsLtT,C.refsLt,C.refsLt1])
  ·obtain ⟨d,d1,d2⟩:=hinv
   rw [List.append_nil] at d1
   subst d1
   rw [←d2] at hRES
   have hLa:ascC V.cmp L:=by rw [d2];exact (foldl_insC V.cmp_lin _ _ ha).1
   have hLl:L.length+(Pf.trmss t.kids).length≤2000000:=by
    have h1:=foldV_len (t.values.map Tm.V) l
    rw [←d2,List.length_map] at h1
    omega
   clear d2
   refine run_sound Tryz.func22 mixed 200 _ _ (by kernel_rfl) ?_
   simp only [go_sem,seval]
   refine AW.rng t.kids [21,22] 23 21 (fun M:List V=>[(1,.d (.sl (M.map V.enc)))]) (fun H _=>H) (fun r M=>∃d,t.kids=d++r∧M=((Pf.trmss d).map Tm.V).foldl (insC V.cmp) L) L rfl (by simp) ⟨[],rfl,rfl⟩ (by refine ⟨by simp [mkS],by simp [mkS],by simp only [mkS,List.all_cons,List.all_nil,O.refsLt,C.refsLt,C.refsLt1,all_dmap];first | done | rfl | (simp;done),?_⟩;simp [mkS,Abs.get,C.refsLtT,C.refsLt,C.refsLt1]) (fun i x r M hxi hdr hlt hm hinv hnext=>?_) (fun M hinv=>?_)
   ·obtain ⟨d,d1,d2⟩:=hinv
    have hxm:=List.mem_of_getElem? hxi
    have hgk:=hg.2
    rw [d1,Pf.trmss_app,Pf.trmss,List.all_append,List.all_append,Bool.and_eq_true,Bool.and_eq_true] at hgk
    have hMa:ascC V.cmp M:=by rw [d2];exact (foldl_insC V.cmp_lin _ _ hLa).1
    have hMl:M.length+x.trms.length≤2000000:=by
     have h1:=foldV_len ((Pf.trmss d).map Tm.V) L
     rw [←d2,List.length_map] at h1
     have h2:=congrArg (fun l=>(Pf.trmss l).length) d1
     simp only [Pf.trmss_app,Pf.trmss,List.length_append] at h2
     omega
    have hin:=ih x hxm hgk.2.1 M hMa hMl
    refine run_sound Tryz.func22 mixed 200 _ _ (by kernel_rfl) ?_
    simp only [go_sem,seval,hlt,idx_of hxi]
    repeat' (first
     | (simp (disch:=omega) only [wrap_ok])
     | ((refine hin.calls rfl ?_)<;>(try simp only [go_sem,seval,hlt,idx_of hxi]))
     | fail)
    refine hnext ((x.trms.map Tm.V).foldl (insC V.cmp) M) _ ⟨d++[x],by rw [d1];simp,by rw [Pf.trmss_app,List.map_append,List.foldl_append,←d2];simp only [Pf.trmss,List.append_nil]⟩ (by refine ⟨by simp [mkS],by simp [mkS],by simp only [mkS,List.all_cons,List.all_nil,O.refsLt,C.refsLt,C.refsLt1,all_dmap];first | done | rfl | (simp;done),?_⟩;simp [mkS,Abs.get,C.refsLtT,C.refsLt,C.refsLt1])
   ·obtain ⟨d,d1,d2⟩:=hinv
    rw [List.append_nil] at d1
    subst d1
    rw [hRES] at d2
    subst d2
    refine run_sound Tryz.func22 mixed 200 _ _ (by kernel_rfl) ?_
    simp only [go_sem,seval]
theorem sProofTerms_fn (p:Pg) (t:Pf) (hwp:wtL p.enc≤1048576) (hw:wtL t.enc≤1048576):Gives Tryz.prog 6 [.agg p.enc,.agg t.enc] (.d (.sl ((Pf.terms p t).map V.enc))):=by
 have ho:=sProofOk_fn p t hwp hw
 have hwt:=Pf.terms_wt p t
 unfold Pf.terms at hwt ⊢
 cases hok:p.prfOk t with
 | false =>
  rw [hok] at ho
  rw [if_neg (by simp)]
  refine ACalls.enter (fn:=Tryz.f6) Tryz.func6 rfl (by show 2≤_;decide) ?_
  refine run_sound Tryz.func6 mixed 200 _ _ (by kernel_rfl) ?_
  simp only [go_sem,seval]
  repeat' (first
   | ((refine ho.calls rfl ?_)<;>(try simp only [go_sem,seval]))
   | fail)
 | true =>
  rw [hok] at ho hwt
  rw [if_pos rfl] at hwt ⊢
  have hok2:=hok
  unfold Pg.prfOk at hok2
  simp only [Bool.and_eq_true] at hok2
  have hg:=Pf.trms_ground t hok2.2.2
  have hvl:t.trms.length≤1048576:=by
   have h1:=Pf.trms_wt t
   have h2:=wtR_ge (t.trms.map Tm.enc)
   rw [List.length_map] at h2
   omega
  have ht:=l20Terms_T t hg [] List.Pairwise.nil (by simp;omega)
  have hc:=l02CopyAll_T ((sortC V.cmp (t.trms.map Tm.V)).map V.tm) (by rw [enc_tms];omega)
  have hcd:Gives Tryz.prog 21 [.sl ((sortC V.cmp (t.trms.map Tm.V)).map V.enc)] (.d (.sl ((sortC V.cmp (t.trms.map Tm.V)).map V.enc))):=by
   rw [enc_tms] at hc
   exact ACalls.frozen (ds:=[.sl ((sortC V.cmp (t.trms.map Tm.V)).map V.enc)]) (m:=1) hc (fun c H' ⟨h1,e,B,h2⟩ _=>by subst h1 h2;rfl)
  have hs:(t.trms.map Tm.V).foldl (insC V.cmp) []=sortC V.cmp (t.trms.map Tm.V):=rfl
  rw [hs] at ht
  generalize sortC V.cmp (t.trms.map Tm.V)=R at *
  refine ACalls.enter (fn:=Tryz.f6) Tryz.func6 rfl (by show 2≤_;decide) ?_
  refine run_sound Tryz.func6 mixed 200 _ _ (by kernel_rfl) ?_
  simp only [go_sem,seval]
  repeat' (first
   | ((first
    | (refine ho.calls rfl ?_)
    | (refine ht.calls rfl ?_)
    | (refine hcd.calls rfl ?_))<;>(try simp only [go_sem,seval]))
   | fail)
end Go.Proofs.YtifkkdlpbocgjaaGreat
