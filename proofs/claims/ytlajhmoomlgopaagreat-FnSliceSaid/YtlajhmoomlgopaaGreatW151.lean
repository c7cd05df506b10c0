import Derived.Test.YtlajhmoomlgopaaGreatW3
import Derived.Test.YtlajhmoomlgopaaGreatW6
import Derived.Test.YtlajhmoomlgopaaGreatP12
import Derived.Test.YtlajhmoomlgopaaGreatW91
import Derived.Test.YtlajhmoomlgopaaGreatP14
import Derived.Test.YtlajhmoomlgopaaGreatA10
open List renaming getElem?_eq_some_iff→a_,map_take→b_,map_drop→c_,getElem?_eq_none_iff→d_
namespace Go.Proofs.YtlajhmoomlgopaaGreat
open Go.Abs
set_option maxRecDepth 100000
set_option maxHeartbeats 8000000
set_option linter.unusedSimpArgs false
set_option linter.unusedVariables false
theorem l02CmpV_fn (a b:V):Gives Tryz.prog 110 [.agg [.int .i64 a.kind,.int .i64 a.int,.str a.name,.sl (a.kids.map V.enc)],.agg [.int .i64 b.kind,.int .i64 b.int,.str b.name,.sl (b.kids.map V.enc)]] (.d (.int .i64 (a.cmp b))):=by
 have h:=l02Cmp_fn _ a b (Nat.le_refl _)
 rw [V.enc_eq a,V.enc_eq b] at h;exact h
theorem l02SameV_fn (a b:V):Gives Tryz.prog 111 [.agg [.int .i64 a.kind,.int .i64 a.int,.str a.name,.sl (a.kids.map V.enc)],.agg [.int .i64 b.kind,.int .i64 b.int,.str b.name,.sl (b.kids.map V.enc)]] (.d (.bool (decide (a.cmp b=0)))):=by
 have h:=l02Same_fn a b
 rw [V.enc_eq a,V.enc_eq b] at h;exact h
theorem l08Insert_fn (l:List V) (f:V) (ha:ascC V.cmp l) (hl:l.length≤2000000):Gives Tryz.prog 65 [.sl (l.map V.enc),.agg f.enc] (.d (.sl ((insC V.cmp l f).map V.enc))):=by
 have hmx:maxLen=9223372036854775807:=rfl
 have hmap:∀x:List V,(x.map V.enc).length=x.length:=fun x=>List.length_map _
 obtain ⟨RES,hRES⟩:∃RES,insC V.cmp l f=RES:=⟨_,rfl⟩
 have hFe:=V.enc_eq f
 rw [hRES,hFe]
 refine aE_ Tryz.func65 ?_
 refine rS_ Tryz.func65 ?_
 simp only [go_sem,seval,hmap]
 refine AW.lp [0,3] (fun k:Nat=>[(5,.d (.int .i64 (k:Int)))]) (fun H _=>H) (fun k=>k≤l.length∧∀i y,k≤i→l[i]? = some y→¬y.cmp f<0) (fun k=>k) l.length ⟨Nat.le_refl _,fun i y hi hy=>by have:=(a_.1 hy).1;omega⟩ wk1_ ?_
 intro k hk hnk
 obtain ⟨k1,k2⟩:=hk
 have stop:(∀i y,i<k→l[i]? = some y→y.cmp f<0)→insC V.cmp l f=if eqAt V.cmp l k f then l else l.take k++f :: l.drop k:=fun h=>insC_at V.cmp_lin l f k ha k1 h k2
 by_cases hkz:k=0
 ·have n1:¬(0:Int)<(k:Int):=by omega
  have hst:=stop (fun i y hi=>by omega)
  clear stop hnk
  rw [hRES] at hst
  have hks:(0:Int)≤(k:Int):=by omega
  cases hlk:l[k]? with
  | none =>
   have hkl:k=l.length:=by have:=d_.1 hlk;omega
   have m1:¬(k:Int)<(l.length:Int):=by omega
   have hq:eqAt V.cmp l k f=false:=by unfold eqAt;rw [hlk]
   rw [hq,if_neg (by simp)] at hst
   rw [hst]
   refine rS_ Tryz.func65 ?_
   simp only [go_sem,seval,n1,hmap,m1,hks]
   skip
   repeat' (first
    | ((refine ⟨sd,?_⟩)<;>(try simp only [go_sem,seval,n1,hmap,m1,hks]))
    | fail)
   all_goals simp [hFe,b_,c_]
  | some z =>
   have m1:(k:Int)<(l.length:Int):=by have:=(a_.1 hlk).1;omega
   have hz:=l02SameV_fn z f
   by_cases hzf:z.cmp f=0
   ·have hq:eqAt V.cmp l k f=true:=by unfold eqAt;rw [hlk];simp [hzf]
    rw [hq,if_pos rfl] at hst
    rw [hzf] at hz
    rw [hst]
    refine rS_ Tryz.func65 ?_
    simp only [go_sem,seval,n1,hmap,m1,hks,j5 hlk,V.enc_eq]
    skip
    repeat' (first
     | ((refine hz.callQ rfl ?_)<;>(try simp only [go_sem,seval,n1,hmap,m1,hks,j5 hlk,V.enc_eq]))
     | fail)
   ·have hq:eqAt V.cmp l k f=false:=by unfold eqAt;rw [hlk];simp [hzf]
    rw [hq,if_neg (by simp)] at hst
    rw [decide_eq_false hzf] at hz
    rw [hst]
    refine rS_ Tryz.func65 ?_
    simp only [go_sem,seval,n1,hmap,m1,hks,j5 hlk,V.enc_eq,hzf]
    skip
    repeat' (first
     | ((first
      | (refine hz.callQ rfl ?_)
      | (refine ⟨sd,?_⟩))<;>(try simp only [go_sem,seval,n1,hmap,m1,hks,j5 hlk,V.enc_eq,hzf]))
     | fail)
    all_goals first | (exact absurd (by assumption) hzf) | skip
    all_goals simp [hFe,b_,c_]
 ·obtain ⟨y,hy⟩:∃y,l[k - 1]? = some y:=⟨_,List.getElem?_eq_getElem (by omega)⟩
  have n1:(0:Int)<(k:Int):=by omega
  have w1:IntKind.i64.wrap ((k:Int) - 1)=((k - 1:Nat):Int):=by rw [j6 (by omega) (by omega)];omega
  have n2:((k - 1:Nat):Int)<(l.length:Int):=by omega
  have he:=l02CmpV_fn y f
  by_cases hc:y.cmp f<0
  ·have hc':¬(0:Int)≤y.cmp f:=by omega
   have hst:=stop (fun i z hi hz=>by
    by_cases e:i=k - 1
    ·subst e;rw [hz] at hy;cases hy;exact hc
    ·exact V.cmp_lin.tr _ _ _ (ascC_at ha (show i<k - 1 by omega) hz hy) hc)
   clear stop hnk
   rw [hRES] at hst
   have hks:(0:Int)≤(k:Int):=by omega
   cases hlk:l[k]? with
   | none =>
    have hkl:k=l.length:=by have:=d_.1 hlk;omega
    have m1:¬(k:Int)<(l.length:Int):=by omega
    have hq:eqAt V.cmp l k f=false:=by unfold eqAt;rw [hlk]
    rw [hq,if_neg (by simp)] at hst
    rw [hst]
    refine rS_ Tryz.func65 ?_
    simp only [go_sem,seval,n1,w1,n2,j5 hy,hmap,V.enc_eq,hc,hc',m1,hks]
    repeat' (first
     | ((first
      | (refine he.callQ rfl ?_)
      | (refine ⟨sd,?_⟩))<;>(try simp only [go_sem,seval,n1,w1,n2,j5 hy,hmap,V.enc_eq,hc,hc',m1,hks]))
     | fail)
    all_goals simp [hFe,b_,c_]
   | some z =>
    have m1:(k:Int)<(l.length:Int):=by have:=(a_.1 hlk).1;omega
    have hz:=l02SameV_fn z f
    by_cases hzf:z.cmp f=0
    ·have hq:eqAt V.cmp l k f=true:=by unfold eqAt;rw [hlk];simp [hzf]
     rw [hq,if_pos rfl] at hst
     rw [hzf] at hz
     rw [hst]
     refine rS_ Tryz.func65 ?_
     simp only [go_sem,seval,n1,w1,n2,j5 hy,hmap,V.enc_eq,hc,hc',m1,hks,j5 hlk,V.enc_eq]
     repeat' (first
      | ((first
       | (refine he.callQ rfl ?_)
       | (refine hz.callQ rfl ?_))<;>(try simp only [go_sem,seval,n1,w1,n2,j5 hy,hmap,V.enc_eq,hc,hc',m1,hks,j5 hlk,V.enc_eq]))
      | fail)
    ·have hq:eqAt V.cmp l k f=false:=by unfold eqAt;rw [hlk];simp [hzf]
     rw [hq,if_neg (by simp)] at hst
     rw [decide_eq_false hzf] at hz
     rw [hst]
     refine rS_ Tryz.func65 ?_
     simp only [go_sem,seval,n1,w1,n2,j5 hy,hmap,V.enc_eq,hc,hc',m1,hks,j5 hlk,V.enc_eq,hzf]
     repeat' (first
      | ((first
       | (refine he.callQ rfl ?_)
       | (refine hz.callQ rfl ?_)
       | (refine ⟨sd,?_⟩))<;>(try simp only [go_sem,seval,n1,w1,n2,j5 hy,hmap,V.enc_eq,hc,hc',m1,hks,j5 hlk,V.enc_eq,hzf]))
      | fail)
     all_goals first | (exact absurd (by assumption) hzf) | skip
     all_goals simp [hFe,b_,c_]
  ·have hc':(0:Int)≤y.cmp f:=by omega
   refine rS_ Tryz.func65 ?_
   simp only [go_sem,seval,n1,w1,n2,j5 hy,hmap,V.enc_eq,hc,hc']
   repeat' (first
    | ((refine he.callQ rfl ?_)<;>(try simp only [go_sem,seval,n1,w1,n2,j5 hy,hmap,V.enc_eq,hc,hc']))
    | fail)
   refine hnk (k - 1) _ ⟨by omega,fun i z hi hz=>?_⟩ (by omega) wk1_
   by_cases e:i=k - 1
   ·subst e;rw [hz] at hy;cases hy;exact hc
   ·exact k2 i z (by omega) hz
theorem vbelow0:∀v:V,v.vbelow 0=true→v.vars=[]:=by
 intro v
 induction v with
 | pair a b iha ihb =>
  intro h
  simp only [V.vbelow,Bool.and_eq_true] at h
  simp [V.vars,iha h.1,ihb h.2]
 | var n=>intro h;simp [V.vbelow] at h;omega
 | _=>intro _;rfl
theorem drawn_gr {m:Nat} {v:V} (h:drawn m 0 v):v.vars=[]:=vbelow0 v h.2.2
theorem insC_le {l:List V} {x:V}:(insC V.cmp l x).length≤l.length+1:=by
 induction l with
 | nil=>simp [insC]
 | cons y q ih =>
  unfold insC
  split
  ·simp only [List.length_cons];omega
  ·split<;>simp only [List.length_cons]<;>omega
theorem insC_pos {l:List V} {x:V}:1≤(insC V.cmp l x).length:=List.length_pos_of_mem ((insC_mem V.cmp_lin l x x).2 (.inl rfl))
theorem l08Universe_R (B:List UInt8) (hB:B.length≤1048576) (m:Nat) (hm1:1≤m) (hm:m≤8) (i h:Int) (h0:0≤i) (h1:i≤B.length):ACalls Tryz.prog 32 [.ptr 0 0,.d (.int .i64 m)] [cuO B i h] (fun c H'=>∃(u:List V) (i' h':Int),c=.d (.sl (u.map V.enc))∧H'=[cuO B i' h']∧Uni u∧u.length≤m∧(∀v,v∈u→drawn 7 0 v)∧0≤i'∧i'≤B.length):=by
 have hmx:maxLen=9223372036854775807:=rfl
 have hb:=l01Below_R B i h hB h0 h1 (m:Int)
 refine aE_ Tryz.func32 ?_
 refine rS_ Tryz.func32 ?_
 simp only [go_sem,seval]
 repeat' (first
  | (simp (disch:=omega) only [j6])
  | ((refine (ACalls.emb hb [0] rfl rfl rfl (by decide) rfl ?_)<;>(rintro c H' ⟨x,i2,h2,rfl,rfl,⟨b1,b2⟩,b3,b4⟩ _;refine ⟨rfl,rfl,?_⟩))<;>(try simp only [go_sem,seval]))
  | fail)
 refine AW.nilG 5 rfl ?_
 obtain ⟨k0,hk0,hk1,hkm⟩:∃k0:Nat,1+x=(k0:Int)∧1≤k0∧k0≤m:=⟨(1+x).toNat,by omega,by omega,by omega⟩
 refine AW.lp [0] (fun u:Nat×List V×Int×Int=>[(6,.d (.int .i64 (u.1:Int))),(5,.d (.sl (u.2.1.map V.enc)))]) (fun _ u=>[cuO B u.2.2.1 u.2.2.2]) (fun u=>ascC V.cmp u.2.1∧(∀v,v∈u.2.1→drawn 7 0 v)∧u.1+u.2.1.length≤m∧(1≤u.1∨1≤u.2.1.length)∧0≤u.2.2.1∧u.2.2.1≤B.length) (fun u=>u.1) (k0,[],i2,h2) ⟨List.Pairwise.nil,(fun v hv=>by cases hv),by simp;omega,.inl hk1,b3,b4⟩ (by refine ⟨by simp [mkS,cuO_eq,hk0],by simp [mkS,cuO_eq,hk0],by simp only [mkS,List.all_cons,List.all_nil,O.refsLt,C.refsLt,C.refsLt1,all_dmap];first | done | rfl | (simp;done),?_⟩;simp [mkS,Abs.get,C.refsLtT,C.refsLt,C.refsLt1,cuO_eq,hk0]) ?_
 rintro ⟨k,u,i3,h3⟩ ⟨u1,u2,u3,u4,u5,u6⟩ hnext
 dsimp only at u1 u2 u3 u4 u5 u6 hnext ⊢
 by_cases hk:k=0
 ·subst hk
  have hu1:1≤u.length:=by omega
  refine rS_ Tryz.func32 ?_
  simp only [go_sem,seval]
  repeat' (first
   | (exact ⟨u,_,_,rfl,rfl,⟨hu1,by omega,fun v hv=>drawn_ok (u2 v hv) (by decide),fun v hv=>drawn_gr (u2 v hv),u1⟩,by omega,u2,u5,u6⟩)
   | fail)
 ·obtain ⟨k,rfl⟩:∃k',k=k'+1:=⟨k - 1,by omega⟩
  have e1:(0:Int)<(k:Int)+1:=by omega
  have wk:IntKind.i64.wrap ((k:Int)+1 - 1)=(k:Int):=by rw [j6 (by omega) (by omega)];omega
  have hb2:=l01Below_R B i3 h3 hB u5 u6 2
  refine rS_ Tryz.func32 ?_
  simp only [go_sem,seval,e1,wk]
  repeat' (first
   | (simp (disch:=omega) only [j6])
   | ((first
    | (refine (ACalls.emb hb2 [0] rfl rfl rfl (by decide) rfl ?_)<;>(rintro c H' ⟨y,i4,h4,rfl,rfl,⟨c1,c2⟩,c3,c4⟩ _;rcases (show y=0∨y=1 by omega) with rfl | rfl<;>refine ⟨rfl,rfl,?_⟩))
    | (refine (ACalls.emb (l02Draw_R B hB 0 (by decide) 1 i4 h4 (by decide) c3 c4) [0] rfl rfl rfl (by decide) rfl ?_)<;>(rintro c H' ⟨v,i5,h5,rfl,rfl,k1,k2,k3⟩ _;refine ⟨rfl,rfl,?_⟩))
    | (refine (ACalls.emb (l02Draw_R B hB 0 (by decide) 3 i4 h4 (by decide) c3 c4) [0] rfl rfl rfl (by decide) rfl ?_)<;>(rintro c H' ⟨v,i5,h5,rfl,rfl,k1,k2,k3⟩ _;refine ⟨rfl,rfl,?_⟩))
    | (refine (l08Insert_fn u v u1 (by omega)).calls rfl ?_))<;>(try simp only [go_sem,seval,e1,wk]))
   | fail)
  all_goals refine hnext (k,insC V.cmp u v,i5,h5) _ ⟨insC_asc V.cmp_lin u v u1,fun z hz=>by
   rcases (insC_mem V.cmp_lin u v z).1 hz with rfl | hz
   ·exact drawn_le k1 (by decide)
   ·exact u2 z hz,by have:=insC_le (l:=u) (x:=v);dsimp only;omega,.inr insC_pos,k2,k3⟩ (by dsimp only;omega) (by refine ⟨by simp [mkS,cuO_eq],by simp [mkS,cuO_eq],by simp only [mkS,List.all_cons,List.all_nil,O.refsLt,C.refsLt,C.refsLt1,all_dmap];first | done | rfl | (simp;done),?_⟩;simp [mkS,Abs.get,C.refsLtT,C.refsLt,C.refsLt1])
theorem MakeUniverse_R (B:List UInt8) (hB:B.length≤1048576) (n m:Nat) (hn:n≤1000) (hm1:1≤m) (hm:m≤8):ACalls Tryz.prog 8 [.d (.sl (bytesD B)),.d (.int .i64 n),.d (.int .i64 m)] [] (fun c H'=>∃u:List V,c=.d (.sl (u.map V.enc))∧H'=[]∧Uni u∧u.length≤m∧∀v,v∈u→drawn 7 0 v):=by
 have hw:=l43New_T B hB n (by omega)
 refine aE_ Tryz.func8 ?_
 refine AW.hole ?_
 refine run_sound Tryz.func8 mixed 4 _ _ (by kernel_rfl) ?_
 simp only [go_sem,seval,run.eq_1]
 repeat' (first
  | ((refine (ACalls.emb hw [0] rfl rfl rfl (by decide) rfl ?_)<;>(rintro c H' ⟨rfl,i,h,rfl,e1,e2⟩ _;refine ⟨rfl,rfl,?_⟩))<;>(try simp only [go_sem,seval,run.eq_1]))
  | fail)
 refine ACalls.emb (ACalls.unpb (ds:=[.int .i64 m]) (cs:=cuD B i h) (l08Universe_R B hB m hm1 hm i h e1 e2) (K:=fun c H'=>∃u:List V,c=.d (.sl (u.map V.enc))∧H'=[.dead]∧Uni u∧u.length≤m∧∀v,v∈u→drawn 7 0 v) (fun c H' ⟨u,i',h',c1,c2,c3,c4,c5,_⟩=>⟨_,c1,u,c1,rfl,c3,c4,c5⟩)) [0] rfl rfl rfl (by decide) rfl ?_
 rintro c H' ⟨u,rfl,rfl,c3,c4,c5⟩ _
 refine ⟨rfl,rfl,?_⟩
 simp only [go_sem,seval,run.eq_1]
 refine rS_ Tryz.func8 ?_
 simp only [go_sem,seval]
 repeat' (first
  | ((first
   | (refine ⟨sd,?_⟩)
   | (refine ⟨by assumption,?_⟩))<;>(try simp only [go_sem,seval]))
  | assumption)
end Go.Proofs.YtlajhmoomlgopaaGreat
