import Derived.Test.YtlajhmoomlgopaaGreatW107
import Derived.Test.YtlajhmoomlgopaaGreatW8
import Derived.Test.YtlajhmoomlgopaaGreatW9
open List renaming getElem?_eq_some_iff→a_,length_map→b_,append_nil→c_,getElem?_eq_getElem→d_,all_cons→e_,take_of_length_le→f_,getElem?_set_self→g_,all_nil→h_,length_filter_le→i_,getElem?_eq_none→j_
namespace Go.Proofs.YtlajhmoomlgopaaGreat
open Go.Abs
set_option maxRecDepth 100000
set_option maxHeartbeats 8000000
set_option linter.unusedSimpArgs false
set_option linter.unusedVariables false
theorem consequences_fn (rs:List RV) (F:List FcV) (hF:ascC FcV.cmp F) (hl:F.length≤9000000) (hr:rs.length≤2000000):Gives Tryz.prog 41 [.sl (rs.map rvE),.sl (F.map fcE)] (.d (.sl ((nextF rs F F).map fcE))):=by
 have hmx:maxLen=9223372036854775807:=rfl
 have hhf:∀f:FcV,Gives Tryz.prog 46 [.sl (F.map fcE),.agg [.str f.1,.sl (f.2.map V.enc)]] (.d (.bool (decide (f∈F)))):=fun f=>by
  have h:=hasFact_fn F f hl hF
  rw [fcE_eq] at h;exact h
 obtain ⟨RES,hRES⟩:∃RES,nextF rs F F=RES:=⟨_,rfl⟩
 rw [hRES]
 refine aE_ Tryz.func41 ?_
 refine rS_ Tryz.func41 ?_
 simp only [go_sem,seval]
 refine AW.adopt 5 2 37 (by decide) rfl ?_
 refine AW.rng rs [1,14,15] 16 14 (fun L:List FcV=>[(5,.own 0 L.length)]) (fun _ L=>[.grow L.length 2 37 (L.map fcE)]) (fun r L=>∃d,rs=d++r∧L=(d.filter (RV.fires F F)).map RV.head) [] rfl (by simp) ⟨[],rfl,rfl⟩ wk1_ (fun i x r L hxi hdr hlt hm hinv hnext=>?_) (fun L hinv=>?_)
 ·obtain ⟨d,d1,d2⟩:=hinv
  have hLl:L.length≤2000000:=by
   rw [d2,b_]
   have h1:=i_ (RV.fires F F) d
   have h2:=congrArg List.length d1
   simp at h2;omega
  have hfi:x.fires F F=(x.pos.all (fun f=>decide (f∈F)) && x.neg.all (fun f=>!decide (f∈F))):=by
   unfold RV.fires;simp
  have hnext:=fun (L':List FcV) s' (h:L'=L++(if x.fires F F=true then [x.head] else []))=>hnext L' s' ⟨d++[x],by rw [d1];simp,by rw [h,d2,List.filter_append,List.map_append];congr 1;cases hq:x.fires F F<;>simp [hq]⟩
  clear d1 d2
  refine rS_ Tryz.func41 ?_
  simp only [go_sem,seval,hlt,j5 hxi,rvE_eq]
  refine AW.rng x.pos [1,5,7,14,15,16,21,22] 23 21 (fun b:Bool=>[(8,.d (.bool b))]) (fun _ b=>[.grow L.length 2 37 (L.map fcE),.box [.d (.str x.head.1),.d (.sl (x.head.2.map V.enc)),.d (.int .i64 x.clause),.d (.sl (x.values.map V.enc)),.d (.sl (x.pos.map fcE)),.d (.sl (x.neg.map fcE))]]) (fun r b=>∃d,x.pos=d++r∧b=d.all (fun f=>decide (f∈F))) true rfl (by simp) ⟨[],rfl,rfl⟩ wk1_ (fun j f r1 b hfj hdj hltj hmj hinv hnj=>?_) (fun b hinv=>?_)
  ·obtain ⟨d,d1,d2⟩:=hinv
   have hh:=hhf f
   have hnj:=fun (b':Bool) s' (h:b'=(b && decide (f∈F)))=>hnj b' s' ⟨d++[f],by rw [d1];simp,by rw [h,d2,List.all_append];simp⟩
   clear d1 d2
   generalize decide (f∈F)=q at *
   cases b<;>· (
    refine rS_ Tryz.func41 ?_
    simp only [go_sem,seval,hltj,j5 hfj,fcE_eq]
    repeat' (first
     | (simp (disch:=omega) only [j6])
     | ((refine hh.calls rfl ?_)<;>(try simp only [go_sem,seval,hltj,j5 hfj,fcE_eq]))
     | fail)
    refine hnj _ _ rfl wk1_)
  obtain ⟨d,d1,d2⟩:=hinv
  rw [c_] at d1
  subst d1
  refine rS_ Tryz.func41 ?_
  simp only [go_sem,seval]
  refine AW.rng x.neg [1,5,7,14,15,16,35,36] 37 35 (fun b:Bool=>[(8,.d (.bool b))]) (fun _ b=>[.grow L.length 2 37 (L.map fcE),.box [.d (.str x.head.1),.d (.sl (x.head.2.map V.enc)),.d (.int .i64 x.clause),.d (.sl (x.values.map V.enc)),.d (.sl (x.pos.map fcE)),.d (.sl (x.neg.map fcE))]]) (fun r b=>∃d,x.neg=d++r∧b=(x.pos.all (fun f=>decide (f∈F)) && d.all (fun f=>!decide (f∈F)))) b rfl (by simp) ⟨[],rfl,by rw [d2];simp⟩ wk1_ (fun j f r1 b hfj hdj hltj hmj hinv hnj=>?_) (fun b hinv=>?_)
  ·obtain ⟨d,d1,d3⟩:=hinv
   have hh:=hhf f
   have hnj:=fun (b':Bool) s' (h:b'=(b && !decide (f∈F)))=>hnj b' s' ⟨d++[f],by rw [d1];simp,by rw [h,d3,List.all_append,Bool.and_assoc];simp⟩
   clear d1 d3 d2
   generalize decide (f∈F)=q at *
   cases b<;>· (
    refine rS_ Tryz.func41 ?_
    simp only [go_sem,seval,hltj,j5 hfj,fcE_eq]
    repeat' (first
     | (simp (disch:=omega) only [j6])
     | ((refine hh.calls rfl ?_)<;>(try simp only [go_sem,seval,hltj,j5 hfj,fcE_eq]))
     | fail)
    refine hnj _ _ rfl wk1_)
  obtain ⟨d,d1,d3⟩:=hinv
  rw [c_] at d1
  subst d1
  rw [←hfi] at d3
  clear hfi d2
  cases b with
  | false =>
   refine rS_ Tryz.func41 ?_
   simp only [go_sem,seval]
   repeat' (first
    | (simp (disch:=omega) only [j6])
    | fail)
   refine hnext L _ (by rw [←d3];simp) wk1_
  | true =>
   have hFe:=fcE_eq x.head
   refine rS_ Tryz.func41 ?_
   simp only [go_sem,seval]
   repeat' (first
    | (simp (disch:=omega) only [j6])
    | ((refine ⟨sd,?_⟩)<;>(try simp only [go_sem,seval]))
    | fail)
   refine hnext (L++[x.head]) _ (by rw [←d3];simp) (by refine ⟨by simp [mkS,hFe],by simp [mkS,hFe],by simp only [mkS,e_,h_,O.refsLt,C.refsLt,C.refsLt1,all_dmap];first | done | rfl | (simp;done),?_⟩;simp [mkS,Abs.get,C.refsLtT,C.refsLt,C.refsLt1,hFe])
 ·obtain ⟨d,d1,d2⟩:=hinv
  rw [c_] at d1
  subst d1
  have hLl:L.length≤2000000:=by
   rw [d2,b_]
   exact Nat.le_trans (i_ _ _) hr
  have hs:=sortFacts_fn L hLl
  rw [show sortC FcV.cmp L=RES from by rw [←hRES,d2];rfl] at hs
  refine AW.readG 5 0 rfl rfl ?_
  refine rS_ Tryz.func41 ?_
  simp only [go_sem,seval]
  repeat' (first
   | ((refine hs.calls rfl ?_)<;>(try simp only [go_sem,seval]))
   | fail)
theorem sameFacts_fn (a b:List FcV) (ha:a.length≤9000000) (hb:b.length≤9000000):Gives Tryz.prog 67 [.sl (a.map fcE),.sl (b.map fcE)] (.d (.bool (decide (a=b)))):=by
 have hmx:maxLen=9223372036854775807:=rfl
 have hmap:∀x:List FcV,(x.map fcE).length=x.length:=fun x=>b_ _
 by_cases hlen:a.length=b.length
 ·obtain ⟨RES,hRES⟩:∃RES,decide (a=b)=RES:=⟨_,rfl⟩
  rw [hRES]
  have n1:(a.length:Int)=(b.length:Int):=by omega
  refine aE_ Tryz.func67 ?_
  refine rS_ Tryz.func67 ?_
  simp only [go_sem,seval,hmap,n1]
  refine AW.lp [0,1,12] (fun i:Nat=>[(13,.d (.int .i64 (i:Int)))]) (fun H _=>H) (fun i=>i≤a.length∧a.take i=b.take i) (fun i=>a.length - i) 0 ⟨Nat.zero_le _,rfl⟩ wk1_ ?_
  intro i hi hni
  obtain ⟨h1,h2⟩:=hi
  by_cases hia:i<a.length
  ·have n2:(i:Int)<(b.length:Int):=by omega
   have n3:(i:Int)<(a.length:Int):=by omega
   obtain ⟨x,hx⟩:∃x,a[i]? = some x:=⟨_,d_ hia⟩
   obtain ⟨y,hy⟩:∃y,b[i]? = some y:=⟨_,d_ (hlen ▸ hia)⟩
   have ho:=orderF_fn x y
   have w1:IntKind.i64.wrap ((i:Int)+1)=((i+1:Nat):Int):=by rw [j6 (by omega) (by omega)];omega
   by_cases hxy:x.cmp y=0
   ·have he:=(FcV.cmp_lin.zero _ _).1 hxy
    rw [hxy] at ho
    refine run_sound Tryz.func67 mixed 10 _ _ (by kernel_rfl) ?_
    simp only [go_sem,seval,run.eq_1,n2,n3,hmap]
    refine AW.drawA mixed #[true,true,true,true,true,true,true,true,true,false] [] [] [0,1,2,3,4,5,6,7,8] [9] none (by kernel_rfl) trivial (by simp [holdsB]) ?_
    simp only [go_sem,seval,hmap,n2,n3,j5 hx,j5 hy]
    repeat' (first
     | ((refine ho.calls rfl ?_)<;>(try simp only [go_sem,seval,w1]))
     | fail)
    refine rS_ Tryz.func67 ?_
    simp only [go_sem,seval]
    repeat' (first
     | (simp (disch:=omega) only [j6])
     | fail)
    refine hni (i+1) _ ⟨by omega,by rw [List.take_add_one,List.take_add_one,h2,hx,hy,he]⟩ (by omega) wk1_
   ·have he:a≠b:=fun e=>hxy (by rw [e,hy] at hx;cases hx;exact (FcV.cmp_lin.zero _ _).2 rfl)
    rw [decide_eq_false he] at hRES
    subst hRES
    refine run_sound Tryz.func67 mixed 10 _ _ (by kernel_rfl) ?_
    simp only [go_sem,seval,run.eq_1,n2,n3,hmap]
    refine AW.drawA mixed #[true,true,true,true,true,true,true,true,true,false] [] [] [0,1,2,3,4,5,6,7,8] [9] none (by kernel_rfl) trivial (by simp [holdsB]) ?_
    simp only [go_sem,seval,hmap,n2,n3,j5 hx,j5 hy]
    repeat' (first
     | ((refine ho.calls rfl ?_)<;>(try simp only [go_sem,seval,w1,hxy]))
     | fail)
    refine rS_ Tryz.func67 ?_
    simp only [go_sem,seval,hxy]
    repeat' (first
     | ((refine br_n (fun hq=>?_) (fun hq=>?_))<;>(try simp only [go_sem,seval,w1,hxy,hq]))
     | fail)
    all_goals exact absurd (by assumption) hxy
  ·have n2:¬(i:Int)<(b.length:Int):=by omega
   have n3:¬(i:Int)<(a.length:Int):=by omega
   have he:a=b:=by rw [f_ (by omega),f_ (by omega)] at h2;exact h2
   rw [decide_eq_true he] at hRES
   subst hRES
   refine rS_ Tryz.func67 ?_
   simp only [go_sem,seval,n2,n3]
 ·have n1:¬(a.length:Int)=(b.length:Int):=by omega
  rw [decide_eq_false (fun e=>hlen (by rw [e]))]
  refine aE_ Tryz.func67 ?_
  refine rS_ Tryz.func67 ?_
  simp only [go_sem,seval,hmap,n1]
  repeat' (first
   | ((refine br_n (fun hq=>?_) (fun hq=>?_))<;>(try simp only [go_sem,seval,hmap,n1,hq]))
   | fail)
  all_goals (exfalso;omega)
def vcOpL0 (P:Program) (s:St) (o:Oper) (K:C→List O→Prop):Prop:=
 match o.op with
 | .buildSlice _ 0 _=>vcOpT P s o K
 | _=>vcOpL P s o K
theorem vcOpL0_sound {P:Program} {s:St} {o:Oper} {K:C→List O→Prop} (h:vcOpL0 P s o K):EffOk P s o K:=by
 unfold vcOpL0 at h
 split at h
 ·exact vcOpT_sound h
 ·exact vcOpL_sound h
def vcRL0 (P:Program) (n:Nat) (K:St→Prop):List Oper→St→Prop
 | [],⟨σ,H⟩=>K ⟨σ,H⟩
 | o :: rest,⟨σ,H⟩=>okDst n o=true∧o.guard=none∧vcOpL0 P ⟨σ,H⟩ o (kR (vcRL0 P n K rest) ⟨σ,H⟩ o.dst)
theorem vcRL0_sound {P:Program} {n:Nat} {K:St→Prop} {ops:Array Oper} {E0:Env}:∀(os:List Oper) (l:List Nat) (s:St) (E:Env) (a:Act),l.map (ops[·]?)=os.map some→RepSt E n s a→Le E0 E→vcRL0 P n K os s →
  wpOps P ops (Behind n E0 K) l a E.w
 | [],l,s,E,a,hl,hst,hle,h=>by
  have:l=[]:=by simpa using hl
  subst this
  exact ⟨rfl,E,s,rfl,hst,hle,h⟩
 | o :: os,l,s,E,a,hl,hst,hle,h=>by
  cases l with
  | nil=>simp at hl
  | cons i l =>
   simp only [List.map_cons,List.cons.injEq] at hl
   obtain ⟨ho,hl⟩:=hl
   unfold vcRL0 at h
   obtain ⟨hd,hg,h⟩:=h
   have hdst:∀d,o.dst=some d→d<n:=fun d hd'=>by
    unfold okDst at hd
    rw [hd'] at hd
    simpa using hd
   rw [Go.wpOps_cons]
   refine wpOp_of (n:=n) ho hg ((vcOpL0_sound h).run hst (fun v E' c H' h1 h2 h3 h4=>?_))
   exact vcRL0_sound os l _ E' _ hl (hst.put h3 h2 hdst h1) (hle.trans h3) h4
theorem AWregL0 {P:Program} {n:Nat} {f:FuncId} {n0:Nat} {R:C→List O→Prop} {id:Nat} {ops:Array Oper} {k:List Item} {s:St} (h:vcRL0 P n (AW P f n n0 R k) ops.toList s):AW P f n n0 R (.code (.region id ops false) :: k) s:=by
 refine AW.of_behind (k':=k) fun _ E a b cs hst=>?_
 have hw:=vcRL0_sound (ops:=ops) ops.toList (List.range ops.size) s E a (by
  apply List.ext_getElem?
  intro j
  simp only [List.getElem?_map]
  by_cases hj:j<ops.size
  ·rw [List.getElem?_range hj]
   simp [hj]
  ·rw [j_ (by simpa using hj),j_ (by simpa using hj)]
   rfl) hst (Le.refl E) h
 obtain ⟨e,a',w',⟨rfl,E',s',rfl,h1,h2,h3⟩,harr⟩:=wp_region (id:=id) hw b k cs
 exact ⟨a',E',s',harr,h1,h2,h3⟩
attribute [go_sem] vcOpL0.eq_def vcRL0.eq_1 vcRL0.eq_2
theorem AWbufG {P:Program} {f:FuncId} {n n0:Nat} {R:C→List O→Prop} {k:List Item} {s:St} (r:Nat) {q z e:Nat} {xs:List (List D)} (hr:s.H[r]? = some (.buf q z e xs))
  (h:AW P f n n0 R k ⟨s.σ,s.H.set r (.grow q z e xs)⟩):AW P f n n0 R k s:=by
 refine AW.recast (s':=⟨s.σ,s.H.set r (.grow q z e xs)⟩) (fun h0 E a hst=>?_)
 obtain ⟨h1,h2,h3,h4⟩:=hst.heap.obj r _ hr
 have hrl:=(a_.1 hr).1
 rcases h4 with ⟨ad,h5,rfl⟩ | ⟨b0,cap,arr,h5,h6,h7,h8,h9,h10,h11,h12⟩
 ·refine ⟨E,rfl,Le.refl E,⟨hst.size,hst.defers,?_,hst.slot⟩,h⟩
  refine hst.heap.turn (r0:=r) (o0:=.grow q z e []) (Le.refl E) (by simp [hst.heap.N]) (fun r' hr'=>?_) (fun o' ho'=>?_) (fun _ _ _=>rfl) (fun r' o' b hr' ho' hb=>⟨rfl,fun i hs=>hs⟩) (fun _ hb=>hb) (fun b i hs=>hst.heap.Slt b i hs) ⟨h1,h2,h3,.inl ⟨ad,h5,rfl⟩⟩ (fun b hb=>by have hb':ownB (E.τ r).2=some b:=hb;rw [h5] at hb';cases ad<;>simp [ownB] at hb')
  ·rw [List.getElem?_set_ne (fun e=>hr' e.symm)]
  ·rw [g_ hrl] at ho'
   exact (Option.some.inj ho').symm
 ·have hx:=List.length_pos_iff.2 h7
  have hblk:(O.buf q z e xs).block E r b0:=by simp [O.block,h5,ownB];omega
  have hpv:=hst.heap.pv r _ _ hr hblk
  have hlb:=hst.heap.lt r _ _ hr hblk
  let E1:Env:={ E with S:=fun b i=>E.S b i∨(b=b0∧i<xs.length * z) }
  have hl:Le E E1:=by
   refine ⟨rfl,rfl,rfl,Nat.le_refl _,Nat.le_refl _,fun _ _=>rfl,fun _ _=>⟨Nat.le_refl _,fun _=>rfl⟩,fun _ _ hs=>.inl hs,fun _ _ _=>rfl,fun _ _ _=>rfl,fun b i hs=>?_,fun _ hp=>.inl hp,fun _ _ _ _ _ hh=>hh⟩
   rcases hs with hs | ⟨rfl,_⟩
   ·exact .inl hs
   ·exact .inr (.inr hpv)
  refine ⟨E1,rfl,hl,⟨hst.size,hst.defers,?_,fun t=>(hst.slot t).le hl⟩,h⟩
  refine hst.heap.turn (r0:=r) (o0:=.grow q z e xs) hl (by simp [E1,hst.heap.N]) (fun r' hr'=>?_) (fun o' ho'=>?_) (fun _ _ _=>rfl) (fun r' o' b hr' ho' hb=>⟨rfl,fun i hs=>?_⟩) (fun _ hb=>hb) (fun b i hs=>?_) ⟨h1,h2,h3,.inr ⟨b0,cap,arr,h5,h6,by omega,h8,h9,h10,fun i j x c hi hj=>?_,fun i hi hS=>?_⟩⟩ (fun b hb=>⟨?_,?_,?_⟩)
  ·rw [List.getElem?_set_ne (fun e=>hr' e.symm)]
  ·rw [g_ hrl] at ho'
   exact (Option.some.inj ho').symm
  ·rcases hs with hs | ⟨rfl,_⟩
   ·exact hs
   ·exact absurd (hst.heap.apart r' r o' _ _ ho' hr hb hblk) hr'
  ·rcases hs with hs | ⟨rfl,_⟩
   ·exact hst.heap.Slt b i hs
   ·exact hlb
  ·obtain ⟨v,k2,k3,k4⟩:=h11 i j x c hi hj
   have hil:i<xs.length:=(a_.1 hi).1
   have hjl:j<z:=by rw [←h2 x (List.mem_of_getElem? hi)];exact (a_.1 hj).1
   have hm:(i+1) * z≤xs.length * z:=Nat.mul_le_mul_right z (by omega)
   rw [Nat.add_mul] at hm
   exact ⟨.inr ⟨rfl,by omega⟩,v,k2,k3,k4.le hl⟩
  ·rcases hS with hS | ⟨_,hlt⟩
   ·exact h12 i hS
   ·omega
  ·have hb':(O.buf q z e xs).block E r b:=hb
   exact hst.heap.pv r _ _ hr hb'
  ·have hb':(O.buf q z e xs).block E r b:=hb
   exact hst.heap.lt r _ _ hr hb'
  ·have hb':(O.buf q z e xs).block E r b:=hb
   exact fun r' o' hr' ho' hb2=>hr' (hst.heap.apart r' r o' _ b ho' hr hb2 hb')
def stgD (rs:List RV) (m:Nat):List (List D):=(List.range m).map fun i=>[.sl ((stg rs i).map fcE)]
theorem stgD_s (rs:List RV) (m:Nat):stgD rs (m+1)=stgD rs m++[[.sl ((stg rs m).map fcE)]]:=by simp [stgD,List.range_succ]
theorem stgD_1 (rs:List RV):stgD rs 1=[[.sl []]]:=rfl
@[go_sem] theorem stgD_len (rs:List RV) (m:Nat):(stgD rs m).length=m:=by simp [stgD]
theorem stgD_at (rs:List RV) {i m:Nat} (h:i<m):(stgD rs m)[i]? = some [.sl ((stg rs i).map fcE)]:=by
 unfold stgD
 rw [List.getElem?_map,List.getElem?_range h];rfl
def posR (rs:List RV):Prop:=∀r,r∈rs→r.neg=[]
theorem posR_next {rs:List RV} (h:posR rs) (F:List FcV):nextF rs F F=nextF rs F []:=by
 unfold nextF
 congr 2
 refine List.filter_congr fun r hr=>?_
 unfold RV.fires
 rw [h r hr];rfl
theorem stages_fn (rs:List RV) (hr:rs.length≤2000000) (hp:posR rs):Gives Tryz.prog 35 [.sl (rs.map rvE)] (.d (.sl (stgD rs (top rs+1)))):=by
 have hmx:maxLen=9223372036854775807:=rfl
 obtain ⟨t1,t2,t3⟩:=top_spec rs
 obtain ⟨RES,hRES⟩:∃RES,stgD rs (top rs+1)=RES:=⟨_,rfl⟩
 rw [hRES]
 refine aE_ Tryz.func35 ?_
 refine run_sound Tryz.func35 mixed 3 _ _ (by kernel_rfl) ?_
 simp only [go_sem,seval,run.eq_1]
 refine AWregL0 ?_
 simp only [go_sem,seval]
 repeat' (first
  | ((refine all_intro (fun Bz=>?_))<;>(try simp only [go_sem,seval]))
  | fail)
 refine AW.treeB 0 rfl (by simp [D.flat]) ?_
 refine AWbufG 0 rfl ?_
 refine rS_ Tryz.func35 ?_
 simp only [go_sem,seval]
 refine AW.lp [0] (fun k:Nat=>[(3,.own 0 k)]) (fun _ k=>[.grow k 1 30 (stgD rs (k+1))]) (fun k=>k≤top rs) (fun k=>top rs - k) 0 (Nat.zero_le _) (by refine ⟨by simp [mkS,stgD_1],by simp [mkS,stgD_1],by simp only [mkS,e_,h_,O.refsLt,C.refsLt,C.refsLt1,all_dmap];first | done | rfl | (simp;done),?_⟩;simp [mkS,Abs.get,C.refsLtT,C.refsLt,C.refsLt1]) ?_
 intro k hk hnk
 have w1:IntKind.i64.wrap ((k:Int)+1 - 1)=(k:Int):=by rw [j6 (by omega) (by omega)];omega
 have n1:(k:Int)<(k:Int)+1:=by omega
 have hat:=stgD_at rs (i:=k) (m:=k+1) (by omega)
 have hl1:=stg_len rs k
 have hl2:=stg_len rs (k+1)
 have hc:=consequences_fn rs (stg rs k) (stg_asc rs k) (by omega) hr
 rw [posR_next hp,show nextF rs (stg rs k) []=stg rs (k+1) from rfl] at hc
 have hsf:=sameFacts_fn (stg rs (k+1)) (stg rs k) (by omega) (by omega)
 by_cases hs:stg rs (k+1)=stg rs k
 ·rw [decide_eq_true hs] at hsf
  have hkt:k=top rs:=top_eq hs (fun j hj=>t3 j (by omega))
  rw [←hkt] at hRES
  rw [←hRES]
  refine rS_ Tryz.func35 ?_
  simp only [go_sem,seval,w1,n1,j5 hat]
  repeat' (first
   | ((first
    | (refine hc.calls rfl ?_)
    | (refine hsf.calls rfl ?_))<;>(try simp only [go_sem,seval,w1,n1,j5 hat]))
   | fail)
 ·rw [decide_eq_false hs] at hsf
  have hkt:k<top rs:=by
   rcases Nat.lt_or_ge k (top rs) with h | h
   ·exact h
   ·rw [show k=top rs by omega] at hs;exact absurd t2 hs
  refine rS_ Tryz.func35 ?_
  simp only [go_sem,seval,w1,n1,j5 hat]
  repeat' (first
   | ((first
    | (refine hc.calls rfl ?_)
    | (refine hsf.calls rfl ?_)
    | (refine ⟨sd,?_⟩))<;>(try simp only [go_sem,seval,w1,n1,j5 hat]))
   | fail)
  refine hnk (k+1) _ (by omega) (by omega) (by refine ⟨by simp [mkS,stgD_s],by simp [mkS,stgD_s],by simp only [mkS,e_,h_,O.refsLt,C.refsLt,C.refsLt1,all_dmap];first | done | rfl | (simp;done),?_⟩;simp [mkS,Abs.get,C.refsLtT,C.refsLt,C.refsLt1])
end Go.Proofs.YtlajhmoomlgopaaGreat
