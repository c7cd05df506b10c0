import Derived.Test.YtockpdkdnlkkfaaGreatW108
import Derived.Test.YtockpdkdnlkkfaaGreatW8
import Derived.Test.YtockpdkdnlkkfaaGreatW9
import Derived.Test.YtockpdkdnlkkfaaGreatW10
import Derived.Test.YtockpdkdnlkkfaaGreatP3
import Derived.Test.YtockpdkdnlkkfaaGreatFam
namespace Go.Proofs.YtockpdkdnlkkfaaGreat
open Go.Abs
set_option maxRecDepth 100000
set_option maxHeartbeats 8000000
set_option linter.unusedSimpArgs false
set_option linter.unusedVariables false
theorem consequences_fn (rs:List RV) (F:List FcV) (hF:ascC FcV.cmp F) (hl:F.length≤9000000) (hr:rs.length≤2000000):Gives Tryz.prog 59 [.sl (rs.map rvE),.sl (F.map fcE)] (.d (.sl ((nextF rs F F).map fcE))):=by
 have hmx:maxLen=9223372036854775807:=rfl
 have hhf:∀f:FcV,Gives Tryz.prog 40 [.sl (F.map fcE),.agg [.str f.1,.sl (f.2.map V.enc)]] (.d (.bool (decide (f∈F)))):=fun f=>by
  have h:=hasFact_fn F f hl hF
  rw [fcE_eq] at h;exact h
 obtain ⟨RES,hRES⟩:∃RES,nextF rs F F=RES:=⟨_,rfl⟩
 rw [hRES]
 refine ACalls.enter (fn:=Tryz.f59) Tryz.func59 rfl (by show 2≤_;decide) ?_
 refine run_sound Tryz.func59 mixed 200 _ _ (by kernel_rfl) ?_
 simp only [go_sem,seval]
 refine AW.adopt 5 2 48 (by decide) rfl ?_
 refine AW.rng rs [1,14,15] 16 14 (fun L:List FcV=>[(5,.own 0 L.length)]) (fun _ L=>[.grow L.length 2 48 (L.map fcE)]) (fun r L=>∃d,rs=d++r∧L=(d.filter (RV.fires F F)).map RV.head) [] rfl (by simp) ⟨[],rfl,rfl⟩ (by refine ⟨by simp [mkS],by simp [mkS],by simp only [mkS,List.all_cons,List.all_nil,O.refsLt,C.refsLt,C.refsLt1,all_dmap];first | done | rfl | (simp;done),?_⟩;simp [mkS,Abs.get,C.refsLtT,C.refsLt,C.refsLt1]) (fun i x r L hxi hdr hlt hm hinv hnext=>?_) (fun L hinv=>?_)
 ·obtain ⟨d,d1,d2⟩:=hinv
  have hLl:L.length≤2000000:=by
   rw [d2,List.length_map]
   have h1:=List.length_filter_le (RV.fires F F) d
   have h2:=congrArg List.length d1
   simp at h2;omega
  have hfi:x.fires F F=(x.pos.all (fun f=>decide (f∈F)) && x.neg.all (fun f=>!decide (f∈F))):=by
   unfold RV.fires;simp
  have hnext:=fun (L':List FcV) s' (h:L'=L++(if x.fires F F=true then [x.head] else []))=>hnext L' s' ⟨d++[x],by rw [d1];simp,by rw [h,d2,List.filter_append,List.map_append];congr 1;cases hq:x.fires F F<;>simp [hq]⟩
  clear d1 d2
  refine run_sound Tryz.func59 mixed 200 _ _ (by kernel_rfl) ?_
  simp only [go_sem,seval,hlt,idx_of hxi,rvE_eq]
  refine AW.rng x.pos [1,5,7,14,15,16,21,22] 23 21 (fun b:Bool=>[(8,.d (.bool b))]) (fun _ b=>[.grow L.length 2 48 (L.map fcE),.box [.d (.str x.head.1),.d (.sl (x.head.2.map V.enc)),.d (.int .i64 x.clause),.d (.sl (x.values.map V.enc)),.d (.sl (x.pos.map fcE)),.d (.sl (x.neg.map fcE))]]) (fun r b=>∃d,x.pos=d++r∧b=d.all (fun f=>decide (f∈F))) true rfl (by simp) ⟨[],rfl,rfl⟩ (by refine ⟨by simp [mkS],by simp [mkS],by simp only [mkS,List.all_cons,List.all_nil,O.refsLt,C.refsLt,C.refsLt1,all_dmap];first | done | rfl | (simp;done),?_⟩;simp [mkS,Abs.get,C.refsLtT,C.refsLt,C.refsLt1]) (fun j f r1 b hfj hdj hltj hmj hinv hnj=>?_) (fun b hinv=>?_)
  ·obtain ⟨d,d1,d2⟩:=hinv
   have hh:=hhf f
   have hnj:=fun (b':Bool) s' (h:b'=(b && decide (f∈F)))=>hnj b' s' ⟨d++[f],by rw [d1];simp,by rw [h,d2,List.all_append];simp⟩
   clear d1 d2
   generalize decide (f∈F)=q at *
   cases b<;>· (
    refine run_sound Tryz.func59 mixed 200 _ _ (by kernel_rfl) ?_
    simp only [go_sem,seval,hltj,idx_of hfj,fcE_eq]
    repeat' (first
     | (simp (disch:=omega) only [wrap_ok])
     | ((refine hh.calls rfl ?_)<;>(try simp only [go_sem,seval,hltj,idx_of hfj,fcE_eq]))
     | fail)
    refine hnj _ _ rfl (by refine ⟨by simp [mkS],by simp [mkS],by simp only [mkS,List.all_cons,List.all_nil,O.refsLt,C.refsLt,C.refsLt1,all_dmap];first | done | rfl | (simp;done),?_⟩;simp [mkS,Abs.get,C.refsLtT,C.refsLt,C.refsLt1]))
  obtain ⟨d,d1,d2⟩:=hinv
  rw [List.append_nil] at d1
  subst d1
  refine run_sound Tryz.func59 mixed 200 _ _ (by kernel_rfl) ?_
  simp only [go_sem,seval]
  refine AW.rng x.neg [1,5,7,14,15,16,35,36] 37 35 (fun b:Bool=>[(8,.d (.bool b))]) (fun _ b=>[.grow L.length 2 48 (L.map fcE),.box [.d (.str x.head.1),.d (.sl (x.head.2.map V.enc)),.d (.int .i64 x.clause),.d (.sl (x.values.map V.enc)),.d (.sl (x.pos.map fcE)),.d (.sl (x.neg.map fcE))]]) (fun r b=>∃d,x.neg=d++r∧b=(x.pos.all (fun f=>decide (f∈F)) && d.all (fun f=>!decide (f∈F)))) b rfl (by simp) ⟨[],rfl,by rw [d2];simp⟩ (by refine ⟨by simp [mkS],by simp [mkS],by simp only [mkS,List.all_cons,List.all_nil,O.refsLt,C.refsLt,C.refsLt1,all_dmap];first | done | rfl | (simp;done),?_⟩;simp [mkS,Abs.get,C.refsLtT,C.refsLt,C.refsLt1]) (fun j f r1 b hfj hdj hltj hmj hinv hnj=>?_) (fun b hinv=>?_)
  ·obtain ⟨d,d1,d3⟩:=hinv
   have hh:=hhf f
   have hnj:=fun (b':Bool) s' (h:b'=(b && !decide (f∈F)))=>hnj b' s' ⟨d++[f],by rw [d1];simp,by rw [h,d3,List.all_append,Bool.and_assoc];simp⟩
   clear d1 d3 d2
   generalize decide (f∈F)=q at *
   cases b<;>· (
    refine run_sound Tryz.func59 mixed 200 _ _ (by kernel_rfl) ?_
    simp only [go_sem,seval,hltj,idx_of hfj,fcE_eq]
    repeat' (first
     | (simp (disch:=omega) only [wrap_ok])
     | ((refine hh.calls rfl ?_)<;>(try simp only [go_sem,seval,hltj,idx_of hfj,fcE_eq]))
     | fail)
    refine hnj _ _ rfl (by refine ⟨by simp [mkS],by simp [mkS],by simp only [mkS,List.all_cons,List.all_nil,O.refsLt,C.refsLt,C.refsLt1,all_dmap];first | done | rfl | (simp;done),?_⟩;simp [mkS,Abs.get,C.refsLtT,C.refsLt,C.refsLt1]))
  obtain ⟨d,d1,d3⟩:=hinv
  rw [List.append_nil] at d1
  subst d1
  rw [←hfi] at d3
  clear hfi d2
  cases b with
  | false =>
   refine run_sound Tryz.func59 mixed 200 _ _ (by kernel_rfl) ?_
   simp only [go_sem,seval]
   repeat' (first
    | (simp (disch:=omega) only [wrap_ok])
    | fail)
   refine hnext L _ (by rw [←d3];simp) (by refine ⟨by simp [mkS],by simp [mkS],by simp only [mkS,List.all_cons,List.all_nil,O.refsLt,C.refsLt,C.refsLt1,all_dmap];first | done | rfl | (simp;done),?_⟩;simp [mkS,Abs.get,C.refsLtT,C.refsLt,C.refsLt1])
  | true =>
   have hFe:=fcE_eq x.head
   refine run_sound Tryz.func59 mixed 200 _ _ (by kernel_rfl) ?_
   simp only [go_sem,seval]
   repeat' (first
    | (simp (disch:=omega) only [wrap_ok])
    | ((refine ⟨sd,?_⟩)<;>(try simp only [go_sem,seval]))
    | fail)
   refine hnext (L++[x.head]) _ (by rw [←d3];simp) (by refine ⟨by simp [mkS,hFe],by simp [mkS,hFe],by simp only [mkS,List.all_cons,List.all_nil,O.refsLt,C.refsLt,C.refsLt1,all_dmap];first | done | rfl | (simp;done),?_⟩;simp [mkS,Abs.get,C.refsLtT,C.refsLt,C.refsLt1,hFe])
 ·obtain ⟨d,d1,d2⟩:=hinv
  rw [List.append_nil] at d1
  subst d1
  have hLl:L.length≤2000000:=by
   rw [d2,List.length_map]
   exact Nat.le_trans (List.length_filter_le _ _) hr
  have hs:=sortFacts_fn L hLl
  rw [show sortC FcV.cmp L=RES from by rw [←hRES,d2];rfl] at hs
  refine AW.readG 5 0 rfl rfl ?_
  refine run_sound Tryz.func59 mixed 200 _ _ (by kernel_rfl) ?_
  simp only [go_sem,seval]
  repeat' (first
   | ((refine hs.calls rfl ?_)<;>(try simp only [go_sem,seval]))
   | fail)
theorem sameFacts_fn (a b:List FcV) (ha:a.length≤9000000) (hb:b.length≤9000000):Gives Tryz.prog 79 [.sl (a.map fcE),.sl (b.map fcE)] (.d (.bool (decide (a=b)))):=by
 have hmx:maxLen=9223372036854775807:=rfl
 have hmap:∀x:List FcV,(x.map fcE).length=x.length:=fun x=>List.length_map _
 by_cases hlen:a.length=b.length
 ·obtain ⟨RES,hRES⟩:∃RES,decide (a=b)=RES:=⟨_,rfl⟩
  rw [hRES]
  have n1:(a.length:Int)=(b.length:Int):=by omega
  refine ACalls.enter (fn:=Tryz.f79) Tryz.func79 rfl (by show 2≤_;decide) ?_
  refine run_sound Tryz.func79 mixed 200 _ _ (by kernel_rfl) ?_
  simp only [go_sem,seval,hmap,n1]
  refine AW.lp [0,1,12] (fun i:Nat=>[(13,.d (.int .i64 (i:Int)))]) (fun H _=>H) (fun i=>i≤a.length∧a.take i=b.take i) (fun i=>a.length - i) 0 ⟨Nat.zero_le _,rfl⟩ (by refine ⟨by simp [mkS],by simp [mkS],by simp only [mkS,List.all_cons,List.all_nil,O.refsLt,C.refsLt,C.refsLt1,all_dmap];first | done | rfl | (simp;done),?_⟩;simp [mkS,Abs.get,C.refsLtT,C.refsLt,C.refsLt1]) ?_
  intro i hi hni
  obtain ⟨h1,h2⟩:=hi
  by_cases hia:i<a.length
  ·have n2:(i:Int)<(b.length:Int):=by omega
   have n3:(i:Int)<(a.length:Int):=by omega
   obtain ⟨x,hx⟩:∃x,a[i]? = some x:=⟨_,List.getElem?_eq_getElem hia⟩
   obtain ⟨y,hy⟩:∃y,b[i]? = some y:=⟨_,List.getElem?_eq_getElem (hlen ▸ hia)⟩
   have ho:=orderF_fn x y
   have w1:IntKind.i64.wrap ((i:Int)+1)=((i+1:Nat):Int):=by rw [wrap_ok (by omega) (by omega)];omega
   by_cases hxy:x.cmp y=0
   ·have he:=(FcV.cmp_lin.zero _ _).1 hxy
    rw [hxy] at ho
    refine run_sound Tryz.func79 mixed 10 _ _ (by kernel_rfl) ?_
    simp only [go_sem,seval,run.eq_1,n2,n3,hmap]
    refine AW.drawA mixed #[true,true,true,true,true,true,true,true,true,false] [] [] [0,1,2,3,4,5,6,7,8] [9] none (by kernel_rfl) trivial (by simp [holdsB]) ?_
    simp only [go_sem,seval,hmap,n2,n3,idx_of hx,idx_of hy]
    repeat' (first
     | ((refine ho.calls rfl ?_)<;>(try simp only [go_sem,seval,w1]))
     | fail)
    refine run_sound Tryz.func79 mixed 200 _ _ (by kernel_rfl) ?_
    simp only [go_sem,seval]
    repeat' (first
     | (simp (disch:=omega) only [wrap_ok])
     | fail)
    refine hni (i+1) _ ⟨by omega,by rw [List.take_add_one,List.take_add_one,h2,hx,hy,he]⟩ (by omega) (by refine ⟨by simp [mkS],by simp [mkS],by simp only [mkS,List.all_cons,List.all_nil,O.refsLt,C.refsLt,C.refsLt1,all_dmap];first | done | rfl | (simp;done),?_⟩;simp [mkS,Abs.get,C.refsLtT,C.refsLt,C.refsLt1])
   ·have he:a≠b:=fun e=>hxy (by rw [e,hy] at hx;cases hx;exact (FcV.cmp_lin.zero _ _).2 rfl)
    rw [decide_eq_false he] at hRES
    subst hRES
    refine run_sound Tryz.func79 mixed 10 _ _ (by kernel_rfl) ?_
    simp only [go_sem,seval,run.eq_1,n2,n3,hmap]
    refine AW.drawA mixed #[true,true,true,true,true,true,true,true,true,false] [] [] [0,1,2,3,4,5,6,7,8] [9] none (by kernel_rfl) trivial (by simp [holdsB]) ?_
    simp only [go_sem,seval,hmap,n2,n3,idx_of hx,idx_of hy]
    repeat' (first
     | ((refine ho.calls rfl ?_)<;>(try simp only [go_sem,seval,w1,hxy]))
     | fail)
    refine run_sound Tryz.func79 mixed 200 _ _ (by kernel_rfl) ?_
    simp only [go_sem,seval,hxy]
    repeat' (first
     | ((refine br_n (fun hq=>?_) (fun hq=>?_))<;>(try simp only [go_sem,seval,w1,hxy,hq]))
     | fail)
    all_goals exact absurd (by assumption) hxy
  ·have n2:¬(i:Int)<(b.length:Int):=by omega
   have n3:¬(i:Int)<(a.length:Int):=by omega
   have he:a=b:=by rw [List.take_of_length_le (by omega),List.take_of_length_le (by omega)] at h2;exact h2
   rw [decide_eq_true he] at hRES
   subst hRES
   refine run_sound Tryz.func79 mixed 200 _ _ (by kernel_rfl) ?_
   simp only [go_sem,seval,n2,n3]
 ·have n1:¬(a.length:Int)=(b.length:Int):=by omega
  rw [decide_eq_false (fun e=>hlen (by rw [e]))]
  refine ACalls.enter (fn:=Tryz.f79) Tryz.func79 rfl (by show 2≤_;decide) ?_
  refine run_sound Tryz.func79 mixed 200 _ _ (by kernel_rfl) ?_
  simp only [go_sem,seval,hmap,n1]
  repeat' (first
   | ((refine br_n (fun hq=>?_) (fun hq=>?_))<;>(try simp only [go_sem,seval,hmap,n1,hq]))
   | fail)
  all_goals (exfalso;omega)
def vcOpL0 (P:Program) (s:St) (o:Oper) (K:C→List O→Prop):Prop:=
 match o.op with
 | .buildSlice _ 0 _=>vcOpT P s o K
 | _=>vcOpL P s o K
theorem vcOpL0_sound {P:Program} {s:St} {o:Oper} {K:C→List O→Prop} (h:vcOpL0 P s o K):EffOk P s o K:=by
 unfold vcOpL0 at h
 split at h
 ·exact vcOpT_sound h
 ·exact vcOpL_sound h
def vcRL0 (P:Program) (n:Nat) (K:St→Prop):List Oper→St→Prop
 | [],⟨σ,H⟩=>K ⟨σ,H⟩
 | o :: rest,⟨σ,H⟩=>okDst n o=true∧o.guard=none∧vcOpL0 P ⟨σ,H⟩ o (kR (vcRL0 P n K rest) ⟨σ,H⟩ o.dst)
theorem vcRL0_sound {P:Program} {n:Nat} {K:St→Prop} {ops:Array Oper} {E0:Env}:∀(os:List Oper) (l:List Nat) (s:St) (E:Env) (a:Act),l.map (ops[·]?)=os.map some→RepSt E n s a→Le E0 E→vcRL0 P n K os s →
  wpOps P ops (Behind n E0 K) l a E.w
 | [],l,s,E,a,hl,hst,hle,h=>by
  have:l=[]:=by simpa using hl
  subst this
  exact ⟨rfl,E,s,rfl,hst,hle,h⟩
 | o :: os,l,s,E,a,hl,hst,hle,h=>by
  cases l with
  | nil=>simp at hl
  | cons i l =>
   simp only [List.map_cons,List.cons.injEq] at hl
   obtain ⟨ho,hl⟩:=hl
   unfold vcRL0 at h
   obtain ⟨hd,hg,h⟩:=h
   have hdst:∀d,o.dst=some d→d<n:=fun d hd'=>by
    unfold okDst at hd
    rw [hd'] at hd
    simpa using hd
   rw [Go.wpOps_cons]
   refine wpOp_of (n:=n) ho hg ((vcOpL0_sound h).run hst (fun v E' c H' h1 h2 h3 h4=>?_))
   exact vcRL0_sound os l _ E' _ hl (hst.put h3 h2 hdst h1) (hle.trans h3) h4
theorem AWregL0 {P:Program} {n:Nat} {f:FuncId} {n0:Nat} {R:C→List O→Prop} {id:Nat} {ops:Array Oper} {k:List Item} {s:St} (h:vcRL0 P n (AW P f n n0 R k) ops.toList s):AW P f n n0 R (.code (.region id ops false) :: k) s:=by
 refine AW.of_behind (k':=k) fun _ E a b cs hst=>?_
 have hw:=vcRL0_sound (ops:=ops) ops.toList (List.range ops.size) s E a (by
  apply List.ext_getElem?
  intro j
  simp only [List.getElem?_map]
  by_cases hj:j<ops.size
  ·rw [List.getElem?_range hj]
   simp [hj]
  ·rw [List.getElem?_eq_none (by simpa using hj),List.getElem?_eq_none (by simpa using hj)]
   rfl) hst (Le.refl E) h
 obtain ⟨e,a',w',⟨rfl,E',s',rfl,h1,h2,h3⟩,harr⟩:=wp_region (id:=id) hw b k cs
 exact ⟨a',E',s',harr,h1,h2,h3⟩
attribute [go_sem] vcOpL0.eq_def vcRL0.eq_1 vcRL0.eq_2
theorem AWbufG {P:Program} {f:FuncId} {n n0:Nat} {R:C→List O→Prop} {k:List Item} {s:St} (r:Nat) {q z e:Nat} {xs:List (List D)} (hr:s.H[r]? = some (.buf q z e xs))
  (h:AW P f n n0 R k ⟨s.σ,s.H.set r (.grow q z e xs)⟩):AW P f n n0 R k s:=by
 refine AW.recast (s':=⟨s.σ,s.H.set r (.grow q z e xs)⟩) (fun h0 E a hst=>?_)
 obtain ⟨h1,h2,h3,h4⟩:=hst.heap.obj r _ hr
 have hrl:=(List.getElem?_eq_some_iff.1 hr).1
 rcases h4 with ⟨ad,h5,rfl⟩ | ⟨b0,cap,arr,h5,h6,h7,h8,h9,h10,h11,h12⟩
 ·refine ⟨E,rfl,Le.refl E,⟨hst.size,hst.defers,?_,hst.slot⟩,h⟩
  refine hst.heap.turn (r0:=r) (o0:=.grow q z e []) (Le.refl E) (by simp [hst.heap.N]) (fun r' hr'=>?_) (fun o' ho'=>?_) (fun _ _ _=>rfl) (fun r' o' b hr' ho' hb=>⟨rfl,fun i hs=>hs⟩) (fun _ hb=>hb) (fun b i hs=>hst.heap.Slt b i hs) ⟨h1,h2,h3,.inl ⟨ad,h5,rfl⟩⟩ (fun b hb=>by have hb':ownB (E.τ r).2=some b:=hb;rw [h5] at hb';cases ad<;>simp [ownB] at hb')
  ·rw [List.getElem?_set_ne (fun e=>hr' e.symm)]
  ·rw [List.getElem?_set_self hrl] at ho'
   exact (Option.some.inj ho').symm
 ·have hx:=List.length_pos_iff.2 h7
  have hblk:(O.buf q z e xs).block E r b0:=by simp [O.block,h5,ownB];omega
  have hpv:=hst.heap.pv r _ _ hr hblk
  have hlb:=hst.heap.lt r _ _ hr hblk
  let E1:Env:={ E with S:=fun b i=>E.S b i∨(b=b0∧i<xs.length * z) }
  have hl:Le E E1:=by
   refine ⟨rfl,rfl,rfl,Nat.le_refl _,Nat.le_refl _,fun _ _=>rfl,fun _ _=>⟨Nat.le_refl _,fun _=>rfl⟩,fun _ _ hs=>.inl hs,fun _ _ _=>rfl,fun _ _ _=>rfl,fun b i hs=>?_,fun _ hp=>.inl hp,fun _ _ _ _ _ hh=>hh⟩
   rcases hs with hs | ⟨rfl,_⟩
   ·exact .inl hs
   ·exact .inr (.inr hpv)
  refine ⟨E1,rfl,hl,⟨hst.size,hst.defers,?_,fun t=>(hst.slot t).le hl⟩,h⟩
  refine hst.heap.turn (r0:=r) (o0:=.grow q z e xs) hl (by simp [E1,hst.heap.N]) (fun r' hr'=>?_) (fun o' ho'=>?_) (fun _ _ _=>rfl) (fun r' o' b hr' ho' hb=>⟨rfl,fun i hs=>?_⟩) (fun _ hb=>hb) (fun b i hs=>?_) ⟨h1,h2,h3,.inr ⟨b0,cap,arr,h5,h6,by omega,h8,h9,h10,fun i j x c hi hj=>?_,fun i hi hS=>?_⟩⟩ (fun b hb=>⟨?_,?_,?_⟩)
  ·rw [List.getElem?_set_ne (fun e=>hr' e.symm)]
  ·rw [List.getElem?_set_self hrl] at ho'
   exact (Option.some.inj ho').symm
  ·rcases hs with hs | ⟨rfl,_⟩
   ·exact hs
   ·exact absurd (hst.heap.apart r' r o' _ _ ho' hr hb hblk) hr'
  ·rcases hs with hs | ⟨rfl,_⟩
   ·exact hst.heap.Slt b i hs
   ·exact hlb
  ·obtain ⟨v,k2,k3,k4⟩:=h11 i j x c hi hj
   have hil:i<xs.length:=(List.getElem?_eq_some_iff.1 hi).1
   have hjl:j<z:=by rw [←h2 x (List.mem_of_getElem? hi)];exact (List.getElem?_eq_some_iff.1 hj).1
   have hm:(i+1) * z≤xs.length * z:=Nat.mul_le_mul_right z (by omega)
   rw [Nat.add_mul] at hm
   exact ⟨.inr ⟨rfl,by omega⟩,v,k2,k3,k4.le hl⟩
  ·rcases hS with hS | ⟨_,hlt⟩
   ·exact h12 i hS
   ·omega
  ·have hb':(O.buf q z e xs).block E r b:=hb
   exact hst.heap.pv r _ _ hr hb'
  ·have hb':(O.buf q z e xs).block E r b:=hb
   exact hst.heap.lt r _ _ hr hb'
  ·have hb':(O.buf q z e xs).block E r b:=hb
   exact fun r' o' hr' ho' hb2=>hr' (hst.heap.apart r' r o' _ b ho' hr hb2 hb')
def stgD (rs:List RV) (m:Nat):List (List D):=(List.range m).map fun i=>[.sl ((stg rs i).map fcE)]
theorem stgD_s (rs:List RV) (m:Nat):stgD rs (m+1)=stgD rs m++[[.sl ((stg rs m).map fcE)]]:=by simp [stgD,List.range_succ]
theorem stgD_1 (rs:List RV):stgD rs 1=[[.sl []]]:=rfl
@[go_sem] theorem stgD_len (rs:List RV) (m:Nat):(stgD rs m).length=m:=by simp [stgD]
theorem stgD_at (rs:List RV) {i m:Nat} (h:i<m):(stgD rs m)[i]? = some [.sl ((stg rs i).map fcE)]:=by
 unfold stgD
 rw [List.getElem?_map,List.getElem?_range h];rfl
def posR (rs:List RV):Prop:=∀r,r∈rs→r.neg=[]
theorem posR_next {rs:List RV} (h:posR rs) (F:List FcV):nextF rs F F=nextF rs F []:=by
 unfold nextF
 congr 2
 refine List.filter_congr fun r hr=>?_
 unfold RV.fires
 rw [h r hr];rfl
theorem stages_fn (rs:List RV) (hr:rs.length≤2000000) (hp:posR rs):Gives Tryz.prog 49 [.sl (rs.map rvE)] (.d (.sl (stgD rs (top rs+1)))):=by
 have hmx:maxLen=9223372036854775807:=rfl
 obtain ⟨t1,t2,t3⟩:=top_spec rs
 obtain ⟨RES,hRES⟩:∃RES,stgD rs (top rs+1)=RES:=⟨_,rfl⟩
 rw [hRES]
 refine ACalls.enter (fn:=Tryz.f49) Tryz.func49 rfl (by show 1≤_;decide) ?_
 refine run_sound Tryz.func49 mixed 3 _ _ (by kernel_rfl) ?_
 simp only [go_sem,seval,run.eq_1]
 refine AWregL0 ?_
 simp only [go_sem,seval]
 repeat' (first
  | ((refine all_intro (fun Bz=>?_))<;>(try simp only [go_sem,seval]))
  | fail)
 refine AW.treeB 0 rfl (by simp [D.flat]) ?_
 refine AWbufG 0 rfl ?_
 refine run_sound Tryz.func49 mixed 200 _ _ (by kernel_rfl) ?_
 simp only [go_sem,seval]
 refine AW.lp [0] (fun k:Nat=>[(3,.own 0 k)]) (fun _ k=>[.grow k 1 37 (stgD rs (k+1))]) (fun k=>k≤top rs) (fun k=>top rs - k) 0 (Nat.zero_le _) (by refine ⟨by simp [mkS,stgD_1],by simp [mkS,stgD_1],by simp only [mkS,List.all_cons,List.all_nil,O.refsLt,C.refsLt,C.refsLt1,all_dmap];first | done | rfl | (simp;done),?_⟩;simp [mkS,Abs.get,C.refsLtT,C.refsLt,C.refsLt1]) ?_
 intro k hk hnk
 have w1:IntKind.i64.wrap ((k:Int)+1 - 1)=(k:Int):=by rw [wrap_ok (by omega) (by omega)];omega
 have n1:(k:Int)<(k:Int)+1:=by omega
 have hat:=stgD_at rs (i:=k) (m:=k+1) (by omega)
 have hl1:=stg_len rs k
 have hl2:=stg_len rs (k+1)
 have hc:=consequences_fn rs (stg rs k) (stg_asc rs k) (by omega) hr
 rw [posR_next hp,show nextF rs (stg rs k) []=stg rs (k+1) from rfl] at hc
 have hsf:=sameFacts_fn (stg rs (k+1)) (stg rs k) (by omega) (by omega)
 by_cases hs:stg rs (k+1)=stg rs k
 ·rw [decide_eq_true hs] at hsf
  have hkt:k=top rs:=top_eq hs (fun j hj=>t3 j (by omega))
  rw [←hkt] at hRES
  rw [←hRES]
  refine run_sound Tryz.func49 mixed 200 _ _ (by kernel_rfl) ?_
  simp only [go_sem,seval,w1,n1,idx_of hat]
  repeat' (first
   | ((first
    | (refine hc.calls rfl ?_)
    | (refine hsf.calls rfl ?_))<;>(try simp only [go_sem,seval,w1,n1,idx_of hat]))
   | fail)
 ·rw [decide_eq_false hs] at hsf
  have hkt:k<top rs:=by
   rcases Nat.lt_or_ge k (top rs) with h | h
   ·exact h
   ·rw [show k=top rs by omega] at hs;exact absurd t2 hs
  refine run_sound Tryz.func49 mixed 200 _ _ (by kernel_rfl) ?_
  simp only [go_sem,seval,w1,n1,idx_of hat]
  repeat' (first
   | ((first
    | (refine hc.calls rfl ?_)
    | (refine hsf.calls rfl ?_)
    | (refine ⟨sd,?_⟩))<;>(try simp only [go_sem,seval,w1,n1,idx_of hat]))
   | fail)
  refine hnk (k+1) _ (by omega) (by omega) (by refine ⟨by simp [mkS,stgD_s],by simp [mkS,stgD_s],by simp only [mkS,List.all_cons,List.all_nil,O.refsLt,C.refsLt,C.refsLt1,all_dmap];first | done | rfl | (simp;done),?_⟩;simp [mkS,Abs.get,C.refsLtT,C.refsLt,C.refsLt1])
theorem l18CmpV_fn (a b:FcV):Gives Tryz.prog 65 [.agg [.str a.1,.sl (a.2.map V.enc)],.agg [.str b.1,.sl (b.2.map V.enc)]] (.d (.int .i64 (a.cmp b))):=by
 have h:Gives Tryz.prog 65 [.agg (fcE a),.agg (fcE b)] (.d (.int .i64 (a.cmp b))):=l18Cmp_fn a.1 b.1 a.2 b.2
 rw [fcE_eq,fcE_eq] at h;exact h
theorem l18Has_fn (l:List FcV) (f:FcV) (hl:l.length≤9000000):Gives Tryz.prog 36 [.sl (l.map fcE),.agg (fcE f)] (.d (.bool (decide (f∈l)))):=by
 obtain ⟨K,hK⟩:∃K,decide (f∈l)=K:=⟨_,rfl⟩
 rw [hK,fcE_eq]
 refine ACalls.enter (fn:=Tryz.f36) Tryz.func36 rfl (by show 2≤_;decide) ?_
 refine run_sound Tryz.func36 mixed 200 _ _ (by kernel_rfl) ?_
 simp only [go_sem,seval]
 refine AW.rng l [3,7,8] 9 7 (fun _:Unit=>[]) (fun H _=>H) (fun r _=>decide (f∈r)=K) () rfl (by simp) hK (by refine ⟨by simp [mkS],by simp [mkS],by simp only [mkS,List.all_cons,List.all_nil,O.refsLt,C.refsLt,C.refsLt1,all_dmap];first | done | rfl | (simp;done),?_⟩;simp [mkS,Abs.get,C.refsLtT,C.refsLt,C.refsLt1]) (fun j y q b hyj hdr2 hlt2 hm2 hinv2 hnext2=>?_) (fun b hinv2=>?_)
 ·have he:=l18CmpV_fn y f
  by_cases hc:y.cmp f=0
  ·have hyf:=(FcV.cmp_lin.zero _ _).1 hc
   rw [hc] at he
   subst hyf
   simp only [List.mem_cons,true_or,decide_true] at hinv2
   rw [←hinv2]
   refine run_sound Tryz.func36 mixed 200 _ _ (by kernel_rfl) ?_
   simp only [go_sem,seval,hlt2,idx_of hyj,fcE_eq]
   repeat' (first
    | ((refine he.calls rfl ?_)<;>(try simp only [go_sem,seval,hlt2,idx_of hyj,fcE_eq]))
    | fail)
  ·have hyf:¬f=y:=fun e=>hc ((FcV.cmp_lin.zero _ _).2 e.symm)
   simp only [List.mem_cons,hyf,false_or] at hinv2
   refine run_sound Tryz.func36 mixed 200 _ _ (by kernel_rfl) ?_
   simp only [go_sem,seval,hlt2,idx_of hyj,fcE_eq,hc]
   repeat' (first
    | (simp (disch:=omega) only [wrap_ok])
    | (refine hnext2 () _ hinv2 (by refine ⟨by simp [mkS],by simp [mkS],by simp only [mkS,List.all_cons,List.all_nil,O.refsLt,C.refsLt,C.refsLt1,all_dmap];first | done | rfl | (simp;done),?_⟩;simp [mkS,Abs.get,C.refsLtT,C.refsLt,C.refsLt1]))
    | ((refine he.calls rfl ?_)<;>(try simp only [go_sem,seval,hlt2,idx_of hyj,fcE_eq,hc]))
    | fail)
   all_goals exact absurd (by assumption) hc
 ·simp only [List.not_mem_nil,decide_false] at hinv2
  rw [←hinv2]
  refine run_sound Tryz.func36 mixed 200 _ _ (by kernel_rfl) ?_
  simp only [go_sem,seval]
theorem l18Insert_fn (l:List FcV) (f:FcV) (ha:ascC FcV.cmp l) (hl:l.length≤1000000):Gives Tryz.prog 89 [.sl (l.map fcE),.agg (fcE f)] (.d (.sl ((insC FcV.cmp l f).map fcE))):=by
 have hmx:maxLen=9223372036854775807:=rfl
 have hmap:∀x:List FcV,(x.map fcE).length=x.length:=fun x=>List.length_map _
 obtain ⟨RES,hRES⟩:∃RES,insC FcV.cmp l f=RES:=⟨_,rfl⟩
 have hFe:=fcE_eq f
 rw [hRES,hFe]
 refine ACalls.enter (fn:=Tryz.f89) Tryz.func89 rfl (by show 2≤_;decide) ?_
 refine run_sound Tryz.func89 mixed 200 _ _ (by kernel_rfl) ?_
 simp only [go_sem,seval,hmap]
 refine AW.lp [0,3] (fun k:Nat=>[(5,.d (.int .i64 (k:Int)))]) (fun H _=>H) (fun k=>k≤l.length∧∀i y,k≤i→l[i]? = some y→¬y.cmp f<0) (fun k=>k) l.length ⟨Nat.le_refl _,fun i y hi hy=>by have:=(List.getElem?_eq_some_iff.1 hy).1;omega⟩ (by refine ⟨by simp [mkS],by simp [mkS],by simp only [mkS,List.all_cons,List.all_nil,O.refsLt,C.refsLt,C.refsLt1,all_dmap];first | done | rfl | (simp;done),?_⟩;simp [mkS,Abs.get,C.refsLtT,C.refsLt,C.refsLt1]) ?_
 intro k hk hnk
 obtain ⟨k1,k2⟩:=hk
 have stop:(∀i y,i<k→l[i]? = some y→y.cmp f<0)→insC FcV.cmp l f=if eqAt FcV.cmp l k f then l else l.take k++f :: l.drop k:=fun h=>insC_at FcV.cmp_lin l f k ha k1 h k2
 by_cases hkz:k=0
 ·have n1:¬(0:Int)<(k:Int):=by omega
  have hst:=stop (fun i y hi=>by omega)
  clear stop hnk
  rw [hRES] at hst
  have hks:(0:Int)≤(k:Int):=by omega
  cases hlk:l[k]? with
  | none =>
   have hkl:k=l.length:=by have:=List.getElem?_eq_none_iff.1 hlk;omega
   have m1:¬(k:Int)<(l.length:Int):=by omega
   have hq:eqAt FcV.cmp l k f=false:=by unfold eqAt;rw [hlk]
   rw [hq,if_neg (by simp)] at hst
   rw [hst]
   refine run_sound Tryz.func89 mixed 200 _ _ (by kernel_rfl) ?_
   simp only [go_sem,seval,n1,hmap,m1,hks]
   skip
   repeat' (first
    | ((refine ⟨sd,?_⟩)<;>(try simp only [go_sem,seval,n1,hmap,m1,hks]))
    | fail)
   all_goals simp [hFe,List.map_take,List.map_drop]
  | some z =>
   have m1:(k:Int)<(l.length:Int):=by have:=(List.getElem?_eq_some_iff.1 hlk).1;omega
   have hz:=l18CmpV_fn z f
   by_cases hzf:z.cmp f=0
   ·have hq:eqAt FcV.cmp l k f=true:=by unfold eqAt;rw [hlk];simp [hzf]
    rw [hq,if_pos rfl] at hst
    rw [hzf] at hz
    rw [hst]
    refine run_sound Tryz.func89 mixed 200 _ _ (by kernel_rfl) ?_
    simp only [go_sem,seval,n1,hmap,m1,hks,idx_of hlk,fcE_eq]
    skip
    repeat' (first
     | ((refine hz.callQ rfl ?_)<;>(try simp only [go_sem,seval,n1,hmap,m1,hks,idx_of hlk,fcE_eq]))
     | fail)
   ·have hq:eqAt FcV.cmp l k f=false:=by unfold eqAt;rw [hlk];simp [hzf]
    rw [hq,if_neg (by simp)] at hst
    rw [hst]
    refine run_sound Tryz.func89 mixed 200 _ _ (by kernel_rfl) ?_
    simp only [go_sem,seval,n1,hmap,m1,hks,idx_of hlk,fcE_eq,hzf]
    skip
    repeat' (first
     | ((first
      | (refine hz.callQ rfl ?_)
      | (refine ⟨sd,?_⟩))<;>(try simp only [go_sem,seval,n1,hmap,m1,hks,idx_of hlk,fcE_eq,hzf]))
     | fail)
    all_goals first | (exact absurd (by assumption) hzf) | skip
    all_goals simp [hFe,List.map_take,List.map_drop]
 ·obtain ⟨y,hy⟩:∃y,l[k - 1]? = some y:=⟨_,List.getElem?_eq_getElem (by omega)⟩
  have n1:(0:Int)<(k:Int):=by omega
  have w1:IntKind.i64.wrap ((k:Int) - 1)=((k - 1:Nat):Int):=by rw [wrap_ok (by omega) (by omega)];omega
  have n2:((k - 1:Nat):Int)<(l.length:Int):=by omega
  have he:=l18CmpV_fn y f
  by_cases hc:y.cmp f<0
  ·have hc':¬(0:Int)≤y.cmp f:=by omega
   have hst:=stop (fun i z hi hz=>by
    by_cases e:i=k - 1
    ·subst e;rw [hz] at hy;cases hy;exact hc
    ·exact FcV.cmp_lin.tr _ _ _ (ascC_at ha (show i<k - 1 by omega) hz hy) hc)
   clear stop hnk
   rw [hRES] at hst
   have hks:(0:Int)≤(k:Int):=by omega
   cases hlk:l[k]? with
   | none =>
    have hkl:k=l.length:=by have:=List.getElem?_eq_none_iff.1 hlk;omega
    have m1:¬(k:Int)<(l.length:Int):=by omega
    have hq:eqAt FcV.cmp l k f=false:=by unfold eqAt;rw [hlk]
    rw [hq,if_neg (by simp)] at hst
    rw [hst]
    refine run_sound Tryz.func89 mixed 200 _ _ (by kernel_rfl) ?_
    simp only [go_sem,seval,n1,w1,n2,idx_of hy,hmap,fcE_eq,hc,hc',m1,hks]
    repeat' (first
     | ((first
      | (refine he.callQ rfl ?_)
      | (refine ⟨sd,?_⟩))<;>(try simp only [go_sem,seval,n1,w1,n2,idx_of hy,hmap,fcE_eq,hc,hc',m1,hks]))
     | fail)
    all_goals simp [hFe,List.map_take,List.map_drop]
   | some z =>
    have m1:(k:Int)<(l.length:Int):=by have:=(List.getElem?_eq_some_iff.1 hlk).1;omega
    have hz:=l18CmpV_fn z f
    by_cases hzf:z.cmp f=0
    ·have hq:eqAt FcV.cmp l k f=true:=by unfold eqAt;rw [hlk];simp [hzf]
     rw [hq,if_pos rfl] at hst
     rw [hzf] at hz
     rw [hst]
     refine run_sound Tryz.func89 mixed 200 _ _ (by kernel_rfl) ?_
     simp only [go_sem,seval,n1,w1,n2,idx_of hy,hmap,fcE_eq,hc,hc',m1,hks,idx_of hlk,fcE_eq]
     repeat' (first
      | ((first
       | (refine he.callQ rfl ?_)
       | (refine hz.callQ rfl ?_))<;>(try simp only [go_sem,seval,n1,w1,n2,idx_of hy,hmap,fcE_eq,hc,hc',m1,hks,idx_of hlk,fcE_eq]))
      | fail)
    ·have hq:eqAt FcV.cmp l k f=false:=by unfold eqAt;rw [hlk];simp [hzf]
     rw [hq,if_neg (by simp)] at hst
     rw [hst]
     refine run_sound Tryz.func89 mixed 200 _ _ (by kernel_rfl) ?_
     simp only [go_sem,seval,n1,w1,n2,idx_of hy,hmap,fcE_eq,hc,hc',m1,hks,idx_of hlk,fcE_eq,hzf]
     repeat' (first
      | ((first
       | (refine he.callQ rfl ?_)
       | (refine hz.callQ rfl ?_)
       | (refine ⟨sd,?_⟩))<;>(try simp only [go_sem,seval,n1,w1,n2,idx_of hy,hmap,fcE_eq,hc,hc',m1,hks,idx_of hlk,fcE_eq,hzf]))
      | fail)
     all_goals first | (exact absurd (by assumption) hzf) | skip
     all_goals simp [hFe,List.map_take,List.map_drop]
  ·have hc':(0:Int)≤y.cmp f:=by omega
   refine run_sound Tryz.func89 mixed 200 _ _ (by kernel_rfl) ?_
   simp only [go_sem,seval,n1,w1,n2,idx_of hy,hmap,fcE_eq,hc,hc']
   repeat' (first
    | ((refine he.callQ rfl ?_)<;>(try simp only [go_sem,seval,n1,w1,n2,idx_of hy,hmap,fcE_eq,hc,hc']))
    | fail)
   refine hnk (k - 1) _ ⟨by omega,fun i z hi hz=>?_⟩ (by omega) (by refine ⟨by simp [mkS],by simp [mkS],by simp only [mkS,List.all_cons,List.all_nil,O.refsLt,C.refsLt,C.refsLt1,all_dmap];first | done | rfl | (simp;done),?_⟩;simp [mkS,Abs.get,C.refsLtT,C.refsLt,C.refsLt1])
   by_cases e:i=k - 1
   ·subst e;rw [hz] at hy;cases hy;exact hc
   ·exact k2 i z (by omega) hz
theorem l19Fires_fn (r:RV) (F G:List FcV) (hF:F.length≤9000000) (hG:G.length≤9000000):Gives Tryz.prog 88 [.agg (rvE r),.sl (F.map fcE),.sl (G.map fcE)] (.d (.bool (r.fires F G))):=by
 obtain ⟨K,hK⟩:∃K,r.fires F G=K:=⟨_,rfl⟩
 rw [hK,rvE_eq]
 unfold RV.fires at hK
 refine ACalls.enter (fn:=Tryz.f88) Tryz.func88 rfl (by show 3≤_;decide) ?_
 refine run_sound Tryz.func88 mixed 200 _ _ (by kernel_rfl) ?_
 simp only [go_sem,seval]
 refine AW.rng r.pos [1,2,3,12,13] 14 12 (fun _:Unit=>[]) (fun H _=>H) (fun q _=>((q.all fun f=>decide (f∈F)) && r.neg.all fun f=>!decide (f∈G))=K) () rfl (by simp) hK (by refine ⟨by simp [mkS],by simp [mkS],by simp only [mkS,List.all_cons,List.all_nil,O.refsLt,C.refsLt,C.refsLt1,all_dmap];first | done | rfl | (simp;done),?_⟩;simp [mkS,Abs.get,C.refsLtT,C.refsLt,C.refsLt1]) (fun j y q b hyj hdr2 hlt2 hm2 hinv2 hnext2=>?_) (fun b hinv2=>?_)
 ·have he:=l18Has_fn F y hF
  rw [fcE_eq] at he
  rw [List.all_cons] at hinv2
  generalize decide (y∈F)=b2 at he hinv2
  cases b2 with
  | true =>
   rw [Bool.true_and] at hinv2
   refine run_sound Tryz.func88 mixed 200 _ _ (by kernel_rfl) ?_
   simp only [go_sem,seval,hlt2,idx_of hyj,fcE_eq]
   repeat' (first
    | (simp (disch:=omega) only [wrap_ok])
    | (refine hnext2 () _ hinv2 (by refine ⟨by simp [mkS],by simp [mkS],by simp only [mkS,List.all_cons,List.all_nil,O.refsLt,C.refsLt,C.refsLt1,all_dmap];first | done | rfl | (simp;done),?_⟩;simp [mkS,Abs.get,C.refsLtT,C.refsLt,C.refsLt1]))
    | ((refine he.calls rfl ?_)<;>(try simp only [go_sem,seval,hlt2,idx_of hyj,fcE_eq]))
    | fail)
  | false =>
   simp only [Bool.false_and] at hinv2
   rw [←hinv2]
   refine run_sound Tryz.func88 mixed 200 _ _ (by kernel_rfl) ?_
   simp only [go_sem,seval,hlt2,idx_of hyj,fcE_eq]
   repeat' (first
    | ((refine he.calls rfl ?_)<;>(try simp only [go_sem,seval,hlt2,idx_of hyj,fcE_eq]))
    | fail)
 ·rw [List.all_nil,Bool.true_and] at hinv2
  refine run_sound Tryz.func88 mixed 200 _ _ (by kernel_rfl) ?_
  simp only [go_sem,seval]
  refine AW.rng r.neg [2,24,25] 26 24 (fun _:Unit=>[]) (fun H _=>H) (fun q _=>(q.all fun f=>!decide (f∈G))=K) () rfl (by simp) hinv2 (by refine ⟨by simp [mkS],by simp [mkS],by simp only [mkS,List.all_cons,List.all_nil,O.refsLt,C.refsLt,C.refsLt1,all_dmap];first | done | rfl | (simp;done),?_⟩;simp [mkS,Abs.get,C.refsLtT,C.refsLt,C.refsLt1]) (fun j y q b hyj hdr2 hlt2 hm2 hinv3 hnext2=>?_) (fun b hinv3=>?_)
  ·have he:=l18Has_fn G y hG
   rw [fcE_eq] at he
   rw [List.all_cons] at hinv3
   generalize decide (y∈G)=b2 at he hinv3
   cases b2 with
   | false =>
    rw [Bool.not_false,Bool.true_and] at hinv3
    refine run_sound Tryz.func88 mixed 200 _ _ (by kernel_rfl) ?_
    simp only [go_sem,seval,hlt2,idx_of hyj,fcE_eq]
    repeat' (first
     | (simp (disch:=omega) only [wrap_ok])
     | (refine hnext2 () _ hinv3 (by refine ⟨by simp [mkS],by simp [mkS],by simp only [mkS,List.all_cons,List.all_nil,O.refsLt,C.refsLt,C.refsLt1,all_dmap];first | done | rfl | (simp;done),?_⟩;simp [mkS,Abs.get,C.refsLtT,C.refsLt,C.refsLt1]))
     | ((refine he.calls rfl ?_)<;>(try simp only [go_sem,seval,hlt2,idx_of hyj,fcE_eq]))
     | fail)
   | true =>
    simp only [Bool.not_true,Bool.false_and] at hinv3
    rw [←hinv3]
    refine run_sound Tryz.func88 mixed 200 _ _ (by kernel_rfl) ?_
    simp only [go_sem,seval,hlt2,idx_of hyj,fcE_eq]
    repeat' (first
     | ((refine he.calls rfl ?_)<;>(try simp only [go_sem,seval,hlt2,idx_of hyj,fcE_eq]))
     | fail)
  ·rw [List.all_nil] at hinv3
   rw [←hinv3]
   refine run_sound Tryz.func88 mixed 200 _ _ (by kernel_rfl) ?_
   simp only [go_sem,seval]
theorem l19Next_fn (rs:List RV) (F G:List FcV) (hF:F.length≤9000000) (hG:G.length≤9000000) (hr:rs.length≤1000000):Gives Tryz.prog 53 [.sl (rs.map rvE),.sl (F.map fcE),.sl (G.map fcE)] (.d (.sl ((nextF rs F G).map fcE))):=by
 obtain ⟨RES,hRES⟩:∃RES,nextF rs F G=RES:=⟨_,rfl⟩
 rw [hRES]
 refine ACalls.enter (fn:=Tryz.f53) Tryz.func53 rfl (by show 3≤_;decide) ?_
 refine run_sound Tryz.func53 mixed 200 _ _ (by kernel_rfl) ?_
 simp only [go_sem,seval]
 refine AW.nilG 7 rfl ?_
 refine AW.rng rs [1,2,11,12] 13 11 (fun L:List FcV=>[(7,.d (.sl (L.map fcE)))]) (fun H _=>H) (fun r L=>∃d,rs=d++r∧L=sortC FcV.cmp ((d.filter (RV.fires F G)).map RV.head)) [] rfl (by simp) ⟨[],rfl,rfl⟩ (by refine ⟨by simp [mkS],by simp [mkS],by simp only [mkS,List.all_cons,List.all_nil,O.refsLt,C.refsLt,C.refsLt1,all_dmap];first | done | rfl | (simp;done),?_⟩;simp [mkS,Abs.get,C.refsLtT,C.refsLt,C.refsLt1]) (fun i x r L hxi hdr hlt hm hinv hnext=>?_) (fun L hinv=>?_)
 ·obtain ⟨d,d1,d2⟩:=hinv
  have hLl:L.length≤1000000:=by
   have h0:=sortC_len (c:=FcV.cmp) ((d.filter (RV.fires F G)).map RV.head)
   rw [←d2,List.length_map] at h0
   have h1:=List.length_filter_le (RV.fires F G) d
   have h2:=congrArg List.length d1
   simp at h2;omega
  have hLa:ascC FcV.cmp L:=by rw [d2];exact sortC_asc FcV.cmp_lin _
  have hfr:=l19Fires_fn x F G hF hG
  have hin:=l18Insert_fn L x.head hLa hLl
  rw [fcE_eq] at hin
  rw [rvE_eq] at hfr
  have hnext:=fun (L':List FcV) s' (h:L'=(if x.fires F G=true then insC FcV.cmp L x.head else L))=>hnext L' s' ⟨d++[x],by rw [d1];simp,by rw [h,d2,List.filter_append,List.map_append];unfold sortC;rw [List.foldl_append];cases hq:x.fires F G<;>simp [hq]⟩
  clear d1 d2
  generalize x.fires F G=b at *
  cases b with
  | true =>
   refine run_sound Tryz.func53 mixed 200 _ _ (by kernel_rfl) ?_
   simp only [go_sem,seval,hlt,idx_of hxi,rvE_eq]
   repeat' (first
    | (simp (disch:=omega) only [wrap_ok])
    | ((first
     | (refine hfr.calls rfl ?_)
     | (refine hin.calls rfl ?_))<;>(try simp only [go_sem,seval,hlt,idx_of hxi,rvE_eq]))
    | fail)
   refine hnext (insC FcV.cmp L x.head) _ rfl (by refine ⟨by simp [mkS],by simp [mkS],by simp only [mkS,List.all_cons,List.all_nil,O.refsLt,C.refsLt,C.refsLt1,all_dmap];first | done | rfl | (simp;done),?_⟩;simp [mkS,Abs.get,C.refsLtT,C.refsLt,C.refsLt1])
  | false =>
   refine run_sound Tryz.func53 mixed 200 _ _ (by kernel_rfl) ?_
   simp only [go_sem,seval,hlt,idx_of hxi,rvE_eq]
   repeat' (first
    | (simp (disch:=omega) only [wrap_ok])
    | ((refine hfr.calls rfl ?_)<;>(try simp only [go_sem,seval,hlt,idx_of hxi,rvE_eq]))
    | fail)
   refine hnext L _ rfl (by refine ⟨by simp [mkS],by simp [mkS],by simp only [mkS,List.all_cons,List.all_nil,O.refsLt,C.refsLt,C.refsLt1,all_dmap];first | done | rfl | (simp;done),?_⟩;simp [mkS,Abs.get,C.refsLtT,C.refsLt,C.refsLt1])
 ·obtain ⟨d,d1,d2⟩:=hinv
  rw [List.append_nil] at d1
  subst d1
  rw [show RES=L from by rw [←hRES,d2];rfl]
  refine run_sound Tryz.func53 mixed 200 _ _ (by kernel_rfl) ?_
  simp only [go_sem,seval]
theorem copyFact_T (rel:List UInt8) (vs:List V) (hl:vs.length≤100000000):ACalls Tryz.prog 102 [.d (.agg [.str rel,.sl (vs.map V.enc)])] [.hole] (fun c H'=>c=.agg [.d (.str rel),.own 0 1]∧∃e B,H'=[.tree 1 4 e (vs.map V.enc) B none]):=by
 have hct:=copyTerms_T vs hl
 unfold cpTs at hct
 refine ACalls.enter (fn:=Tryz.f102) Tryz.func102 rfl (by show 1≤_;decide) ?_
 refine run_sound Tryz.func102 mixed 3 _ _ (by kernel_rfl) ?_
 simp only [go_sem,seval,run.eq_1]
 refine AW.drawA mixed #[true,true,true,true,true,true,false] [(1,.box [.d (.str rel),.d (.sl (vs.map V.enc))])] [] [0,1,2,3,4,5] [6] none (by kernel_rfl) trivial (by simp [holdsB]) ?_
 simp only [go_sem,seval]
 repeat' (first
  | ((refine ACalls.fresh (ds:=[.sl (vs.map V.enc)]) (m:=1) hct [0] rfl rfl (by simp) (by simp) ?_<;>(rintro c H' ⟨rfl,e1,B1,rfl⟩ _;refine ⟨rfl,rfl,?_⟩))<;>(try simp only [go_sem,seval]))
  | fail)
 refine run_sound Tryz.func102 mixed 200 _ _ (by kernel_rfl) ?_
 simp only [go_sem,seval]
 repeat' (first
  | (exact ⟨_,_,rfl⟩)
  | fail)
theorem rvsC_mem {u:List V} {x:Rl} {i:Int} {c:List Gl} {r:RV}:∀m k,r∈rvsC u x i c k m→∃w,rvFine u c (gVals u (x.arity+x.locals).toNat w)=true∧r=rvOf x i c (gVals u (x.arity+x.locals).toNat w)
 | 0,k,h=>by simp [rvsC] at h
 | m+1,k,h=>by
  rw [rvsC_s] at h
  rcases List.mem_append.1 h with h | h
  ·unfold rvK at h
   split at h
   ·rename_i hf
    simp at h
    exact ⟨k,hf,h⟩
   ·simp at h
  ·exact rvsC_mem m (k+1) h
theorem rvsB_mem {u:List V} {x:Rl} {n:Nat} {r:RV}:∀(cs:List (List Gl)) (i:Int),r∈rvsB u x n i cs→∃c,c∈cs∧∃j w,rvFine u c (gVals u (x.arity+x.locals).toNat w)=true∧r=rvOf x j c (gVals u (x.arity+x.locals).toNat w)
 | [],i,h=>by simp [rvsB] at h
 | c :: cs,i,h=>by
  rw [rvsB_s] at h
  rcases List.mem_append.1 h with h | h
  ·obtain ⟨w,h1,h2⟩:=rvsC_mem _ _ h
   exact ⟨c,by simp,i,w,h1,h2⟩
  ·obtain ⟨c',h1,h2⟩:=rvsB_mem cs (i+1) h
   exact ⟨c',by simp [h1],h2⟩
theorem gnd_mem {u:List V} {r:RV}:∀rels:List Rl,r∈Pg.gnd u rels→∃x,x∈rels∧∃c,c∈x.body.clsS∧∃j w,rvFine u c (gVals u (x.arity+x.locals).toNat w)=true∧r=rvOf x j c (gVals u (x.arity+x.locals).toNat w)
 | [],h=>by simp [Pg.gnd] at h
 | x :: xs,h=>by
  rw [show Pg.gnd u (x :: xs)=rvsB u x (x.ways u) 0 x.body.clsS++Pg.gnd u xs from rfl] at h
  rcases List.mem_append.1 h with h | h
  ·obtain ⟨c,h1,h2⟩:=rvsB_mem _ _ h
   exact ⟨x,by simp,c,h1,h2⟩
  ·obtain ⟨y,h1,h2⟩:=gnd_mem xs h
   exact ⟨y,by simp [h1],h2⟩
theorem gr_mem {p:Pg} {u:List V} {rs:List RV} (h:p.gr u=some rs):rs=Pg.gnd u p.rels∧rs.length≤2000:=by
 unfold Pg.gr at h
 split at h
 ·rename_i h2
  obtain rfl:=Option.some.inj h
  exact ⟨rfl,h2.2⟩
 ·cases h
theorem gr_head {p:Pg} {u:List V} {rs:List RV} (hp:pgOk p=true) (hu:Uni u) (h:p.gr u=some rs):∀r,r∈rs→(∀v,v∈r.head.2→v∈u)∧r.head.2.length≤12:=fun r hr=>by
 obtain ⟨rfl,_⟩:=gr_mem h
 obtain ⟨x,hx,c,_,j,w,_,rfl⟩:=gnd_mem _ hr
 obtain ⟨z1,z2,z3,z4⟩:=Pg.dims hp hx
 have hvl:=gVals_len u (x.arity+x.locals).toNat w
 refine ⟨fun v hv=>gVals_mem hu.pos _ _ v (List.mem_of_mem_take hv),?_⟩
 simp only [rvOf,List.length_take];omega
theorem next_head {p:Pg} {u:List V} {rs:List RV} (hp:pgOk p=true) (hu:Uni u) (h:p.gr u=some rs) (F G:List FcV):∀f,f∈nextF rs F G→(∀v,v∈f.2→v∈u)∧f.2.length≤12:=fun f hf=>by
 obtain ⟨r,h1,_,rfl⟩:=nextF_mem.1 hf
 exact gr_head hp hu h r h1
def csC (o:Option (List FcV)):C:=match o with | some l=>.tup [.d (.sl (l.map fcE)),.d (.bool true)] | none=>.tup [.d (.sl []),.d (.bool false)]
theorem csC_none:csC none=.tup [.d (.sl []),.d (.bool false)]:=rfl
theorem csC_some (l:List FcV):csC (some l)=.tup [.d (.sl (l.map fcE)),.d (.bool true)]:=rfl
theorem wtR_mem {l:List (List D)} {x:List D} (h:x∈l):wtL x≤wtR l:=by
 have:=wtL_lt l x h;omega
theorem wtR_len (l:List (List D)):l.length≤wtR l:=by
 have:=sumW_le l 0;simp [sumW] at this;omega
theorem oksU_wt {u:List V} (hu:Uni u) {l:List FcV} (h:∀f,f∈l→(∀v,v∈f.2→v∈u)∧f.2.length≤12):∀f,f∈l→wtR (f.2.map V.enc)≤2000000:=fun f hf=>uniwts hu f.2 (h f hf).1 (h f hf).2
theorem mem_wtR {u:List Tm} (h:wtR (u.map Tm.enc)≤1048576):(∀t,t∈u→wtL t.enc≤1048576)∧u.length≤9000000:=
 ⟨fun t ht=>Nat.le_trans (wtR_mem (List.mem_map.2 ⟨t,ht,rfl⟩)) h,by have:=wtR_len (u.map Tm.enc);simp at this;omega⟩
theorem pos_gnd {p:Pg} {u:List V} {rs:List RV} (h:p.all false=true) (hg:p.gr u=some rs):posR rs:=fun r hr=>by
 obtain ⟨rfl,_⟩:=gr_mem hg
 obtain ⟨x,hx,c,hc,j,w,_,rfl⟩:=gnd_mem _ hr
 unfold Pg.all at h
 rw [Bool.and_eq_true] at h
 have ho:=List.all_eq_true.1 h.2 x hx
 unfold Gl.only at ho
 show clsNeg _ c=[]
 unfold clsNeg
 have:c.filter (fun g=>decide (g.kind=10))=[]:=List.filter_eq_nil_iff.2 fun g hgc=>by
  have h1:=List.all_eq_true.1 ho g (clsS_sub hc hgc)
  unfold Gl.onlyK at h1
  simp only [Bool.and_eq_true,decide_eq_true_eq] at h1
  simpa using h1.1
 rw [this];rfl
def posO (p:Pg) (u:List Tm):Option (List RV):=if p.all false=true∧uniOk u=true then p.gr (u.map Tm.V) else none
theorem positiveRules_fn (p:Pg) (u:List Tm) (hw:wtL p.enc≤1048576) (hwu:∀t,t∈u→wtL t.enc≤1048576) (hlu:u.length≤9000000):Gives Tryz.prog 46 [.agg p.enc,.sl (u.map Tm.enc)] (grC (posO p u)):=by
 have ha:=iIsPositive_fn p hw
 have hb:=iUniverseOk_fn u hwu hlu
 unfold posO
 by_cases h1:p.all false=true
 ·by_cases h2:uniOk u=true
  ·rw [h1] at ha
   rw [h2] at hb
   rw [if_pos ⟨h1,h2⟩]
   obtain ⟨hu,he⟩:=Uni.of h2
   have hp:pgOk p=true:=by unfold Pg.all at h1;rw [Bool.and_eq_true] at h1;exact h1.1
   have hee:u.map Tm.enc=(u.map Tm.V).map V.enc:=by rw [←enc_tms,←he]
   have hgr:=groundRules_fn p (u.map Tm.V) hp hw hu
   rw [hee] at hb ⊢
   generalize p.gr (u.map Tm.V)=O at *
   cases O<;>· (
    first | rw [grC_none] at hgr ⊢ | rw [grC_some] at hgr ⊢
    refine ACalls.enter (fn:=Tryz.f46) Tryz.func46 rfl (by show 2≤_;decide) ?_
    refine run_sound Tryz.func46 mixed 200 _ _ (by kernel_rfl) ?_
    simp only [go_sem,seval]
    repeat' (first
     | ((first
      | (refine ha.calls rfl ?_)
      | (refine hb.calls rfl ?_)
      | (refine hgr.calls rfl ?_))<;>(try simp only [go_sem,seval]))
     | fail)
    skip)
  ·rw [if_neg (fun h=>h2 h.2),grC_none]
   simp only [Bool.not_eq_true] at h2
   rw [h1] at ha
   rw [h2] at hb
   refine ACalls.enter (fn:=Tryz.f46) Tryz.func46 rfl (by show 2≤_;decide) ?_
   refine run_sound Tryz.func46 mixed 200 _ _ (by kernel_rfl) ?_
   simp only [go_sem,seval]
   repeat' (first
    | ((first
     | (refine ha.calls rfl ?_)
     | (refine hb.calls rfl ?_))<;>(try simp only [go_sem,seval]))
    | fail)
 ·rw [if_neg (fun h=>h1 h.1),grC_none]
  simp only [Bool.not_eq_true] at h1
  rw [h1] at ha
  refine ACalls.enter (fn:=Tryz.f46) Tryz.func46 rfl (by show 2≤_;decide) ?_
  refine run_sound Tryz.func46 mixed 200 _ _ (by kernel_rfl) ?_
  simp only [go_sem,seval]
  repeat' (first
   | ((refine ha.calls rfl ?_)<;>(try simp only [go_sem,seval]))
   | fail)
theorem l19Stages_fn (rs:List RV) (hr:rs.length≤1000000):Gives Tryz.prog 74 [.sl (rs.map rvE)] (.d (.sl (stgD rs (top rs+1)))):=by
 have hmx:maxLen=9223372036854775807:=rfl
 obtain ⟨t1,t2,t3⟩:=top_spec rs
 obtain ⟨RES,hRES⟩:∃RES,stgD rs (top rs+1)=RES:=⟨_,rfl⟩
 rw [hRES]
 refine ACalls.enter (fn:=Tryz.f74) Tryz.func74 rfl (by show 1≤_;decide) ?_
 refine run_sound Tryz.func74 mixed 3 _ _ (by kernel_rfl) ?_
 simp only [go_sem,seval,run.eq_1]
 refine AWregL0 ?_
 simp only [go_sem,seval]
 repeat' (first
  | ((refine all_intro (fun Bz=>?_))<;>(try simp only [go_sem,seval]))
  | fail)
 refine AW.treeB 0 rfl (by simp [D.flat]) ?_
 refine AWbufG 0 rfl ?_
 refine run_sound Tryz.func74 mixed 200 _ _ (by kernel_rfl) ?_
 simp only [go_sem,seval]
 refine AW.lp [0] (fun k:Nat=>[(3,.own 0 k)]) (fun _ k=>[.grow k 1 37 (stgD rs (k+1))]) (fun k=>k≤top rs) (fun k=>top rs - k) 0 (Nat.zero_le _) (by refine ⟨by simp [mkS,stgD_1],by simp [mkS,stgD_1],by simp only [mkS,List.all_cons,List.all_nil,O.refsLt,C.refsLt,C.refsLt1,all_dmap];first | done | rfl | (simp;done),?_⟩;simp [mkS,Abs.get,C.refsLtT,C.refsLt,C.refsLt1]) ?_
 intro k hk hnk
 have w1:IntKind.i64.wrap ((k:Int)+1 - 1)=(k:Int):=by rw [wrap_ok (by omega) (by omega)];omega
 have n1:(k:Int)<(k:Int)+1:=by omega
 have hat:=stgD_at rs (i:=k) (m:=k+1) (by omega)
 have hl1:=stg_len rs k
 have hl2:=stg_len rs (k+1)
 have hc:Gives Tryz.prog 53 [.sl (rs.map rvE),.sl ((stg rs k).map fcE),.sl []] (.d (.sl ((stg rs (k+1)).map fcE))):=l19Next_fn rs (stg rs k) [] (by omega) (by simp) hr
 have hmap:∀x:List FcV,(x.map fcE).length=x.length:=fun x=>List.length_map _
 have heq:=stg_eq_len (rs:=rs) (k:=k)
 by_cases hs:stg rs (k+1)=stg rs k
 ·have hkt:k=top rs:=top_eq hs (fun j hj=>t3 j (by omega))
  have n2:((stg rs (k+1)).length:Int)=((stg rs k).length:Int):=by rw [heq.2 hs]
  rw [←hkt] at hRES
  rw [←hRES]
  refine run_sound Tryz.func74 mixed 200 _ _ (by kernel_rfl) ?_
  simp only [go_sem,seval,w1,n1,idx_of hat,hmap]
  repeat' (first
   | ((refine hc.calls rfl ?_)<;>(try simp only [go_sem,seval,w1,n1,idx_of hat,n2,hmap]))
   | fail)
 ·have n2:¬((stg rs (k+1)).length:Int)=((stg rs k).length:Int):=fun h=>hs (heq.1 (by omega))
  have hkt:k<top rs:=by
   rcases Nat.lt_or_ge k (top rs) with h | h
   ·exact h
   ·rw [show k=top rs by omega] at hs;exact absurd t2 hs
  refine run_sound Tryz.func74 mixed 200 _ _ (by kernel_rfl) ?_
  simp only [go_sem,seval,w1,n1,idx_of hat,hmap]
  repeat' (first
   | ((first
    | (refine hc.calls rfl ?_)
    | (refine ⟨sd,?_⟩))<;>(try simp only [go_sem,seval,w1,n1,idx_of hat,n2,hmap]))
   | fail)
  all_goals first | (exact absurd (by assumption) n2) | skip
  refine hnk (k+1) _ (by omega) (by omega) (by refine ⟨by simp [mkS,stgD_s],by simp [mkS,stgD_s],by simp only [mkS,List.all_cons,List.all_nil,O.refsLt,C.refsLt,C.refsLt1,all_dmap];first | done | rfl | (simp;done),?_⟩;simp [mkS,Abs.get,C.refsLtT,C.refsLt,C.refsLt1])
def allC (o:Option (List RV)):C:=match o with | some rs=>.tup [.d (.sl (rs.map rvE)),.d (.sl (stgD rs (top rs+1))),.d (.bool true)] | none=>.tup [.d (.sl []),.d (.sl []),.d (.bool false)]
theorem allC_some (rs:List RV):allC (some rs)=.tup [.d (.sl (rs.map rvE)),.d (.sl (stgD rs (top rs+1))),.d (.bool true)]:=rfl
theorem allC_none:allC none=.tup [.d (.sl []),.d (.sl []),.d (.bool false)]:=rfl
theorem all_ok {p:Pg} (h:p.all false=true):pgOk p=true:=by unfold Pg.all at h;rw [Bool.and_eq_true] at h;exact h.1
theorem l19All_fn (p:Pg) (u:List Tm) (hw:wtL p.enc≤1048576) (hwu:∀t,t∈u→wtL t.enc≤1048576) (hlu:u.length≤9000000):Gives Tryz.prog 43 [.agg p.enc,.sl (u.map Tm.enc)] (allC (posO p u)):=by
 have ha:=sIsPositive_fn p hw
 have hgr:=sGroundRules_fn p u hw hwu hlu
 have hpo:posO p u=if p.all false=true then Pg.grO p u else none:=by
  unfold posO Pg.grO
  by_cases h1:p.all false=true
  ·by_cases h2:uniOk u=true
   ·rw [if_pos ⟨h1,h2⟩,if_pos h1,if_pos ⟨all_ok h1,h2⟩]
   ·rw [if_neg (fun h=>h2 h.2),if_pos h1,if_neg (fun h=>h2 h.2)]
  ·rw [if_neg (fun h=>h1 h.1),if_neg h1]
 rw [hpo]
 by_cases h1:p.all false=true
 ·rw [if_pos h1]
  rw [h1] at ha
  have hrl:∀rs,Pg.grO p u=some rs→rs.length≤2000:=fun rs h=>by
   unfold Pg.grO at h
   split at h
   ·exact (gr_mem h).2
   ·cases h
  generalize Pg.grO p u=O at *
  cases O with
  | none =>
   rw [grC_none] at hgr
   rw [allC_none]
   refine ACalls.enter (fn:=Tryz.f43) Tryz.func43 rfl (by show 2≤_;decide) ?_
   refine run_sound Tryz.func43 mixed 200 _ _ (by kernel_rfl) ?_
   simp only [go_sem,seval]
   repeat' (first
    | ((first
     | (refine ha.calls rfl ?_)
     | (refine hgr.calls rfl ?_))<;>(try simp only [go_sem,seval]))
    | fail)
  | some rs =>
   have hst:=l19Stages_fn rs (by have:=hrl rs rfl;omega)
   rw [grC_some] at hgr
   rw [allC_some]
   generalize stgD rs (top rs+1)=SD at *
   refine ACalls.enter (fn:=Tryz.f43) Tryz.func43 rfl (by show 2≤_;decide) ?_
   refine run_sound Tryz.func43 mixed 200 _ _ (by kernel_rfl) ?_
   simp only [go_sem,seval]
   repeat' (first
    | ((first
     | (refine ha.calls rfl ?_)
     | (refine hgr.calls rfl ?_)
     | (refine hst.calls rfl ?_))<;>(try simp only [go_sem,seval]))
    | fail)
 ·rw [if_neg h1,allC_none]
  simp only [Bool.not_eq_true] at h1
  rw [h1] at ha
  refine ACalls.enter (fn:=Tryz.f43) Tryz.func43 rfl (by show 2≤_;decide) ?_
  refine run_sound Tryz.func43 mixed 200 _ _ (by kernel_rfl) ?_
  simp only [go_sem,seval]
  repeat' (first
   | ((refine ha.calls rfl ?_)<;>(try simp only [go_sem,seval]))
   | fail)
theorem copyFacts_T (l:List FcV) (hl:l.length≤2000000) (hw:∀x,x∈l→x.2.length≤100000000):ACalls Tryz.prog 58 [.d (.sl (l.map fcE))] [.hole] (fun c H'=>c=.own 0 1∧∃e B,H'=[.tree 1 2 e (l.map fcE) B none]):=by
 have hmx:maxLen=9223372036854775807:=rfl
 refine ACalls.enter (fn:=Tryz.f58) Tryz.func58 rfl (by show 1≤_;decide) ?_
 refine run_sound Tryz.func58 mixed 5 _ _ (by kernel_rfl) ?_
 simp only [go_sem,seval,run.eq_1]
 refine AW.adoptT 3 2 48 (by decide) rfl ?_
 refine run_sound Tryz.func58 mixed 200 _ _ (by kernel_rfl) ?_
 simp only [go_sem,seval]
 refine AW.rng l [7,8] 9 7 (fun p:List FcV×(Nat→Prop)=>[(3,.own 1 p.1.length)]) (fun _ p=>[.hole,.tree p.1.length 2 48 (p.1.map fcE) p.2 none]) (fun r p=>p.1++r=l) ([],fun _=>False) rfl (by simp) rfl (by refine ⟨by simp [mkS],by simp [mkS],by simp only [mkS,List.all_cons,List.all_nil,O.refsLt,C.refsLt,C.refsLt1,all_dmap];first | done | rfl | (simp;done),?_⟩;simp [mkS,Abs.get,C.refsLtT,C.refsLt,C.refsLt1]) (fun i x r p hxi hdr hlt hm hinv hnext=>?_) (fun p hinv=>?_)
 ·have hpl:p.1.length+(r.length+1)=l.length:=by rw [←hinv];simp
  have hx:=copyFact_T x.1 x.2 (hw x (List.mem_of_getElem? hxi))
  have hX:=fcE_eq x
  refine AW.hole ?_
  refine run_sound Tryz.func58 mixed 9 _ _ (by kernel_rfl) ?_
  simp only [go_sem,seval,run.eq_1,hlt,idx_of hxi,fcE_eq]
  refine AW.regT ?_
  simp only [go_sem,seval]
  repeat' (first
   | ((first
    | (refine ACalls.fresh (ds:=[.agg [.str x.1,.sl (x.2.map V.enc)]]) (m:=1) hx [2] rfl rfl (by simp) (by simp) ?_<;>(rintro c H' ⟨rfl,e1,B1,rfl⟩ _;refine ⟨rfl,rfl,?_⟩))
    | (refine all_intro (fun Bz=>?_))
    | (refine ⟨sd,?_⟩))<;>(try simp only [go_sem,seval,hlt,idx_of hxi]))
   | fail)
  refine run_sound Tryz.func58 mixed 200 _ _ (by kernel_rfl) ?_
  simp only [go_sem,seval]
  try simp (disch:=omega) only [wrap_ok]
  refine hnext (p.1++[x],Bz) _ (by simp [←hinv]) (by refine ⟨by simp [mkS,hX],by simp [mkS,hX],by simp only [mkS,List.all_cons,List.all_nil,O.refsLt,C.refsLt,C.refsLt1,all_dmap];first | done | rfl | (simp;done),?_⟩;simp [mkS,Abs.get,C.refsLtT,C.refsLt,C.refsLt1,hX])
 ·simp only [List.append_nil] at hinv
  subst hinv
  refine run_sound Tryz.func58 mixed 7 _ _ (by kernel_rfl) ?_
  simp only [go_sem,seval,run.eq_1]
  refine AW.place 2 1 0 rfl rfl rfl (by decide) ?_
  refine run_sound Tryz.func58 mixed 200 _ _ (by kernel_rfl) ?_
  simp only [go_sem,seval]
  all_goals exact ⟨_,_,rfl⟩
def csR (o:Option (List FcV)) (c:C) (H:List O):Prop:=match o with
 | some l=>c=.tup [.own 0 1,.d (.bool true)]∧∃e B,H=[.tree 1 2 e (l.map fcE) B none]
 | none=>c=.tup [.d (.sl []),.d (.bool false)]∧H=[.hole]
theorem stg_head {p:Pg} {u:List V} {rs:List RV} (hp:pgOk p=true) (hu:Uni u) (h:p.gr u=some rs) (k:Nat):∀f,f∈stg rs k→(∀v,v∈f.2→v∈u)∧f.2.length≤12:=fun f hf=>by
 cases k with
 | zero=>simp [stg] at hf
 | succ k=>exact next_head hp hu h _ _ f hf
theorem posO_some {p:Pg} {u:List Tm} {rs:List RV} (h:posO p u=some rs):rs.length≤2000∧posR rs∧∀k f,f∈stg rs k→wtR (f.2.map V.enc)≤2000000∧f.2.length≤12:=by
 unfold posO at h
 split at h
 ·rename_i h12
  obtain ⟨hu,_⟩:=Uni.of h12.2
  exact ⟨(gr_mem h).2,pos_gnd h12.1 h,fun k f hf=>⟨oksU_wt hu (stg_head (all_ok h12.1) hu h k) f hf,(stg_head (all_ok h12.1) hu h k f hf).2⟩⟩
 ·cases h
def Pg.stgF (p:Pg) (u:List Tm) (n:Int):Option (List FcV):=if 0≤n∧n≤100 then (posO p u).map (fun rs=>stg rs n.toNat) else none
theorem iStageFacts_T (p:Pg) (u:List Tm) (n:Int) (hw:wtL p.enc≤1048576) (hwu:wtR (u.map Tm.enc)≤1048576):ACalls Tryz.prog 33 [.d (.agg p.enc),.d (.sl (u.map Tm.enc)),.d (.int .i64 n)] [.hole] (csR (Pg.stgF p u n)):=by
 have hmx:maxLen=9223372036854775807:=rfl
 have hpr:=positiveRules_fn p u hw (mem_wtR hwu).1 (mem_wtR hwu).2
 obtain ⟨RES,hRES⟩:∃RES,Pg.stgF p u n=RES:=⟨_,rfl⟩
 rw [hRES]
 unfold Pg.stgF at hRES
 cases hg:posO p u with
 | none =>
  rw [hg] at hRES
  have hR:RES=none:=by rw [←hRES];simp
  subst hR;unfold csR;dsimp only
  rw [hg,grC_none] at hpr
  refine ACalls.enter (fn:=Tryz.f33) Tryz.func33 rfl (by show 3≤_;decide) ?_
  refine run_sound Tryz.func33 mixed 200 _ _ (by kernel_rfl) ?_
  simp only [go_sem,seval]
  repeat' (first
   | ((refine hpr.calls rfl ?_)<;>(try simp only [go_sem,seval]))
   | fail)
 | some rs =>
  rw [hg,grC_some] at hpr
  obtain ⟨hrl,hpo,hst⟩:=posO_some hg
  rw [hg,Option.map_some] at hRES
  by_cases h0:n<0
  ·rw [if_neg (by omega)] at hRES
   subst hRES;unfold csR;dsimp only
   refine ACalls.enter (fn:=Tryz.f33) Tryz.func33 rfl (by show 3≤_;decide) ?_
   refine run_sound Tryz.func33 mixed 200 _ _ (by kernel_rfl) ?_
   simp only [go_sem,seval,h0]
   repeat' (first
    | ((refine hpr.calls rfl ?_)<;>(try simp only [go_sem,seval,h0]))
    | fail)
  ·by_cases h1:100<n
   ·rw [if_neg (by omega)] at hRES
    subst hRES;unfold csR;dsimp only
    refine ACalls.enter (fn:=Tryz.f33) Tryz.func33 rfl (by show 3≤_;decide) ?_
    refine run_sound Tryz.func33 mixed 200 _ _ (by kernel_rfl) ?_
    simp only [go_sem,seval,h0,h1]
    repeat' (first
     | ((refine hpr.calls rfl ?_)<;>(try simp only [go_sem,seval,h0,h1]))
     | fail)
   ·rw [if_pos (by omega)] at hRES
    subst hRES;unfold csR;dsimp only
    have hss:=stages_fn rs (by omega) hpo
    have ht:=(top_spec rs).1
    obtain ⟨k,hk⟩:∃k:Nat,n=(k:Int):=⟨n.toNat,by omega⟩
    subst hk
    rw [show ((k:Int)).toNat=k by omega,←stg_min rs k]
    have hsl:=stg_len rs (min k (top rs))
    have hcf:=copyFacts_T (stg rs (min k (top rs))) (by omega) (fun x hx=>by have:=(hst _ x hx).2;omega)
    have hat:=stgD_at rs (i:=min k (top rs)) (m:=top rs+1) (by omega)
    have w1:IntKind.i64.wrap ((top rs:Int)+1 - 1)=(top rs:Int):=by rw [wrap_ok (by omega) (by omega)];omega
    have m1:(if (top rs:Int)<(k:Int) then (top rs:Int) else (k:Int))=((min k (top rs):Nat):Int):=by split<;>omega
    have n1:((min k (top rs):Nat):Int)<(top rs:Int)+1:=by omega
    have hdl:=stgD_len rs (top rs+1)
    generalize stg rs (min k (top rs))=R2 at *
    generalize stgD rs (top rs+1)=SD at *
    generalize min k (top rs)=j at *
    refine ACalls.enter (fn:=Tryz.f33) Tryz.func33 rfl (by show 3≤_;decide) ?_
    refine run_sound Tryz.func33 mixed 200 _ _ (by kernel_rfl) ?_
    simp only [go_sem,seval,h0,h1]
    repeat' (first
     | (exact ⟨_,_,rfl⟩)
     | ((first
      | (refine hpr.calls rfl ?_)
      | (refine hss.calls rfl ?_)
      | (refine ACalls.fresh (ds:=[.sl (R2.map fcE)]) (m:=1) hcf [0] rfl rfl (by simp) (by simp) ?_<;>(rintro c H' ⟨rfl,e1,B1,rfl⟩ _;refine ⟨rfl,rfl,?_⟩)))<;>(try simp only [go_sem,seval,h0,h1,w1,m1,n1,hdl,idx_of hat]))
     | fail)
theorem sStageFacts_D (p:Pg) (u:List Tm) (n:Int) (hw:wtL p.enc≤1048576) (hwu:wtR (u.map Tm.enc)≤1048576):Gives Tryz.prog 32 [.agg p.enc,.sl (u.map Tm.enc),.int .i64 n] (csC (Pg.stgF p u n)):=by
 have hmx:maxLen=9223372036854775807:=rfl
 have hpr:=l19All_fn p u hw (mem_wtR hwu).1 (mem_wtR hwu).2
 have hin:=l01In_fn n 0 100
 obtain ⟨RES,hRES⟩:∃RES,csC (Pg.stgF p u n)=RES:=⟨_,rfl⟩
 rw [hRES]
 unfold Pg.stgF at hRES
 cases hg:posO p u with
 | none =>
  rw [hg] at hRES
  have hR:RES=.tup [.d (.sl []),.d (.bool false)]:=by rw [←hRES];simp [csC]
  subst hR
  rw [hg,allC_none] at hpr
  refine ACalls.enter (fn:=Tryz.f32) Tryz.func32 rfl (by show 3≤_;decide) ?_
  refine run_sound Tryz.func32 mixed 200 _ _ (by kernel_rfl) ?_
  simp only [go_sem,seval]
  repeat' (first
   | ((refine hpr.calls rfl ?_)<;>(try simp only [go_sem,seval]))
   | fail)
 | some rs =>
  rw [hg,allC_some] at hpr
  obtain ⟨hrl,hpo,hst⟩:=posO_some hg
  rw [hg,Option.map_some] at hRES
  by_cases h0:0≤n∧n≤100
  ·rw [if_pos h0,csC_some] at hRES
   rw [show (decide (0≤n) && decide (n≤100))=true by simp [h0]] at hin
   have ht:=(top_spec rs).1
   obtain ⟨k,hk⟩:∃k:Nat,n=(k:Int):=⟨n.toNat,by omega⟩
   subst hk
   rw [show ((k:Int)).toNat=k by omega,←stg_min rs k] at hRES
   have hsl:=stg_len rs (min k (top rs))
   have hcf:=l18Copy_V (stg rs (min k (top rs))) (by omega) (fun x hx=>(hst _ x hx).1)
   have hat:=stgD_at rs (i:=min k (top rs)) (m:=top rs+1) (by omega)
   have w1:IntKind.i64.wrap ((top rs:Int)+1 - 1)=(top rs:Int):=by rw [wrap_ok (by omega) (by omega)];omega
   have hdl:=stgD_len rs (top rs+1)
   by_cases hkt:k<top rs+1
   ·have m1:¬(top rs:Int)+1≤(k:Int):=by omega
    have n1:(k:Int)<(top rs:Int)+1:=by omega
    rw [show min k (top rs)=k by omega] at *
    generalize stg rs k=R2 at *
    generalize stgD rs (top rs+1)=SD at *
    rw [←hRES]
    refine ACalls.enter (fn:=Tryz.f32) Tryz.func32 rfl (by show 3≤_;decide) ?_
    refine run_sound Tryz.func32 mixed 200 _ _ (by kernel_rfl) ?_
    simp only [go_sem,seval]
    repeat' (first
     | ((first
      | (refine hpr.calls rfl ?_)
      | (refine hin.calls rfl ?_)
      | (refine hcf.calls rfl ?_))<;>(try simp only [go_sem,seval,w1,m1,n1,hdl,idx_of hat]))
     | fail)
   ·have m1:(top rs:Int)+1≤(k:Int):=by omega
    have n1:(top rs:Int)<(top rs:Int)+1:=by omega
    rw [show min k (top rs)=top rs by omega] at *
    generalize stg rs (top rs)=R2 at *
    generalize stgD rs (top rs+1)=SD at *
    generalize top rs=j at *
    rw [←hRES]
    refine ACalls.enter (fn:=Tryz.f32) Tryz.func32 rfl (by show 3≤_;decide) ?_
    refine run_sound Tryz.func32 mixed 200 _ _ (by kernel_rfl) ?_
    simp only [go_sem,seval]
    repeat' (first
     | ((first
      | (refine hpr.calls rfl ?_)
      | (refine hin.calls rfl ?_)
      | (refine hcf.calls rfl ?_))<;>(try simp only [go_sem,seval,w1,m1,n1,hdl,idx_of hat]))
     | fail)
  ·rw [if_neg h0,csC_none] at hRES
   rw [show (decide (0≤n) && decide (n≤100))=false by simp;omega] at hin
   generalize stgD rs (top rs+1)=SD at *
   rw [←hRES]
   refine ACalls.enter (fn:=Tryz.f32) Tryz.func32 rfl (by show 3≤_;decide) ?_
   refine run_sound Tryz.func32 mixed 200 _ _ (by kernel_rfl) ?_
   simp only [go_sem,seval]
   repeat' (first
    | ((first
     | (refine hpr.calls rfl ?_)
     | (refine hin.calls rfl ?_))<;>(try simp only [go_sem,seval]))
    | fail)
set_option maxHeartbeats 4000000
end Go.Proofs.YtockpdkdnlkkfaaGreat
namespace Go.Abs
def Fc.mcnt (t:Fc):Nat:=1+Tm.mcnts t.args
def Fc.mrk (k:Int) (t:Fc):Fc:=⟨mText k,Tm.mrks (k+1) t.args⟩
def Fc.mcnts:List Fc→Nat
 | []=>0
 | t :: r=>Fc.mcnt t+Fc.mcnts r
def Fc.mrks (k:Int):List Fc→List Fc
 | []=>[]
 | t :: r=>Fc.mrk k t :: Fc.mrks (k+t.mcnt) r
theorem Fc.mrks_len:∀(l:List Fc) (k:Int),(Fc.mrks k l).length=l.length
 | [],_=>rfl
 | t :: r,k=>by simp [Fc.mrks,Fc.mrks_len r]
theorem Fc.mcnts_app:∀(a b:List Fc),Fc.mcnts (a++b)=Fc.mcnts a+Fc.mcnts b
 | [],b=>by simp [Fc.mcnts]
 | t :: a,b=>by simp only [List.cons_append,Fc.mcnts,Fc.mcnts_app a b];omega
theorem Fc.mrks_app:∀(a b:List Fc) (k:Int),Fc.mrks k (a++b)=Fc.mrks k a++Fc.mrks (k+Fc.mcnts a) b
 | [],b,k=>by simp [Fc.mrks,Fc.mcnts]
 | t :: a,b,k=>by
  simp only [List.cons_append,Fc.mrks,Fc.mcnts,Fc.mrks_app a b]
  rw [show k+(t.mcnt:Int)+(Fc.mcnts a:Int)=k+((t.mcnt+Fc.mcnts a:Nat):Int) by omega]
theorem Fc.len_mcnts:∀l:List Fc,l.length≤Fc.mcnts l
 | []=>by simp
 | t :: r=>by have:=Fc.len_mcnts r;simp only [Fc.mcnts,Fc.mcnt,List.length_cons];omega
theorem Fc.mcnts_wt:∀l:List Fc,Fc.mcnts l≤4 * wtR (l.map Fc.enc)
 | []=>by simp [Fc.mcnts]
 | t :: r=>by
  have h1:=Fc.mcnts_wt r
  have h2:=Tm.mcnts_wt t.args
  simp only [Fc.mcnts,Fc.mcnt,List.map_cons,wtR,Fc.enc_eq,wtL,D.wt];omega
theorem Fc.mrks_at:∀(l:List Fc) (k:Int) (i:Nat) (x:Fc),l[i]? = some x→(Fc.mrks k l)[i]? = some (x.mrk (k+Fc.mcnts (l.take i)))
 | [],k,i,x,h=>by simp at h
 | t :: r,k,0,x,h=>by simp at h;subst h;simp [Fc.mrks,Fc.mcnts]
 | t :: r,k,i+1,x,h=>by
  simp only [List.getElem?_cons_succ] at h
  simp only [Fc.mrks,List.getElem?_cons_succ,List.take_succ_cons,Fc.mcnts]
  rw [Fc.mrks_at r _ i x h]
  rw [show k+(t.mcnt:Int)+(Fc.mcnts (r.take i):Int)=k+((t.mcnt+Fc.mcnts (r.take i):Nat):Int) by omega]
end Go.Abs
namespace Go.Proofs.YtockpdkdnlkkfaaGreat
open Go.Abs
def hTT (l:List Tm):Prop:=∀k:Int,0≤k→k+Tm.mcnts l≤1000000000→Gives Tryz.prog 62 [.sl ((Tm.mrks k l).map Tm.enc),.int .i64 k] (.d (.int .i64 (k+Tm.mcnts l)))
theorem heldTermS_T (l:List Tm) (ih:∀x,x∈l→hTT x.args):hTT l:=by
 intro k h0 h1
 have hml:=Tm.mrks_len l k
 have hlm:=Tm.len_mcnts l
 refine ACalls.enter (fn:=Tryz.f62) Tryz.func62 rfl (by show 2≤_;decide) ?_
 refine run_sound Tryz.func62 mixed 200 _ _ (by kernel_rfl) ?_
 simp only [go_sem,seval]
 refine AW.lp [0] (fun i:Nat=>[(5,.d (.int .i64 i)),(1,.d (.int .i64 (k+Tm.mcnts (l.take i))))]) (fun H _=>H) (fun i=>i≤l.length) (fun i=>l.length - i) 0 (Nat.zero_le _) (by refine ⟨by simp [mkS],by simp [mkS],by simp [mkS,O.refsLt],?_⟩;simp [mkS,Abs.get,C.refsLtT,C.refsLt,C.refsLt1,Tm.mcnts]) ?_
 intro i hi hnext
 by_cases h:i<l.length
 ·have hlt:(i:Int)<(l.length:Int):=by omega
  have hxi:l[i]? = some l[i]:=List.getElem?_eq_getElem h
  have hix:=ih l[i] (List.getElem_mem _)
  have hat:=Tm.mrks_at l k i _ hxi
  have hnxt:l.take (i+1)=l.take i++[l[i]]:=by rw [List.take_add_one,List.getElem?_eq_getElem h];rfl
  have hcn:Tm.mcnts (l.take (i+1))=Tm.mcnts (l.take i)+l[i].mcnt:=by rw [hnxt,Tm.mcnts_app];simp [Tm.mcnts]
  have hcl:Tm.mcnts l=Tm.mcnts (l.take i)+(l[i].mcnt+Tm.mcnts (l.drop (i+1))):=by
   conv=>lhs;rw [←List.take_append_drop i l,List.drop_eq_getElem_cons h,Tm.mcnts_app]
   simp [Tm.mcnts]
  have hmc:=Tm.mcnt_eq l[i]
  have hnx:=fun s'=>hnext (i+1) s' h (by omega)
  clear hnext
  simp only [hcn] at hnx
  generalize hx:l[i]=x at *
  generalize hk:k+(Tm.mcnts (l.take i):Int)=kk at *
  generalize hy:x.mrk kk=y at *
  have e2:kk+1+1=kk+2:=by omega
  have e3:kk+1+1+1=kk+3:=by omega
  have ye:y.kind=kk∧y.int=kk+1∧y.name=mText (kk+1+1)∧y.args=Tm.mrks (kk+1+1+1) x.args:=by
   rw [←hy,Tm.mrk_eq,e3,e2];exact ⟨rfl,rfl,rfl,rfl⟩
  have hrec:=hix (kk+1+1+1) (by omega) (by omega)
  have w1:IntKind.i64.wrap (kk+1)=kk+1:=wrap_ok (by omega) (by omega)
  have w2:IntKind.i64.wrap (kk+1+1)=kk+1+1:=wrap_ok (by omega) (by omega)
  have w3:IntKind.i64.wrap (kk+1+1+1)=kk+1+1+1:=wrap_ok (by omega) (by omega)
  refine run_sound Tryz.func62 mixed 200 _ _ (by kernel_rfl) ?_
  simp only [go_sem,seval,hlt,hml,idx_of hat,ye.1,ye.2.1,ye.2.2.1,ye.2.2.2,w1,w2,w3]
  repeat' (first
   | ((refine br_n (fun hq=>?_) (fun hq=>?_))<;>(try simp only [go_sem,seval,hlt,hml,idx_of hat,ye.1,ye.2.1,ye.2.2.1,ye.2.2.2,w1,w2,w3,hq]))
   | (simp (disch:=omega) only [wrap_ok])
   | ((first
    | (refine hrec.calls rfl ?_)
    | (refine (markText_fn _ sd sd).callQ rfl ?_))<;>(try simp only [go_sem,seval,hlt,hml,idx_of hat,ye.1,ye.2.1,ye.2.2.1,ye.2.2.2,w1,w2,w3]))
   | fail)
  all_goals first | (exfalso;omega) | skip
  refine hnx _ ?_
  refine ⟨by simp [mkS],by simp [mkS],by simp [mkS,O.refsLt],?_⟩;simp [mkS,Abs.get,C.refsLtT,C.refsLt,C.refsLt1];omega
 ·obtain rfl:i=l.length:=by omega
  refine run_sound Tryz.func62 mixed 200 _ _ (by kernel_rfl) ?_
  simp only [go_sem,seval,hml,List.take_length]
theorem hTT_args:∀t:Tm,hTT t.args:=by
 intro t
 induction t using Tm.ind' with
 | h t ih=>exact heldTermS_T t.args ih
theorem hTT_all (l:List Tm):hTT l:=heldTermS_T l (fun x _=>hTT_args x)
theorem markFactS_0 (k:Int):Gives Tryz.prog 28 [.sl [],.int .i64 k] (.d (.int .i64 k)):=by
 have z0:((0:Nat):Int)=0:=rfl
 refine ACalls.enter (fn:=Tryz.f28) Tryz.func28 rfl (by show 2≤_;decide) ?_
 refine run_sound Tryz.func28 mixed 200 _ _ (by kernel_rfl) ?_
 simp only [go_sem,seval]
 repeat' (first
  | ((refine AW.loop ?_<;>(refine run_sound Tryz.func28 mixed 200 _ _ (by kernel_rfl) ?_))<;>(try simp only [go_sem,seval,z0]))
  | fail)
 all_goals (exfalso;simp at *)
theorem markFactS_T (l:List Fc) (k:Int) (q e:Nat) (B:Nat→Prop) (h0:0≤k) (h1:k+Fc.mcnts l≤1000000000) :
  ACalls Tryz.prog 28 [.own 0 q,.d (.int .i64 k)] [.tree q 2 e (l.map Fc.enc) B none] fun c H'=>c=.d (.int .i64 (k+Fc.mcnts l))∧∃B',H'=[.tree q 2 e ((Fc.mrks k l).map Fc.enc) B' none]:=by
 have hlm:=Fc.len_mcnts l
 refine ACalls.enter (fn:=Tryz.f28) Tryz.func28 rfl (by show 2≤_;decide) ?_
 refine run_sound Tryz.func28 mixed 200 _ _ (by kernel_rfl) ?_
 simp only [go_sem,seval]
 refine AW.lp [0] (fun p:Nat×(Nat→Prop)=>[(5,.d (.int .i64 p.1)),(1,.d (.int .i64 (k+Fc.mcnts (l.take p.1))))]) (fun _ p=>[.tree q 2 e ((Fc.mrks k (l.take p.1)++l.drop p.1).map Fc.enc) p.2 none]) (fun p=>p.1≤l.length) (fun p=>l.length - p.1) (0,B) (Nat.zero_le _) (by refine ⟨by simp [mkS],by simp [mkS,Fc.mrks],by simp [mkS,O.refsLt],?_⟩;simp [mkS,Abs.get,C.refsLtT,C.refsLt,C.refsLt1,Fc.mcnts]) ?_
 rintro ⟨i,B1⟩ hi hnext
 dsimp only at hi hnext ⊢
 by_cases h:i<l.length
 ·have hlt:(i:Int)<(l.length:Int):=by omega
  have hd:l.drop i=l[i] :: l.drop (i+1):=List.drop_eq_getElem_cons h
  have hll:((Fc.mrks k (l.take i)).map Fc.enc++l[i].enc :: (l.drop (i+1)).map Fc.enc).length=l.length:=by simp [Fc.mrks_len];omega
  have hai:((Fc.mrks k (l.take i)).map Fc.enc).length=i:=by simp [Fc.mrks_len];omega
  have hnxt:l.take (i+1)=l.take i++[l[i]]:=by rw [List.take_add_one,List.getElem?_eq_getElem h];rfl
  have hcn:Fc.mcnts (l.take (i+1))=Fc.mcnts (l.take i)+l[i].mcnt:=by rw [hnxt,Fc.mcnts_app];simp [Fc.mcnts]
  have hcl:Fc.mcnts l=Fc.mcnts (l.take i)+(l[i].mcnt+Fc.mcnts (l.drop (i+1))):=by
   conv=>lhs;rw [←List.take_append_drop i l,hd,Fc.mcnts_app]
   simp [Fc.mcnts]
  have hmr:Fc.mrks k (l.take (i+1))=Fc.mrks k (l.take i)++[l[i].mrk (k+Fc.mcnts (l.take i))]:=by rw [hnxt,Fc.mrks_app];simp [Fc.mrks]
  have hmc:l[i].mcnt=1+Tm.mcnts l[i].args:=rfl
  rw [hd,List.map_append,List.map_cons]
  have hnx:=fun B' s'=>hnext (i+1,B') s' h (by dsimp only;omega)
  clear hnext
  simp only [hmr,hcn,List.map_append,List.map_cons,List.map_nil,Fc.mrk] at hnx
  generalize hx:l[i]=x at *
  generalize hA:(Fc.mrks k (l.take i)).map Fc.enc=A at *
  generalize hZ:(l.drop (i+1)).map Fc.enc=Z at *
  generalize hk:k+(Fc.mcnts (l.take i):Int)=kk at *
  have s1:=fun (y:List D)=>set_split (x:=x.enc) (y:=y) (r:=Z) hai
  have s2:=fun (y y':List D)=>set_split (x:=y) (y:=y') (r:=Z) hai
  have g1:=fun (y:List D)=>at_split (x:=y) (r:=Z) hai
  have xe:=Fc.enc_eq x
  rw [xe] at hll ⊢
  have zk4:∀zk:Nat,x.args.map Tm.enc≠[]→(∀j,j∈x.args→4=zk)→zk=4:=fun zk hne hz=>by
   cases ha:x.args with
   | nil=>simp [ha] at hne
   | cons a r=>exact (hz a (by simp [ha])).symm
  have hrow:∀ks,(Fc.mk (mText kk) ks).enc=[.str (mText kk),.sl (ks.map Tm.enc)]:=fun ks=>by rw [Fc.enc_eq]
  simp only [hrow,List.append_assoc,List.cons_append,List.nil_append] at hnx
  have g2:=fun (y:List D) (Q:List D→Prop)=>idx_of (g1 y) Q
  refine run_sound Tryz.func28 mixed 200 _ _ (by kernel_rfl) ?_
  simp only [go_sem,seval,hlt,hll,s2,g1,g2]
  repeat' (first
   | (refine lend_intro (fun hk0=>?_) (fun hk1 zk e' B2 B3 hzk=>?_)<;>(try simp only [go_sem,seval,hlt,hll,s2,g1,g2]))
   | (simp (disch:=omega) only [wrap_ok])
   | ((first
    | (refine all_intro (fun Bz=>?_))
    | (refine (markTermS_0 _).calls rfl ?_)
    | (refine (markText_fn _ sd sd).calls rfl ?_)
    | (refine ⟨sd,?_⟩))<;>(try simp only [go_sem,seval,hlt,hll,s2,g1,g2]))
   | fail)
  ·have ha:x.args=[]:=by simpa using hk0
   have hm0:Tm.mcnts x.args=0:=by rw [ha];rfl
   rw [ha] at hnx ⊢
   refine hnx Bz _ ?_
   refine ⟨by simp [mkS],by simp [mkS,Tm.mrks],by simp [mkS,O.refsLt],?_⟩;simp [mkS,Abs.get,C.refsLtT,C.refsLt,C.refsLt1];omega
  ·obtain rfl:=zk4 zk hk1 hzk
   refine (mTT_all x.args (kk+1) 0 e' B3 (by omega) (by omega)).at1 rfl 1 rfl rfl ?_
   rintro c o' ⟨rfl,B4,ho⟩
   cases ho
   refine ⟨rfl,rfl,?_⟩
   simp only [go_sem,seval,C.at1]
   try simp (disch:=omega) only [wrap_ok]
   try simp only [go_sem,seval,C.at1]
   refine AW.rejoin 0 1 rfl rfl (by decide) (fun B5=>?_)
   simp only [go_sem,seval,g1,s2]
   refine hnx B5 _ ?_
   refine ⟨by simp [mkS],by simp [mkS];skip,by simp [mkS,O.refsLt],?_⟩;simp [mkS,Abs.get,C.refsLtT,C.refsLt,C.refsLt1];omega
 ·obtain rfl:i=l.length:=by omega
  refine run_sound Tryz.func28 mixed 200 _ _ (by kernel_rfl) ?_
  simp only [go_sem,seval,Fc.mrks_len,List.take_length,List.drop_length]
  repeat' (first
   | (exact ⟨_,rfl⟩)
   | fail)
theorem heldFactS_T (l:List Fc) (k:Int) (h0:0≤k) (h1:k+Fc.mcnts l≤1000000000):Gives Tryz.prog 29 [.sl ((Fc.mrks k l).map Fc.enc),.int .i64 k] (.d (.int .i64 (k+Fc.mcnts l))):=by
 have hml:=Fc.mrks_len l k
 have hlm:=Fc.len_mcnts l
 refine ACalls.enter (fn:=Tryz.f29) Tryz.func29 rfl (by show 2≤_;decide) ?_
 refine run_sound Tryz.func29 mixed 200 _ _ (by kernel_rfl) ?_
 simp only [go_sem,seval]
 refine AW.lp [0] (fun i:Nat=>[(5,.d (.int .i64 i)),(1,.d (.int .i64 (k+Fc.mcnts (l.take i))))]) (fun H _=>H) (fun i=>i≤l.length) (fun i=>l.length - i) 0 (Nat.zero_le _) (by refine ⟨by simp [mkS],by simp [mkS],by simp [mkS,O.refsLt],?_⟩;simp [mkS,Abs.get,C.refsLtT,C.refsLt,C.refsLt1,Fc.mcnts]) ?_
 intro i hi hnext
 by_cases h:i<l.length
 ·have hlt:(i:Int)<(l.length:Int):=by omega
  have hxi:l[i]? = some l[i]:=List.getElem?_eq_getElem h
  have hat:=Fc.mrks_at l k i _ hxi
  have hnxt:l.take (i+1)=l.take i++[l[i]]:=by rw [List.take_add_one,List.getElem?_eq_getElem h];rfl
  have hcn:Fc.mcnts (l.take (i+1))=Fc.mcnts (l.take i)+l[i].mcnt:=by rw [hnxt,Fc.mcnts_app];simp [Fc.mcnts]
  have hcl:Fc.mcnts l=Fc.mcnts (l.take i)+(l[i].mcnt+Fc.mcnts (l.drop (i+1))):=by
   conv=>lhs;rw [←List.take_append_drop i l,List.drop_eq_getElem_cons h,Fc.mcnts_app]
   simp [Fc.mcnts]
  have hmc:l[i].mcnt=1+Tm.mcnts l[i].args:=rfl
  have hnx:=fun s'=>hnext (i+1) s' h (by omega)
  clear hnext
  simp only [hcn] at hnx
  generalize hx:l[i]=x at *
  generalize hk:k+(Fc.mcnts (l.take i):Int)=kk at *
  generalize hy:x.mrk kk=y at *
  have ye:y.rel=mText kk∧y.args=Tm.mrks (kk+1) x.args:=by
   rw [←hy];exact ⟨rfl,rfl⟩
  have hrec:=hTT_all x.args (kk+1) (by omega) (by omega)
  have w1:IntKind.i64.wrap (kk+1)=kk+1:=wrap_ok (by omega) (by omega)
  refine run_sound Tryz.func29 mixed 200 _ _ (by kernel_rfl) ?_
  simp only [go_sem,seval,hlt,hml,idx_of hat,ye.1,ye.2,w1]
  repeat' (first
   | ((refine br_n (fun hq=>?_) (fun hq=>?_))<;>(try simp only [go_sem,seval,hlt,hml,idx_of hat,ye.1,ye.2,w1,hq]))
   | (simp (disch:=omega) only [wrap_ok])
   | ((first
    | (refine hrec.calls rfl ?_)
    | (refine (markText_fn _ sd sd).callQ rfl ?_))<;>(try simp only [go_sem,seval,hlt,hml,idx_of hat,ye.1,ye.2,w1]))
   | fail)
  all_goals first | (exfalso;omega) | skip
  refine hnx _ ?_
  refine ⟨by simp [mkS],by simp [mkS],by simp [mkS,O.refsLt],?_⟩;simp [mkS,Abs.get,C.refsLtT,C.refsLt,C.refsLt1];omega
 ·obtain rfl:i=l.length:=by omega
  refine run_sound Tryz.func29 mixed 200 _ _ (by kernel_rfl) ?_
  simp only [go_sem,seval,hml,List.take_length]
set_option maxRecDepth 100000
set_option maxHeartbeats 4000000
set_option linter.unusedSimpArgs false
set_option linter.unusedVariables false
theorem eqTm2_fn:∀t:Tm,wtL t.enc≤2000000→Gives Tryz.prog 42 [.agg t.enc,.agg t.enc] (.d (.bool true)):=by
 intro t
 induction t using Tm.ind' with
 | h t ih =>
  intro hw
  have hmx:maxLen=9223372036854775807:=rfl
  have hl:t.args.length≤2000000:=by
   have h1:wtR (t.args.map Tm.enc)≤2000000:=by simp only [Tm.enc_eq t,wtL,D.wt] at hw;omega
   have:=sumW_le (t.args.map Tm.enc) 0;simp [sumW] at this;omega
  rw [Tm.enc_eq t]
  refine eq42 _ _ _ _ (eq17 _ (by rw [List.length_map];omega) (fun x hx=>?_))
  obtain ⟨y,hy,rfl⟩:=List.mem_map.1 hx
  exact ⟨Tm.enc_len y,ih y hy (by have:=wt_args hy;omega)⟩
def smF (f:FcV):Prop:=f.2.length≤12∧wtR (f.2.map V.enc)≤2000000∧∀v,v∈f.2→v.size≤5000
theorem V.mcnt_tm:∀v:V,Tm.mcnt v.tm=3 * v.size
 | .nil=>rfl
 | .var _=>rfl
 | .sym _=>rfl
 | .num _=>rfl
 | .pair a b=>by simp only [V.tm,Tm.mcnt,Tm.mcnts,V.size,V.mcnt_tm a,V.mcnt_tm b];omega
theorem mcnts_small:∀l:List V,(∀v,v∈l→v.size≤5000)→Tm.mcnts (l.map V.tm)≤15000 * l.length
 | [],_=>by simp [Tm.mcnts]
 | v :: r,h=>by
  have h1:=mcnts_small r (fun v hv=>h v (by simp [hv]))
  have h2:=h v (by simp)
  have h3:=V.mcnt_tm v
  simp only [List.map_cons,Tm.mcnts,List.length_cons];omega
theorem mcntF_small:∀l:List FcV,(∀f,f∈l→smF f)→Fc.mcnts (l.map FcV.fc)≤180001 * l.length
 | [],_=>by simp [Fc.mcnts]
 | f :: r,h=>by
  have h1:=mcntF_small r (fun v hv=>h v (by simp [hv]))
  have h2:=h f (by simp)
  have h3:=mcnts_small f.2 h2.2.2
  have h4:=h2.1
  have h5:(FcV.fc f).mcnt=1+Tm.mcnts (f.2.map V.tm):=rfl
  simp only [List.map_cons,Fc.mcnts,List.length_cons];omega
theorem fcE_map (l:List FcV):l.map fcE=(l.map FcV.fc).map Fc.enc:=by rw [List.map_map];rfl
theorem eqFcS_of (l:List FcV) (hm:l.length≤1000000) (hw:∀f,f∈l→smF f):Gives Tryz.prog 18 [.sl (l.map fcE),.sl (l.map fcE)] (.d (.bool true)):=by
 have hmx:maxLen=9223372036854775807:=rfl
 refine eq18 (l.map fcE) (by rw [List.length_map];omega) (fun x hx=>?_)
 obtain ⟨f,hf,rfl⟩:=List.mem_map.1 hx
 refine ⟨fcE_len f,?_⟩
 obtain ⟨h1,h2,_⟩:=hw f hf
 rw [fcE_eq]
 refine eq23 _ _ (eq17 _ (by rw [List.length_map];omega) (fun x hx=>?_))
 obtain ⟨v,hv,rfl⟩:=List.mem_map.1 hx
 refine ⟨V.enc_len v,?_⟩
 have h3:=wtR_mem (l:=f.2.map V.enc) hx
 exact eqTm2_fn v.tm (Nat.le_trans h3 h2)
theorem small_of {u:List V} (hu:Uni u) {l:List FcV} (h:∀f,f∈l→(∀v,v∈f.2→v∈u)∧f.2.length≤12):∀f,f∈l→smF f:=fun f hf=>by
 refine ⟨(h f hf).2,oksU_wt hu h f hf,fun v hv=>?_⟩
 have:=hu.ok v ((h f hf).1 v hv)
 unfold V.ok at this
 simp only [Bool.and_eq_true,decide_eq_true_eq] at this
 exact this.2
theorem posO_small {p:Pg} {u:List Tm} {rs:List RV} (h:posO p u=some rs) (k:Nat):(stg rs k).length≤2000∧∀f,f∈stg rs k→smF f:=by
 have hl:=(posO_some h).1
 have hs:=stg_len rs k
 unfold posO at h
 split at h
 ·rename_i h12
  obtain ⟨hu,_⟩:=Uni.of h12.2
  exact ⟨by omega,small_of hu (stg_head (all_ok h12.1) hu h k)⟩
 ·cases h
end Go.Proofs.YtockpdkdnlkkfaaGreat
