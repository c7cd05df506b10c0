import Derived.Test.YthilkmjkgpdngaaGreatW105
open List renaming all_cons→a_,all_nil→c_
open Bool renaming true_and→b_
namespace Go.Proofs.YthilkmjkgpdngaaGreat
open Go.Abs
set_option maxRecDepth 100000
set_option maxHeartbeats 4000000
set_option linter.unusedSimpArgs false
set_option linter.unusedVariables false
theorem cmpD (a b:V):decide (a.cmp b=0)=decide (a=b):=by
 rw [Bool.eq_iff_iff,decide_eq_true_eq,decide_eq_true_eq];exact V.cmp_zero a b
theorem memD (x y:V) (q:List V):decide (x∈y :: q)=(decide (y=x) || decide (x∈q)):=by
 rw [Bool.eq_iff_iff]
 simp only [decide_eq_true_eq,Bool.or_eq_true,List.mem_cons]
 exact ⟨fun h=>h.elim (fun e=>.inl e.symm) .inr,fun h=>h.elim (fun e=>.inl e.symm) .inr⟩
theorem tmodN (a b:Nat):(a:Int).tmod (b:Int)=((a % b:Nat):Int):=by rw [Int.tmod_eq_emod_of_nonneg (by omega)];omega
theorem tdivN (a b:Nat):(a:Int).tdiv (b:Int)=((a / b:Nat):Int):=by rw [Int.tdiv_eq_ediv_of_nonneg (by omega)];omega
theorem inUniverse_fn (u l:List V) (hu:u.length≤1000000):Gives Tryz.prog 70 [.sl (u.map V.enc),.sl (l.map V.enc)] (.d (.bool (l.all fun t=>decide (t∈u)))):=by
 obtain ⟨K,hK⟩:∃K,(l.all fun t=>decide (t∈u))=K:=⟨_,rfl⟩
 rw [hK]
 refine aE_ Tryz.func70 ?_
 refine rS_ Tryz.func70 ?_
 simp only [go_sem,seval]
 refine AW.rng l [0,10,11] 12 10 (fun _:Unit=>[]) (fun H _=>H) (fun r _=>(r.all fun t=>decide (t∈u))=K) () rfl (by simp) hK wk2_ (fun i x r p hxi hdr hlt hm hinv hnext=>?_) (fun p hinv=>?_)
 ·rw [a_] at hinv
  refine rS_ Tryz.func70 ?_
  simp only [go_sem,seval,hlt,idx_of hxi]
  refine AW.rng u [0,6,10,11,12,16,17] 18 16 (fun b:Bool=>[(7,.d (.bool b))]) (fun H _=>H) (fun r b=>(b || decide (x∈r))=decide (x∈u)) false rfl (by simp) (by simp) wk1_ (fun j y q b hyj hdr2 hlt2 hm2 hinv2 hnext2=>?_) (fun b hinv2=>?_)
  ·have he:=equalTerms_fn y x
   rw [cmpD] at he
   rw [memD,←Bool.or_assoc] at hinv2
   cases b with
   | true =>
    refine rS_ Tryz.func70 ?_
    simp only [go_sem,seval,hlt2,idx_of hyj]
    repeat' (first
     | (simp (disch:=omega) only [wrap_ok])
     | (refine hnext2 true _ (by simpa using hinv2) wk1_)
     | fail)
   | false =>
    rw [Bool.false_or] at hinv2
    generalize decide (y=x)=b2 at he hinv2
    refine rS_ Tryz.func70 ?_
    simp only [go_sem,seval,hlt2,idx_of hyj]
    repeat' (first
     | (simp (disch:=omega) only [wrap_ok])
     | (refine hnext2 b2 _ hinv2 wk1_)
     | ((refine he.calls rfl ?_)<;>(try simp only [go_sem,seval,hlt2,idx_of hyj]))
     | fail)
  ·simp only [List.not_mem_nil,decide_false,Bool.or_false] at hinv2
   rw [←hinv2] at hinv
   cases b with
   | true =>
    rw [b_] at hinv
    refine rS_ Tryz.func70 ?_
    simp only [go_sem,seval]
    repeat' (first
     | (simp (disch:=omega) only [wrap_ok])
     | (refine hnext () _ hinv wk2_)
     | fail)
   | false =>
    rw [Bool.false_and] at hinv
    rw [←hinv]
    refine rS_ Tryz.func70 ?_
    simp only [go_sem,seval]
 ·rw [←hinv]
  refine rS_ Tryz.func70 ?_
  simp only [go_sem,seval]
  all_goals rfl
theorem l12Contains_fn (u:List V) (x:V) (hu:u.length≤1000000):Gives Tryz.prog 57 [.sl (u.map V.enc),.agg x.enc] (.d (.bool (decide (x∈u)))):=by
 obtain ⟨K,hK⟩:∃K,decide (x∈u)=K:=⟨_,rfl⟩
 rw [hK]
 refine aE_ Tryz.func57 ?_
 refine rS_ Tryz.func57 ?_
 simp only [go_sem,seval]
 refine AW.rng u [3,7,8] 9 7 (fun _:Unit=>[]) (fun H _=>H) (fun r _=>decide (x∈r)=K) () rfl (by simp) hK wk1_ (fun j y q b hyj hdr2 hlt2 hm2 hinv2 hnext2=>?_) (fun b hinv2=>?_)
 ·have he:=l02Same_fn y x
  rw [cmpD] at he
  rw [memD] at hinv2
  generalize decide (y=x)=b2 at he hinv2
  cases b2 with
  | true =>
   rw [Bool.true_or] at hinv2
   rw [←hinv2]
   refine rS_ Tryz.func57 ?_
   simp only [go_sem,seval,hlt2,idx_of hyj]
   repeat' (first
    | ((refine he.calls rfl ?_)<;>(try simp only [go_sem,seval,hlt2,idx_of hyj]))
    | fail)
  | false =>
   rw [Bool.false_or] at hinv2
   refine rS_ Tryz.func57 ?_
   simp only [go_sem,seval,hlt2,idx_of hyj]
   repeat' (first
    | (simp (disch:=omega) only [wrap_ok])
    | (refine hnext2 () _ hinv2 wk1_)
    | ((refine he.calls rfl ?_)<;>(try simp only [go_sem,seval,hlt2,idx_of hyj]))
    | fail)
 ·rw [←hinv2]
  refine rS_ Tryz.func57 ?_
  simp only [go_sem,seval]
  all_goals rfl
theorem l18Inside_fn (fs:List FcV) (u:List V) (hu:u.length≤1000000):Gives Tryz.prog 25 [.sl (fs.map fcE),.sl (u.map V.enc)] (.d (.bool (fs.all (inUV u)))):=by
 obtain ⟨K,hK⟩:∃K,fs.all (inUV u)=K:=⟨_,rfl⟩
 rw [hK]
 refine aE_ Tryz.func25 ?_
 refine rS_ Tryz.func25 ?_
 simp only [go_sem,seval]
 refine AW.rng fs [1,9,10] 11 9 (fun _:Unit=>[]) (fun H _=>H) (fun r _=>r.all (inUV u)=K) () rfl (by simp) hK wk2_ (fun i x r p hxi hdr hlt hm hinv hnext=>?_) (fun p hinv=>?_)
 ·rw [a_] at hinv
  have hxe:=fcE_eq x
  have hin:inUV u x=x.2.all fun t=>decide (t∈u):=rfl
  rw [hin] at hinv
  generalize hL:x.2=L at *
  refine rS_ Tryz.func25 ?_
  simp only [go_sem,seval,hlt,idx_of hxi,hxe]
  refine AW.rng L [1,9,10,11,16,17] 18 16 (fun _:Unit=>[]) (fun H _=>H) (fun q _=>((q.all fun t=>decide (t∈u)) && r.all (inUV u))=K) () rfl (by simp) hinv wk1_ (fun j y q b hyj hdr2 hlt2 hm2 hinv2 hnext2=>?_) (fun b hinv2=>?_)
  ·have he:=l12Contains_fn u y hu
   rw [a_] at hinv2
   generalize decide (y∈u)=b2 at he hinv2
   cases b2 with
   | true =>
    rw [b_] at hinv2
    refine rS_ Tryz.func25 ?_
    simp only [go_sem,seval,hlt2,idx_of hyj]
    repeat' (first
     | (simp (disch:=omega) only [wrap_ok])
     | (refine hnext2 () _ hinv2 wk1_)
     | ((refine he.calls rfl ?_)<;>(try simp only [go_sem,seval,hlt2,idx_of hyj]))
     | fail)
   | false =>
    simp only [Bool.false_and] at hinv2
    rw [←hinv2]
    refine rS_ Tryz.func25 ?_
    simp only [go_sem,seval,hlt2,idx_of hyj]
    repeat' (first
     | ((refine he.calls rfl ?_)<;>(try simp only [go_sem,seval,hlt2,idx_of hyj]))
     | fail)
  ·rw [c_,b_] at hinv2
   refine rS_ Tryz.func25 ?_
   simp only [go_sem,seval]
   repeat' (first
    | (simp (disch:=omega) only [wrap_ok])
    | (refine hnext () _ hinv2 wk2_)
    | fail)
 ·rw [←hinv]
  refine rS_ Tryz.func25 ?_
  simp only [go_sem,seval]
  all_goals rfl
theorem l08Values_fn (u:List V) (n k:Nat) (hu1:1≤u.length) (hu:u.length≤1000000) (hk:k≤1000000) (hn:n≤1000000):Gives Tryz.prog 24 [.sl (intsD ((List.range n).map fun i:Nat=>(i:Int))),.sl (u.map V.enc),.int .i64 k] (.d (.sl (bdD (gVals u n k)))):=by
 have hmx:maxLen=9223372036854775807:=rfl
 have hml:(u.map V.enc).length=u.length:=List.length_map _
 obtain ⟨G,hG⟩:∃G,gVals u n k=G:=⟨_,rfl⟩
 have hGl:G.length=n:=by rw [←hG];exact gVals_len u n k
 rw [hG]
 obtain ⟨zs,hzs⟩:∃zs:List Int,((List.range n).map fun i:Nat=>(i:Int))=zs:=⟨_,rfl⟩
 have hzl:zs.length=n:=by rw [←hzs];simp
 have hza:∀(i:Nat) (z:Int),zs[i]? = some z→z=(i:Int):=fun i z h=>by
  rw [←hzs,List.getElem?_map,Option.map_eq_some_iff] at h
  obtain ⟨j,h1,h2⟩:=h
  have h3:=(List.getElem?_eq_some_iff.1 h1).1
  rw [List.getElem?_range (by simpa using h3)] at h1
  cases h1;exact h2.symm
 rw [hzs]
 refine aE_ Tryz.func24 ?_
 refine run_sound Tryz.func24 mixed 5 _ _ (by kernel_rfl) ?_
 simp only [go_sem,seval,run.eq_1]
 refine AW.adopt 7 5 100 (by decide) rfl ?_
 refine rS_ Tryz.func24 ?_
 simp only [go_sem,seval,intsD_len]
 refine AW.rng zs [1,11,12] 13 11 (fun w:List V×Nat=>[(2,.d (.int .i64 (w.2:Int))),(7,.own 0 w.1.length)]) (fun _ w=>[.grow w.1.length 5 100 (bdD w.1)]) (fun r w=>w.1++gVals u r.length w.2=G∧w.1.length+r.length=n∧w.2≤k) ([],k) rfl (by simp [intsD,hzl]) ⟨by rw [hzl];exact hG,by simp [hzl],Nat.le_refl _⟩ (by refine ⟨by simp [mkS,bdD,bdsF],by simp [mkS,bdD,bdsF],by simp only [mkS,a_,c_,O.refsLt,C.refsLt,C.refsLt1,all_dmap];first | done | rfl | (simp;done),?_⟩;simp [mkS,Abs.get,C.refsLtT,C.refsLt,C.refsLt1,bdD,bdsF]) (fun i z r w hxi hdr hlt hm hinv hnext=>?_) (fun w hinv=>?_)
 ·obtain ⟨w,x⟩:=w
  obtain ⟨i1,i2,i3⟩:=hinv
  dsimp only at i1 i2 i3 hnext ⊢
  have hnx:=fun w' x' s'=>hnext (w',x') s'
  clear hnext
  have hdl:=congrArg List.length hdr
  simp only [List.length_drop,List.length_cons] at hdl i1 i2
  have hi:i=w.length:=by omega
  obtain rfl:=hza i z hxi
  have hxd:(intsD zs)[i]? = some [.int .i64 (i:Int)]:=by simp [intsD,hxi]
  have hm1:x % u.length<u.length:=Nat.mod_lt _ (by omega)
  obtain ⟨v,hv⟩:∃v,u[x % u.length]? = some v:=⟨_,List.getElem?_eq_getElem hm1⟩
  have hve:u.getD (x % u.length) .nil=v:=by rw [List.getD_eq_getElem?_getD,hv];rfl
  have hvd:(u.map V.enc)[x % u.length]? = some v.enc:=by rw [List.getElem?_map,hv];rfl
  have hdv:x / u.length≤x:=Nat.div_le_self _ _
  have hrm:=tmodN x u.length
  have hqd:=tdivN x u.length
  have h0:¬(u.length:Int)=0:=by omega
  have hre:gVals u (r.length+1) x=v :: gVals u r.length (x / u.length):=by rw [←hve];rfl
  rw [hre] at i1
  clear hve hre
  generalize x % u.length=xm at *
  generalize x / u.length=xq at *
  have w1:IntKind.i64.wrap (xq:Int)=(xq:Int):=wrap_ok (by omega) (by omega)
  have n2:(xm:Int)<(u.length:Int):=by omega
  have hbln:(bdD w).length=w.length:=by unfold bdD;rw [List.length_map,bdsF_len]
  have hbw5:∀y,y∈bdD w→y.length=5:=fun y hy=>by obtain ⟨b,_,rfl⟩:=List.mem_map.1 hy;exact Bd.enc_len b
  have hbs:bdD (w++[v])=bdD w++[[.int .i64 (i:Int),.int .i64 v.kind,.int .i64 v.int,.str v.name,.sl (v.kids.map V.enc)]]:=by
   unfold bdD
   rw [bdsF_snoc,List.map_append,List.map_cons,List.map_nil]
   congr 2
   rw [hi,Nat.zero_add]
   show [D.int .i64 _]++V.enc v=_
   rw [V.enc_eq];rfl
  have hhv:=V.enc_eq v
  generalize hBD:bdD w=BD at *
  refine rS_ Tryz.func24 ?_
  simp only [go_sem,seval,hlt,idx_of hxd,idx_of hvd,hrm,hqd,h0,w1,n2,hml,hhv]
  repeat' (first
   | (simp (disch:=omega) only [wrap_ok])
   | ((refine ⟨sd,?_⟩)<;>(try simp only [go_sem,seval,hlt,idx_of hxd,idx_of hvd,hrm,hqd,h0,w1,n2,hml,hhv]))
   | fail)
  refine hnx (w++[v]) xq _ ⟨by rw [←i1];simp,by simp;omega,by omega⟩ (by refine ⟨by simp [mkS,hbs],by simp [mkS,hbs],by simp only [mkS,a_,c_,O.refsLt,C.refsLt,C.refsLt1,all_dmap];first | done | rfl | (simp;done),?_⟩;simp [mkS,Abs.get,C.refsLtT,C.refsLt,C.refsLt1,hbs])
 ·obtain ⟨w,x⟩:=w
  obtain ⟨i1,i2,i3⟩:=hinv
  dsimp only [List.length_nil,gVals] at i1
  rw [List.append_nil] at i1
  dsimp only
  subst i1
  refine rS_ Tryz.func24 ?_
  simp only [go_sem,seval]
end Go.Proofs.YthilkmjkgpdngaaGreat
