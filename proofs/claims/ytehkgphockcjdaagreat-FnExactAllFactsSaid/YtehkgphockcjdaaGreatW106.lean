import Derived.Test.YtehkgphockcjdaaGreatW105
namespace Go.Proofs.YtehkgphockcjdaaGreat
open Go.Abs
set_option maxRecDepth 100000
set_option maxHeartbeats 4000000
set_option linter.unusedSimpArgs false
set_option linter.unusedVariables false
theorem tmodN (a b:Nat):(a:Int).tmod (b:Int)=((a % b:Nat):Int):=by rw [Int.tmod_eq_emod_of_nonneg (by omega)];omega
theorem tdivN (a b:Nat):(a:Int).tdiv (b:Int)=((a / b:Nat):Int):=by rw [Int.tdiv_eq_ediv_of_nonneg (by omega)];omega
theorem l08Values_fn (u:List V) (n k:Nat) (hu1:1≤u.length) (hu:u.length≤1000000) (hk:k≤1000000) (hn:n≤1000000):Gives Tryz.prog 22 [.sl (intsD ((List.range n).map fun i:Nat=>(i:Int))),.sl (u.map V.enc),.int .i64 k] (.d (.sl (bdD (gVals u n k)))):=by
 have hmx:maxLen=9223372036854775807:=rfl
 have hml:(u.map V.enc).length=u.length:=List.length_map _
 obtain ⟨G,hG⟩:∃G,gVals u n k=G:=⟨_,rfl⟩
 have hGl:G.length=n:=by rw [←hG];exact gVals_len u n k
 rw [hG]
 obtain ⟨zs,hzs⟩:∃zs:List Int,((List.range n).map fun i:Nat=>(i:Int))=zs:=⟨_,rfl⟩
 have hzl:zs.length=n:=by rw [←hzs];simp
 have hza:∀(i:Nat) (z:Int),zs[i]? = some z→z=(i:Int):=fun i z h=>by
  rw [←hzs,List.getElem?_map,Option.map_eq_some_iff] at h
  obtain ⟨j,h1,h2⟩:=h
  have h3:=(List.getElem?_eq_some_iff.1 h1).1
  rw [List.getElem?_range (by simpa using h3)] at h1
  cases h1;exact h2.symm
 rw [hzs]
 refine aE_ Tryz.func22 ?_
 refine run_sound Tryz.func22 mixed 5 _ _ (by kernel_rfl) ?_
 simp only [go_sem,seval,run.eq_1]
 refine AW.adopt 7 5 64 (by decide) rfl ?_
 refine rS_ Tryz.func22 ?_
 simp only [go_sem,seval,intsD_len]
 refine AW.rng zs [1,11,12] 13 11 (fun w:List V×Nat=>[(2,.d (.int .i64 (w.2:Int))),(7,.own 0 w.1.length)]) (fun _ w=>[.grow w.1.length 5 64 (bdD w.1)]) (fun r w=>w.1++gVals u r.length w.2=G∧w.1.length+r.length=n∧w.2≤k) ([],k) rfl (by simp [intsD,hzl]) ⟨by rw [hzl];exact hG,by simp [hzl],Nat.le_refl _⟩ (by refine ⟨by simp [mkS,bdD,bdsF],by simp [mkS,bdD,bdsF],by simp only [mkS,List.all_cons,List.all_nil,O.refsLt,C.refsLt,C.refsLt1,all_dmap];first | done | rfl | (simp;done),?_⟩;simp [mkS,Abs.get,C.refsLtT,C.refsLt,C.refsLt1,bdD,bdsF]) (fun i z r w hxi hdr hlt hm hinv hnext=>?_) (fun w hinv=>?_)
 ·obtain ⟨w,x⟩:=w
  obtain ⟨i1,i2,i3⟩:=hinv
  dsimp only at i1 i2 i3 hnext ⊢
  have hnx:=fun w' x' s'=>hnext (w',x') s'
  clear hnext
  have hdl:=congrArg List.length hdr
  simp only [List.length_drop,List.length_cons] at hdl i1 i2
  have hi:i=w.length:=by omega
  obtain rfl:=hza i z hxi
  have hxd:(intsD zs)[i]? = some [.int .i64 (i:Int)]:=by simp [intsD,hxi]
  have hm1:x % u.length<u.length:=Nat.mod_lt _ (by omega)
  obtain ⟨v,hv⟩:∃v,u[x % u.length]? = some v:=⟨_,List.getElem?_eq_getElem hm1⟩
  have hve:u.getD (x % u.length) .nil=v:=by rw [List.getD_eq_getElem?_getD,hv];rfl
  have hvd:(u.map V.enc)[x % u.length]? = some v.enc:=by rw [List.getElem?_map,hv];rfl
  have hdv:x / u.length≤x:=Nat.div_le_self _ _
  have hrm:=tmodN x u.length
  have hqd:=tdivN x u.length
  have h0:¬(u.length:Int)=0:=by omega
  have hre:gVals u (r.length+1) x=v :: gVals u r.length (x / u.length):=by rw [←hve];rfl
  rw [hre] at i1
  clear hve hre
  generalize x % u.length=xm at *
  generalize x / u.length=xq at *
  have w1:IntKind.i64.wrap (xq:Int)=(xq:Int):=wrap_ok (by omega) (by omega)
  have n2:(xm:Int)<(u.length:Int):=by omega
  have hbln:(bdD w).length=w.length:=by unfold bdD;rw [List.length_map,bdsF_len]
  have hbw5:∀y,y∈bdD w→y.length=5:=fun y hy=>by obtain ⟨b,_,rfl⟩:=List.mem_map.1 hy;exact Bd.enc_len b
  have hbs:bdD (w++[v])=bdD w++[[.int .i64 (i:Int),.int .i64 v.kind,.int .i64 v.int,.str v.name,.sl (v.kids.map V.enc)]]:=by
   unfold bdD
   rw [bdsF_snoc,List.map_append,List.map_cons,List.map_nil]
   congr 2
   rw [hi,Nat.zero_add]
   show [D.int .i64 _]++V.enc v=_
   rw [V.enc_eq];rfl
  have hhv:=V.enc_eq v
  generalize hBD:bdD w=BD at *
  refine rS_ Tryz.func22 ?_
  simp only [go_sem,seval,hlt,idx_of hxd,idx_of hvd,hrm,hqd,h0,w1,n2,hml,hhv]
  repeat' (first
   | (simp (disch:=omega) only [wrap_ok])
   | ((refine ⟨sd,?_⟩)<;>(try simp only [go_sem,seval,hlt,idx_of hxd,idx_of hvd,hrm,hqd,h0,w1,n2,hml,hhv]))
   | fail)
  refine hnx (w++[v]) xq _ ⟨by rw [←i1];simp,by simp;omega,by omega⟩ (by refine ⟨by simp [mkS,hbs],by simp [mkS,hbs],by simp only [mkS,List.all_cons,List.all_nil,O.refsLt,C.refsLt,C.refsLt1,all_dmap];first | done | rfl | (simp;done),?_⟩;simp [mkS,Abs.get,C.refsLtT,C.refsLt,C.refsLt1,hbs])
 ·obtain ⟨w,x⟩:=w
  obtain ⟨i1,i2,i3⟩:=hinv
  dsimp only [List.length_nil,gVals] at i1
  rw [List.append_nil] at i1
  dsimp only
  subst i1
  refine rS_ Tryz.func22 ?_
  simp only [go_sem,seval]
end Go.Proofs.YtehkgphockcjdaaGreat
