import Derived.Test.YtockpdkdnlkkfaaGreatW107
namespace Go.Proofs.YtockpdkdnlkkfaaGreat
open Go.Abs
set_option maxRecDepth 100000
set_option maxHeartbeats 8000000
set_option linter.unusedSimpArgs false
set_option linter.unusedVariables false
theorem consequences_fn (rs:List RV) (F:List FcV) (hF:ascC FcV.cmp F) (hl:F.length≤9000000) (hr:rs.length≤2000000):Gives Tryz.prog 59 [.sl (rs.map rvE),.sl (F.map fcE)] (.d (.sl ((nextF rs F F).map fcE))):=by
 have hmx:maxLen=9223372036854775807:=rfl
 have hhf:∀f:FcV,Gives Tryz.prog 40 [.sl (F.map fcE),.agg [.str f.1,.sl (f.2.map V.enc)]] (.d (.bool (decide (f∈F)))):=fun f=>by
  have h:=hasFact_fn F f hl hF
  rw [fcE_eq] at h;exact h
 obtain ⟨RES,hRES⟩:∃RES,nextF rs F F=RES:=⟨_,rfl⟩
 rw [hRES]
 refine ACalls.enter (fn:=Tryz.f59) Tryz.func59 rfl (by show 2≤_;decide) ?_
 refine run_sound Tryz.func59 mixed 200 _ _ (by kernel_rfl) ?_
 simp only [go_sem,seval]
 refine AW.adopt 5 2 48 (by decide) rfl ?_
 refine AW.rng rs [1,14,15] 16 14 (fun L:List FcV=>[(5,.own 0 L.length)]) (fun _ L=>[.grow L.length 2 48 (L.map fcE)]) (fun r L=>∃d,rs=d++r∧L=(d.filter (RV.fires F F)).map RV.head) [] rfl (by simp) ⟨[],rfl,rfl⟩ (by refine ⟨by simp [mkS],by simp [mkS],by simp only [mkS,List.all_cons,List.all_nil,O.refsLt,C.refsLt,C.refsLt1,all_dmap];first | done | rfl | (simp;done),?_⟩;simp [mkS,Abs.get,C.refsLtT,C.refsLt,C.refsLt1]) (fun i x r L hxi hdr hlt hm hinv hnext=>?_) (fun L hinv=>?_)
 ·obtain ⟨d,d1,d2⟩:=hinv
  have hLl:L.length≤2000000:=by
   rw [d2,List.length_map]
   have h1:=List.length_filter_le (RV.fires F F) d
   have h2:=congrArg List.length d1
   simp at h2;omega
  have hfi:x.fires F F=(x.pos.all (fun f=>decide (f∈F)) && x.neg.all (fun f=>!decide (f∈F))):=by
   unfold RV.fires;simp
  have hnext:=fun (L':List FcV) s' (h:L'=L++(if x.fires F F=true then [x.head] else []))=>hnext L' s' ⟨d++[x],by rw [d1];simp,by rw [h,d2,List.filter_append,List.map_append];congr 1;cases hq:x.fires F F<;>simp [hq]⟩
  clear d1 d2
  refine run_sound Tryz.func59 mixed 200 _ _ (by kernel_rfl) ?_
  simp only [go_sem,seval,hlt,idx_of hxi,rvE_eq]
  refine AW.rng x.pos [1,5,7,14,15,16,21,22] 23 21 (fun b:Bool=>[(8,.d (.bool b))]) (fun _ b=>[.grow L.length 2 48 (L.map fcE),.box [.d (.str x.head.1),.d (.sl (x.head.2.map V.enc)),.d (.int .i64 x.clause),.d (.sl (x.values.map V.enc)),.d (.sl (x.pos.map fcE)),.d (.sl (x.neg.map fcE))]]) (fun r b=>∃d,x.pos=d++r∧b=d.all (fun f=>decide (f∈F))) true rfl (by simp) ⟨[],rfl,rfl⟩ (by refine ⟨by simp [mkS],by simp [mkS],by simp only [mkS,List.all_cons,List.all_nil,O.refsLt,C.refsLt,C.refsLt1,all_dmap];first | done | rfl | (simp;done),?_⟩;simp [mkS,Abs.get,C.refsLtT,C.refsLt,C.refsLt1]) (fun j f r1 b hfj hdj hltj hmj hinv hnj=>?_) (fun b hinv=>?_)
  ·obtain ⟨d,d1,d2⟩:=hinv
   have hh:=hhf f
   have hnj:=fun (b':Bool) s' (h:b'=(b && decide (f∈F)))=>hnj b' s' ⟨d++[f],by rw [d1];simp,by rw [h,d2,List.all_append];simp⟩
   clear d1 d2
   generalize decide (f∈F)=q at *
   cases b<;>· (
    refine run_sound Tryz.func59 mixed 200 _ _ (by kernel_rfl) ?_
    simp only [go_sem,seval,hltj,idx_of hfj,fcE_eq]
    repeat' (first
     | (simp (disch:=omega) only [wrap_ok])
     | ((refine hh.calls rfl ?_)<;>(try simp only [go_sem,seval,hltj,idx_of hfj,fcE_eq]))
     | fail)
    refine hnj _ _ rfl (by refine ⟨by simp [mkS],by simp [mkS],by simp only [mkS,List.all_cons,List.all_nil,O.refsLt,C.refsLt,C.refsLt1,all_dmap];first | done | rfl | (simp;done),?_⟩;simp [mkS,Abs.get,C.refsLtT,C.refsLt,C.refsLt1]))
  obtain ⟨d,d1,d2⟩:=hinv
  rw [List.append_nil] at d1
  subst d1
  refine run_sound Tryz.func59 mixed 200 _ _ (by kernel_rfl) ?_
  simp only [go_sem,seval]
  refine AW.rng x.neg [1,5,7,14,15,16,35,36] 37 35 (fun b:Bool=>[(8,.d (.bool b))]) (fun _ b=>[.grow L.length 2 48 (L.map fcE),.box [.d (.str x.head.1),.d (.sl (x.head.2.map V.enc)),.d (.int .i64 x.clause),.d (.sl (x.values.map V.enc)),.d (.sl (x.pos.map fcE)),.d (.sl (x.neg.map fcE))]]) (fun r b=>∃d,x.neg=d++r∧b=(x.pos.all (fun f=>decide (f∈F)) && d.all (fun f=>!decide (f∈F)))) b rfl (by simp) ⟨[],rfl,by rw [d2];simp⟩ (by refine ⟨by simp [mkS],by simp [mkS],by simp only [mkS,List.all_cons,List.all_nil,O.refsLt,C.refsLt,C.refsLt1,all_dmap];first | done | rfl | (simp;done),?_⟩;simp [mkS,Abs.get,C.refsLtT,C.refsLt,C.refsLt1]) (fun j f r1 b hfj hdj hltj hmj hinv hnj=>?_) (fun b hinv=>?_)
  ·obtain ⟨d,d1,d3⟩:=hinv
   have hh:=hhf f
   have hnj:=fun (b':Bool) s' (h:b'=(b && !decide (f∈F)))=>hnj b' s' ⟨d++[f],by rw [d1];simp,by rw [h,d3,List.all_append,Bool.and_assoc];simp⟩
   clear d1 d3 d2
   generalize decide (f∈F)=q at *
   cases b<;>· (
    refine run_sound Tryz.func59 mixed 200 _ _ (by kernel_rfl) ?_
    simp only [go_sem,seval,hltj,idx_of hfj,fcE_eq]
    repeat' (first
     | (simp (disch:=omega) only [wrap_ok])
     | ((refine hh.calls rfl ?_)<;>(try simp only [go_sem,seval,hltj,idx_of hfj,fcE_eq]))
     | fail)
    refine hnj _ _ rfl (by refine ⟨by simp [mkS],by simp [mkS],by simp only [mkS,List.all_cons,List.all_nil,O.refsLt,C.refsLt,C.refsLt1,all_dmap];first | done | rfl | (simp;done),?_⟩;simp [mkS,Abs.get,C.refsLtT,C.refsLt,C.refsLt1]))
  obtain ⟨d,d1,d3⟩:=hinv
  rw [List.append_nil] at d1
  subst d1
  rw [←hfi] at d3
  clear hfi d2
  cases b with
  | false =>
   refine run_sound Tryz.func59 mixed 200 _ _ (by kernel_rfl) ?_
   simp only [go_sem,seval]
   repeat' (first
    | (simp (disch:=omega) only [wrap_ok])
    | fail)
   refine hnext L _ (by rw [←d3];simp) (by refine ⟨by simp [mkS],by simp [mkS],by simp only [mkS,List.all_cons,List.all_nil,O.refsLt,C.refsLt,C.refsLt1,all_dmap];first | done | rfl | (simp;done),?_⟩;simp [mkS,Abs.get,C.refsLtT,C.refsLt,C.refsLt1])
  | true =>
   have hFe:=fcE_eq x.head
   refine run_sound Tryz.func59 mixed 200 _ _ (by kernel_rfl) ?_
   simp only [go_sem,seval]
   repeat' (first
    | (simp (disch:=omega) only [wrap_ok])
    | ((refine ⟨sd,?_⟩)<;>(try simp only [go_sem,seval]))
    | fail)
   refine hnext (L++[x.head]) _ (by rw [←d3];simp) (by refine ⟨by simp [mkS,hFe],by simp [mkS,hFe],by simp only [mkS,List.all_cons,List.all_nil,O.refsLt,C.refsLt,C.refsLt1,all_dmap];first | done | rfl | (simp;done),?_⟩;simp [mkS,Abs.get,C.refsLtT,C.refsLt,C.refsLt1,hFe])
 ·obtain ⟨d,d1,d2⟩:=hinv
  rw [List.append_nil] at d1
  subst d1
  have hLl:L.length≤2000000:=by
   rw [d2,List.length_map]
   exact Nat.le_trans (List.length_filter_le _ _) hr
  have hs:=sortFacts_fn L hLl
  rw [show sortC FcV.cmp L=RES from by rw [←hRES,d2];rfl] at hs
  refine AW.readG 5 0 rfl rfl ?_
  refine run_sound Tryz.func59 mixed 200 _ _ (by kernel_rfl) ?_
  simp only [go_sem,seval]
  repeat' (first
   | ((refine hs.calls rfl ?_)<;>(try simp only [go_sem,seval]))
   | fail)
end Go.Proofs.YtockpdkdnlkkfaaGreat
