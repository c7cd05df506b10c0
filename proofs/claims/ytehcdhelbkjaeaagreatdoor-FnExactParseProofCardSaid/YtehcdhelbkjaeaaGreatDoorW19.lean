import Derived.Test.YtehcdhelbkjaeaaGreatDoorW17
open List renaming mem_of_getElem?→a_,length_append→b_
namespace Go.Proofs.YtehcdhelbkjaeaaGreatDoor
open Go.Abs
set_option maxRecDepth 100000
set_option maxHeartbeats 4000000
set_option linter.unusedSimpArgs false
set_option linter.unusedVariables false
theorem l16Clauses_fn:∀t:Gl,wtL t.enc≤1048576→Gives Tryz.prog 94 [.agg t.enc] (.d (.sl (t.clsS.map encC))):=by
 intro t
 induction t using Gl.ind' with
 | h t ih =>
  intro hw
  have hmx:maxLen=9223372036854775807:=rfl
  have hcn:=Gl.cnt_eq t
  have hcw:=Gl.cnt_le_wt t
  rw [Gl.clsS_eq]
  by_cases h0:t.kind=0
  ·simp only [if_pos h0]
   refine aE_ Tryz.func94 ?_
   refine rS_ Tryz.func94 ?_
   simp only [go_sem,seval,h0]
   all_goals rfl
  ·simp only [if_neg h0]
   by_cases h1:t.kind=1
   ·simp only [if_pos h1]
    refine aE_ Tryz.func94 ?_
    refine rS_ Tryz.func94 ?_
    simp only [go_sem,seval,h0,h1]
    all_goals rfl
   ·simp only [if_neg h1]
    by_cases h8:t.kind=8
    ·simp only [if_pos h8]
     refine aE_ Tryz.func94 ?_
     refine rS_ Tryz.func94 ?_
     simp only [go_sem,seval,h0,h1,h8]
     refine AW.adopt 3 1 79 (by decide) rfl ?_
     refine AW.rng t.goals [28,29] 30 28 (fun p:Nat×List (List Gl)=>[(3,.own 1 p.1)]) (fun _ p=>[.box (t.enc.map .d),.grow p.1 1 79 (p.2.map encC)]) (fun r p=>p.2.length+64 * Gl.cnts r≤64 * Gl.cnts t.goals∧Gl.orS r p.2=Gl.orS t.goals []) (0,[]) rfl (by simp) ⟨by simp,rfl⟩ wk1_ (fun i x r p hxi hdr hlt hm hinv hnext=>?_) (fun p hinv=>?_)
     ·have hxm:=a_ hxi
      obtain ⟨hi1,hi2⟩:=hinv
      have hx:=ih x hxm (by have:=Gl.wt_goals hxm;omega)
      have hxl:=Gl.clsS_len x
      have hxp:=x.cnt_pos
      simp only [Gl.orS] at hi2
      simp only [Gl.cnts] at hi1
      have hal:(p.2++x.clsS).length=p.2.length+x.clsS.length:=b_
      by_cases hb:64<x.clsS.length
      ·rw [if_pos hb] at hi2
       rw [←hi2]
       refine rS_ Tryz.func94 ?_
       simp only [go_sem,seval,hlt,idx_of hxi]
       repeat' (first
        | ((refine br_n (fun hq=>?_) (fun hq=>?_))<;>(try simp only [go_sem,seval,hlt,idx_of hxi,encC_len,hq]))
        | (simp (disch:=omega) only [wrap_ok])
        | ((first
         | (refine hx.calls rfl ?_)
         | (refine ⟨sd,?_⟩))<;>(try simp only [go_sem,seval,hlt,idx_of hxi,encC_len]))
        | fail)
       all_goals first | (exfalso;omega) | skip
      ·rw [if_neg hb] at hi2
       refine rS_ Tryz.func94 ?_
       simp only [go_sem,seval,hlt,idx_of hxi]
       repeat' (first
        | ((refine br_n (fun hq=>?_) (fun hq=>?_))<;>(try simp only [go_sem,seval,hlt,idx_of hxi,encC_len,hq]))
        | (simp (disch:=omega) only [wrap_ok])
        | ((first
         | (refine hx.calls rfl ?_)
         | (refine ⟨sd,?_⟩))<;>(try simp only [go_sem,seval,hlt,idx_of hxi,encC_len]))
        | fail)
       all_goals first | (exfalso;omega) | skip
       refine hnext (p.1+1,p.2++x.clsS) _ ⟨by dsimp only;omega,hi2⟩ wk1_
     ·obtain ⟨hi1,hi2⟩:=hinv
      simp only [Gl.orS] at hi2
      rw [←hi2]
      refine rS_ Tryz.func94 ?_
      simp only [go_sem,seval]
    ·simp only [if_neg h8]
     by_cases h7:t.kind=7
     ·simp only [if_pos h7]
      refine aE_ Tryz.func94 ?_
      refine rS_ Tryz.func94 ?_
      simp only [go_sem,seval,h0,h1,h8,h7]
      repeat' (first
       | ((refine ⟨sd,?_⟩)<;>(try simp only [go_sem,seval,h0,h1,h8,h7]))
       | fail)
      refine AW.readG 3 1 rfl rfl ?_
      refine AW.rng t.goals [52,53] 54 52 (fun p:List (List Gl)=>[(3,.d (.sl (p.map encC)))]) (fun _ p=>[.box (t.enc.map .d)]) (fun r p=>p.length≤64∧Gl.andS r p=Gl.andS t.goals [[]]∧∀c,c∈p→c.length+Gl.cnts r≤Gl.cnts t.goals) [[]] rfl (by simp) ⟨by simp,rfl,by simp⟩ (by refine ⟨by simp [mkS,encC_eq],by simp [mkS,encC_eq],by simp only [mkS,List.all_cons,List.all_nil,O.refsLt,C.refsLt,C.refsLt1,all_dmap];first | done | rfl | (simp;done),?_⟩;simp [mkS,Abs.get,C.refsLtT,C.refsLt,C.refsLt1,encC_eq]) (fun i x r p hxi hdr hlt hm hinv hnext=>?_) (fun p hinv=>?_)
      ·have hxm:=a_ hxi
       obtain ⟨hi1,hi2,hi3⟩:=hinv
       have hx:=ih x hxm (by have:=Gl.wt_goals hxm;omega)
       have hl2:∀c,c∈x.clsS→c.length≤x.cnt:=fun c hc=>(Gl.clsS_row x c hc).1
       simp only [Gl.andS] at hi2
       simp only [Gl.cnts] at hi3
       by_cases hb1:64<x.clsS.length
       ·rw [if_pos hb1] at hi2
        rw [←hi2]
        refine rS_ Tryz.func94 ?_
        simp only [go_sem,seval,hlt,idx_of hxi]
        repeat' (first
         | ((refine br_n (fun hq=>?_) (fun hq=>?_))<;>(try simp only [go_sem,seval,hlt,idx_of hxi,hq]))
         | ((refine hx.calls rfl ?_)<;>(try simp only [go_sem,seval,hlt,idx_of hxi]))
         | fail)
        all_goals first | (exfalso;omega) | skip
       ·rw [if_neg hb1] at hi2
        generalize x.clsS=l at *
        have hpl:=prodC_len p l
        have hpb:p.length * l.length≤64 * 64:=Nat.mul_le_mul hi1 (by omega)
        refine rS_ Tryz.func94 ?_
        simp only [go_sem,seval,hlt,idx_of hxi]
        repeat' (first
         | ((refine br_n (fun hq=>?_) (fun hq=>?_))<;>(try simp only [go_sem,seval,hlt,idx_of hxi,hq]))
         | ((refine hx.calls rfl ?_)<;>(try simp only [go_sem,seval,hlt,idx_of hxi]))
         | fail)
        all_goals first | (exfalso;omega) | skip
        refine AW.adopt 10 1 79 (by decide) rfl ?_
        refine AW.rng p [9,52,53,54,65,66] 67 65 (fun u:Nat×List (List Gl)=>[(10,.own 2 u.1)]) (fun _ u=>[.box (t.enc.map .d),.box (x.enc.map .d),.grow u.1 1 79 (u.2.map encC)]) (fun ar u=>u.2++prodC ar l=prodC p l) (0,[]) rfl (by simp) rfl wk1_ (fun ia a ar u hai hda hal hma hua hna=>?_) (fun u hua=>?_)
        ·have ham:=a_ hai
         have hac:=hi3 a ham
         simp only [prodC,List.flatMap_cons] at hua
         refine rS_ Tryz.func94 ?_
         simp only [go_sem,seval,hal,idx_of hai,encC_eq]
         refine AW.rng l [9,12,52,53,54,65,66,67,71,72] 73 71 (fun v:Nat×List (List Gl)=>[(10,.own 2 v.1)]) (fun _ v=>[.box (t.enc.map .d),.box (x.enc.map .d),.grow v.1 1 79 (v.2.map encC)]) (fun br v=>v.2++(br.map (fun y=>a++y)++prodC ar l)=prodC p l) u rfl (by simp) hua wk1_ (fun ib b br v hbi hdb hbl hmb hvb hnb=>?_) (fun v hvb=>?_)
         ·have hbm:=a_ hbi
          have hbc:=hl2 b hbm
          have hvl:=congrArg List.length hvb
          simp only [b_,List.map_cons,List.length_cons] at hvl
          refine rS_ Tryz.func94 ?_
          simp only [go_sem,seval,hbl,idx_of hbi,encC_eq]
          repeat' (first
           | (simp (disch:=omega) only [wrap_ok])
           | ((refine ⟨sd,?_⟩)<;>(try simp only [go_sem,seval,hbl,idx_of hbi,encC_eq]))
           | fail)
          refine hnb (v.1+1,v.2++[a++b]) _ (by rw [←hvb];simp) (by refine ⟨by simp [mkS,encC_eq],by simp [mkS,encC_eq],by simp only [mkS,List.all_cons,List.all_nil,O.refsLt,C.refsLt,C.refsLt1,all_dmap];first | done | rfl | (simp;done),?_⟩;simp [mkS,Abs.get,C.refsLtT,C.refsLt,C.refsLt1,encC_eq])
         ·simp only [List.map_nil,List.nil_append] at hvb
          refine rS_ Tryz.func94 ?_
          simp only [go_sem,seval]
          repeat' (first
           | (simp (disch:=omega) only [wrap_ok])
           | fail)
          refine hna v _ hvb wk1_
        ·simp only [prodC,List.flatMap_nil,List.append_nil] at hua
         have hub:u.2.length=p.length * l.length:=by rw [hua];exact hpl
         have hu2:u.2=prodC p l:=hua
         refine AW.readG 10 2 rfl rfl ?_
         by_cases hb:64<(prodC p l).length
         ·rw [if_pos hb] at hi2
          rw [←hi2]
          have hlb:(64:Int)<(u.2.length:Int):=by omega
          refine rS_ Tryz.func94 ?_
          simp only [go_sem,seval,hlb]
          all_goals rw [hu2]
         ·rw [if_neg hb] at hi2
          have hlb:¬(64:Int)<(u.2.length:Int):=by omega
          refine rS_ Tryz.func94 ?_
          simp only [go_sem,seval,hlb]
          repeat' (first
           | (simp (disch:=omega) only [wrap_ok])
           | fail)
          refine hnext u.2 _ ⟨by omega,by rw [hu2];exact hi2,fun c hc=>?_⟩ wk1_
          rw [hu2] at hc
          obtain ⟨ca,cb,hca,hcb,rfl⟩:=mem_prodC hc
          have k1:=hi3 ca hca
          have k2:=hl2 cb hcb
          rw [b_];omega
      ·obtain ⟨hi1,hi2,_⟩:=hinv
       simp only [Gl.andS] at hi2
       rw [←hi2]
       refine rS_ Tryz.func94 ?_
       simp only [go_sem,seval]
     ·simp only [if_neg h7]
      refine aE_ Tryz.func94 ?_
      refine rS_ Tryz.func94 ?_
      simp only [go_sem,seval,h0,h1,h8,h7]
      repeat' (first
       | ((refine ⟨sd,?_⟩)<;>(try simp only [go_sem,seval,h0,h1,h8,h7]))
       | fail)
      all_goals rfl
end Go.Proofs.YtehcdhelbkjaeaaGreatDoor
