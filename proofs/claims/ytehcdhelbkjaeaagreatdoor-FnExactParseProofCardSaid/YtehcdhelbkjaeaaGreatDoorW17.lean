import Derived.Test.YtehcdhelbkjaeaaGreatDoorW4
import Derived.Test.YtehcdhelbkjaeaaGreatDoorA8
import Derived.Test.YtehcdhelbkjaeaaGreatDoorP3
open Option renaming isSome_some→a_,getD_some→b_
open List renaming mem_of_getElem?→c_,length_append→d_
namespace Go.Proofs.YtehcdhelbkjaeaaGreatDoor
open Go.Abs
set_option maxRecDepth 100000
set_option maxHeartbeats 4000000
set_option linter.unusedSimpArgs false
set_option linter.unusedVariables false
def encC (c:List Gl):List D:=[.sl (c.map Gl.enc)]
theorem encC_len (c:List Gl):(encC c).length=1:=rfl
theorem encC_eq (c:List Gl):encC c=[.sl (c.map Gl.enc)]:=rfl
def clsR (o:Option (List (List Gl))):C:=.tup [.d (.sl ((o.getD []).map encC)),.d (.bool o.isSome)]
theorem clsI_some {x:Gl} {l:List (List Gl)} (h:x.clsI=some l):l.length≤64∧∀c,c∈l→c.length≤x.cnt:=by
 rw [Gl.cls_same] at h
 split at h
 ·simp only [Option.some.injEq] at h
  subst h
  exact ⟨by assumption,fun c hc=>(Gl.clsS_row x c hc).1⟩
 ·cases h
theorem clausesOf_fn:∀t:Gl,wtL t.enc≤1048576→Gives Tryz.prog 77 [.agg t.enc] (clsR t.clsI):=by
 intro t
 induction t using Gl.ind' with
 | h t ih =>
  intro hw
  have hmx:maxLen=9223372036854775807:=rfl
  have hcn:=Gl.cnt_eq t
  have hcw:=Gl.cnt_le_wt t
  rw [Gl.clsI_eq]
  by_cases h0:t.kind=0
  ·rw [if_pos h0]
   refine aE_ Tryz.func77 ?_
   refine rS_ Tryz.func77 ?_
   simp only [go_sem,seval,h0]
   all_goals rfl
  ·rw [if_neg h0]
   by_cases h1:t.kind=1
   ·rw [if_pos h1]
    refine aE_ Tryz.func77 ?_
    refine rS_ Tryz.func77 ?_
    simp only [go_sem,seval,h0,h1]
    all_goals rfl
   ·rw [if_neg h1]
    by_cases h8:t.kind=8
    ·rw [if_pos h8]
     refine aE_ Tryz.func77 ?_
     refine rS_ Tryz.func77 ?_
     simp only [go_sem,seval,h0,h1,h8]
     refine AW.adopt 4 1 79 (by decide) rfl ?_
     refine AW.rng t.goals [34,35] 36 34 (fun p:Nat×List (List Gl)=>[(4,.own 1 p.1)]) (fun _ p=>[.box (t.enc.map .d),.grow p.1 1 79 (p.2.map encC)]) (fun r p=>p.2.length≤64∧Gl.orI r p.2=Gl.orI t.goals []) (0,[]) rfl (by simp) ⟨by simp,rfl⟩ wk1_ (fun i x r p hxi hdr hlt hm hinv hnext=>?_) (fun p hinv=>?_)
     ·have hxm:=c_ hxi
      obtain ⟨hi1,hi2⟩:=hinv
      have hx:=ih x hxm (by have:=Gl.wt_goals hxm;omega)
      simp only [Gl.orI] at hi2
      cases hcl:x.clsI with
      | none =>
       rw [hcl] at hx hi2
       dsimp only at hi2
       rw [←hi2]
       refine rS_ Tryz.func77 ?_
       simp only [go_sem,seval,hlt,idx_of hxi]
       repeat' (first
        | ((refine hx.calls rfl ?_)<;>(try simp only [go_sem,seval,hlt,idx_of hxi,clsR,Option.getD_none,Option.isSome_none]))
        | fail)
       all_goals rfl
      | some l =>
       obtain ⟨hl1,_⟩:=clsI_some hcl
       rw [hcl] at hx hi2
       dsimp only at hi2
       have hal:(p.2++l).length=p.2.length+l.length:=d_
       by_cases hb:64<(p.2++l).length
       ·rw [if_pos hb] at hi2
        rw [←hi2]
        have hlb:(64:Int)<p.2.length+l.length:=by omega
        refine rS_ Tryz.func77 ?_
        simp only [go_sem,seval,hlt,idx_of hxi]
        repeat' (first
         | ((refine br_n (fun hq=>?_) (fun hq=>?_))<;>(try simp only [go_sem,seval,hlt,idx_of hxi,clsR,b_,a_,encC_len,hq]))
         | (simp (disch:=omega) only [wrap_ok])
         | ((first
          | (refine hx.calls rfl ?_)
          | (refine ⟨sd,?_⟩))<;>(try simp only [go_sem,seval,hlt,idx_of hxi,clsR,b_,a_,encC_len]))
         | fail)
        all_goals first | (exfalso;omega) | skip
        all_goals rfl
       ·rw [if_neg hb] at hi2
        have hlb:¬(64:Int)<p.2.length+l.length:=by omega
        refine rS_ Tryz.func77 ?_
        simp only [go_sem,seval,hlt,idx_of hxi]
        repeat' (first
         | ((refine br_n (fun hq=>?_) (fun hq=>?_))<;>(try simp only [go_sem,seval,hlt,idx_of hxi,clsR,b_,a_,encC_len,hq]))
         | (simp (disch:=omega) only [wrap_ok])
         | ((first
          | (refine hx.calls rfl ?_)
          | (refine ⟨sd,?_⟩))<;>(try simp only [go_sem,seval,hlt,idx_of hxi,clsR,b_,a_,encC_len]))
         | fail)
        all_goals first | (exfalso;omega) | skip
        refine hnext (p.1+1,p.2++l) _ ⟨by show (p.2++l).length≤64;omega,hi2⟩ wk1_
     ·obtain ⟨hi1,hi2⟩:=hinv
      simp only [Gl.orI] at hi2
      rw [←hi2]
      refine rS_ Tryz.func77 ?_
      simp only [go_sem,seval]
      all_goals rfl
    ·rw [if_neg h8]
     by_cases h7:t.kind=7
     ·rw [if_pos h7]
      refine aE_ Tryz.func77 ?_
      refine rS_ Tryz.func77 ?_
      simp only [go_sem,seval,h0,h1,h8,h7]
      refine AW.rng t.goals [59,60] 61 59 (fun p:List (List Gl)=>[(9,.d (.bool false)),(4,.d (.sl (p.map encC)))]) (fun _ p=>[.box (t.enc.map .d)]) (fun r p=>p.length≤64∧Gl.andI r p=Gl.andI t.goals [[]]∧∀c,c∈p→c.length+Gl.cnts r≤Gl.cnts t.goals) [[]] rfl (by simp) ⟨by simp,rfl,by simp⟩ (by refine ⟨by simp [mkS,encC_eq],by simp [mkS,encC_eq],by simp only [mkS,List.all_cons,List.all_nil,O.refsLt,C.refsLt,C.refsLt1,all_dmap];first | done | rfl | (simp;done),?_⟩;simp [mkS,Abs.get,C.refsLtT,C.refsLt,C.refsLt1,encC_eq]) (fun i x r p hxi hdr hlt hm hinv hnext=>?_) (fun p hinv=>?_)
      ·have hxm:=c_ hxi
       obtain ⟨hi1,hi2,hi3⟩:=hinv
       have hx:=ih x hxm (by have:=Gl.wt_goals hxm;omega)
       simp only [Gl.andI] at hi2
       simp only [Gl.cnts] at hi3
       cases hcl:x.clsI with
       | none =>
        rw [hcl] at hx hi2
        dsimp only at hi2
        rw [←hi2]
        refine rS_ Tryz.func77 ?_
        simp only [go_sem,seval,hlt,idx_of hxi]
        repeat' (first
         | ((refine hx.calls rfl ?_)<;>(try simp only [go_sem,seval,hlt,idx_of hxi,clsR,Option.getD_none,Option.isSome_none]))
         | fail)
        all_goals rfl
       | some l =>
        obtain ⟨hl1,hl2⟩:=clsI_some hcl
        rw [hcl] at hx hi2
        dsimp only at hi2
        have hpl:=prodC_len p l
        have hpb:p.length * l.length≤64 * 64:=Nat.mul_le_mul hi1 hl1
        refine rS_ Tryz.func77 ?_
        simp only [go_sem,seval,hlt,idx_of hxi]
        repeat' (first
         | ((refine hx.calls rfl ?_)<;>(try simp only [go_sem,seval,hlt,idx_of hxi,clsR,b_,a_]))
         | fail)
        refine AW.adopt 14 1 79 (by decide) rfl ?_
        refine AW.rng p [9,12,59,60,61,73,74] 75 73 (fun u:Nat×List (List Gl)=>[(14,.own 2 u.1)]) (fun _ u=>[.box (t.enc.map .d),.box (x.enc.map .d),.grow u.1 1 79 (u.2.map encC)]) (fun ar u=>u.2++prodC ar l=prodC p l) (0,[]) rfl (by simp) rfl wk1_ (fun ia a ar u hai hda hal hma hua hna=>?_) (fun u hua=>?_)
        ·have ham:=c_ hai
         have hac:=hi3 a ham
         simp only [prodC,List.flatMap_cons] at hua
         refine rS_ Tryz.func77 ?_
         simp only [go_sem,seval,hal,idx_of hai,encC_eq]
         refine AW.rng l [9,12,16,59,60,61,73,74,75,79,80] 81 79 (fun v:Nat×List (List Gl)=>[(14,.own 2 v.1)]) (fun _ v=>[.box (t.enc.map .d),.box (x.enc.map .d),.grow v.1 1 79 (v.2.map encC)]) (fun br v=>v.2++(br.map (fun y=>a++y)++prodC ar l)=prodC p l) u rfl (by simp) hua wk1_ (fun ib b br v hbi hdb hbl hmb hvb hnb=>?_) (fun v hvb=>?_)
         ·have hbm:=c_ hbi
          have hbc:=hl2 b hbm
          have hvl:=congrArg List.length hvb
          simp only [d_,List.map_cons,List.length_cons] at hvl
          refine rS_ Tryz.func77 ?_
          simp only [go_sem,seval,hbl,idx_of hbi,encC_eq]
          repeat' (first
           | (simp (disch:=omega) only [wrap_ok])
           | ((refine ⟨sd,?_⟩)<;>(try simp only [go_sem,seval,hbl,idx_of hbi,encC_eq]))
           | fail)
          refine hnb (v.1+1,v.2++[a++b]) _ (by rw [←hvb];simp) (by refine ⟨by simp [mkS,encC_eq],by simp [mkS,encC_eq],by simp only [mkS,List.all_cons,List.all_nil,O.refsLt,C.refsLt,C.refsLt1,all_dmap];first | done | rfl | (simp;done),?_⟩;simp [mkS,Abs.get,C.refsLtT,C.refsLt,C.refsLt1,encC_eq])
         ·simp only [List.map_nil,List.nil_append] at hvb
          refine rS_ Tryz.func77 ?_
          simp only [go_sem,seval]
          repeat' (first
           | (simp (disch:=omega) only [wrap_ok])
           | fail)
          refine hna v _ hvb wk1_
        ·simp only [prodC,List.flatMap_nil,List.append_nil] at hua
         have hub:u.2.length=p.length * l.length:=by rw [hua];exact hpl
         refine AW.readG 14 2 rfl rfl ?_
         by_cases hb:64<(prodC p l).length
         ·rw [if_pos hb] at hi2
          rw [←hi2]
          have hlb:(64:Int)<(u.2.length:Int):=by omega
          refine rS_ Tryz.func77 ?_
          simp only [go_sem,seval,hlb]
          all_goals rfl
         ·rw [if_neg hb] at hi2
          have hlb:¬(64:Int)<(u.2.length:Int):=by omega
          refine rS_ Tryz.func77 ?_
          simp only [go_sem,seval,hlb]
          repeat' (first
           | (simp (disch:=omega) only [wrap_ok])
           | fail)
          have hu2:u.2=prodC p l:=hua
          refine hnext u.2 _ ⟨by omega,by rw [hu2];exact hi2,fun c hc=>?_⟩ wk1_
          rw [hu2] at hc
          obtain ⟨ca,cb,hca,hcb,rfl⟩:=mem_prodC hc
          have k1:=hi3 ca hca
          have k2:=hl2 cb hcb
          rw [d_];omega
      ·obtain ⟨hi1,hi2,_⟩:=hinv
       simp only [Gl.andI] at hi2
       rw [←hi2]
       refine rS_ Tryz.func77 ?_
       simp only [go_sem,seval]
       all_goals rfl
     ·rw [if_neg h7]
      refine aE_ Tryz.func77 ?_
      refine rS_ Tryz.func77 ?_
      simp only [go_sem,seval,h0,h1,h8,h7]
      all_goals rfl
end Go.Proofs.YtehcdhelbkjaeaaGreatDoor
