import Derived.Test.YthilkmjkgpdngaaGreatW19
import Derived.Test.YthilkmjkgpdngaaGreatW20
namespace Go.Proofs.YthilkmjkgpdngaaGreat
open Go.Abs
set_option maxRecDepth 100000
set_option maxHeartbeats 4000000
set_option linter.unusedSimpArgs false
set_option linter.unusedVariables false
theorem subs_wt {t:Gl} (h:wtL t.enc≤1048576):∀x,x∈t.subs→wtL x.enc≤1048576:=
 Gl.subs_ind (Q:=fun x=>wtL x.enc≤1048576) (fun t ht x hx=>by have:=Gl.wt_goals hx;omega) t h
theorem sClausesOf_fn (t:Gl) (hw:wtL t.enc≤1048576):Gives Tryz.prog 21 [.agg t.enc] (clsR (if glOk t=true∧t.clsS.length≤64 then some t.clsS else none)):=by
 have hmx:maxLen=9223372036854775807:=rfl
 have hlc:=l16Clauses_fn t hw
 have hcw:=Gl.cnt_le_wt t
 by_cases hok:glOk t=true
 ·by_cases hl:t.clsS.length≤64
  ·rw [if_pos ⟨hok,hl⟩]
   have hrow:=Gl.clsS_row t
   have hsw:=subs_wt hw
   generalize t.clsS=L at *
   refine aE_ Tryz.func21 ?_
   refine rS_ Tryz.func21 ?_
   simp only [go_sem,seval,hok]
   repeat' (first
    | ((refine br_n (fun hq=>?_) (fun hq=>?_))<;>(try simp only [go_sem,seval,hok,hq]))
    | ((first
     | (refine hlc.calls rfl ?_)
     | (refine (sGoalOk_fn _ sd).calls rfl ?_))<;>(try simp only [go_sem,seval,hok]))
    | fail)
   all_goals first | (exfalso;omega) | skip
   refine AW.adopt 5 1 50 (by decide) rfl ?_
   refine AW.rng L [17,18] 19 17 (fun p:Nat×List (List Gl)=>[(5,.own 1 p.1)]) (fun _ p=>[.box (t.enc.map .d),.grow p.1 1 50 (p.2.map encC)]) (fun r p=>p.2++r=L) (0,[]) rfl (by simp) rfl wk1_ (fun i c r p hxi hdr hlt hm hinv hnext=>?_) (fun p hinv=>?_)
   ·have hcm:=List.mem_of_getElem? hxi
    obtain ⟨hr1,hr2⟩:=hrow c hcm
    have hcc:=l16Copy_fn c (by omega) (fun x hx=>Nat.le_trans (hsw x (hr2 x hx)) (by decide))
    have hpl:p.2.length+(r.length+1)=L.length:=by rw [←hinv];simp
    refine rS_ Tryz.func21 ?_
    simp only [go_sem,seval,hlt,idx_of hxi,encC_eq]
    repeat' (first
     | (simp (disch:=omega) only [wrap_ok])
     | ((first
      | (refine hcc.calls rfl ?_)
      | (refine ⟨sd,?_⟩))<;>(try simp only [go_sem,seval,hlt,idx_of hxi,encC_eq]))
     | fail)
    refine hnext (p.1+1,p.2++[c]) _ (by simp [←hinv]) (by refine ⟨by simp [mkS,encC_eq],by simp [mkS,encC_eq],by simp only [mkS,List.all_cons,List.all_nil,O.refsLt,C.refsLt,C.refsLt1,all_dmap];first | done | rfl | (simp;done),?_⟩;simp [mkS,Abs.get,C.refsLtT,C.refsLt,C.refsLt1,encC_eq])
   ·simp only [List.append_nil] at hinv
    subst hinv
    refine rS_ Tryz.func21 ?_
    simp only [go_sem,seval]
    all_goals rfl
  ·rw [if_neg (by simp [hl])]
   refine aE_ Tryz.func21 ?_
   refine rS_ Tryz.func21 ?_
   simp only [go_sem,seval,hok]
   repeat' (first
    | ((refine br_n (fun hq=>?_) (fun hq=>?_))<;>(try simp only [go_sem,seval,hok,hq]))
    | ((first
     | (refine hlc.calls rfl ?_)
     | (refine (sGoalOk_fn _ sd).calls rfl ?_))<;>(try simp only [go_sem,seval,hok]))
    | fail)
   all_goals first | (exfalso;omega) | skip
   all_goals rfl
 ·simp only [Bool.not_eq_true] at hok
  rw [if_neg (by simp [hok])]
  refine aE_ Tryz.func21 ?_
  refine rS_ Tryz.func21 ?_
  simp only [go_sem,seval,hok]
  repeat' (first
   | ((refine (sGoalOk_fn _ sd).calls rfl ?_)<;>(try simp only [go_sem,seval,hok]))
   | fail)
  all_goals rfl
end Go.Proofs.YthilkmjkgpdngaaGreat
