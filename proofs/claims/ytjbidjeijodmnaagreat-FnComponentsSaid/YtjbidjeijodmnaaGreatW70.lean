import Derived.Test.YtjbidjeijodmnaaGreatW66
import Derived.Test.YtjbidjeijodmnaaGreatW8
namespace Go.Proofs.YtjbidjeijodmnaaGreat
open Go.Abs
set_option maxRecDepth 100000
set_option maxHeartbeats 4000000
set_option linter.unusedSimpArgs false
set_option linter.unusedVariables false
def H8 (pb:List D) (dn:List Int) (n e:Nat) (xs:List (List D)) (B:Nat→Prop) (ks:List Int) (sn:List Nat):List O:=[.hole,.box (pb.map .d),.map false (keysM dn),.tree n 1 e xs B none,.map false (keysM ks),.iter 4 ks.length ks.length sn,.hole]
theorem sortedInts_K (pb:List D) (dn:List Int) (n e:Nat) (xs:List (List D)) (B0:Nat→Prop) (ks:List Int) (sn:List Nat) (hn:ks.Nodup) (hl:ks.length≤4000000):ACalls Tryz.prog 22 [.map 4] (H8 pb dn n e xs B0 ks sn) (fun c H'=>c=.own 6 1∧∃B,H'=[.hole,.box (pb.map .d),.map false (keysM dn),.tree n 1 e xs B0 none,.map false (keysM ks),.iter 4 ks.length ks.length sn,.tree 1 1 3 (intsD (ascOf ks)) B none]):=by
 unfold H8
 refine ACalls.enter (fn:=Tryz.f22) Tryz.func22 rfl (by show 1≤_;decide) ?_
 refine run_sound Tryz.func22 mixed 200 _ _ (by kernel_rfl) ?_
 simp only [go_sem,seval]
 refine AW.adoptB 3 1 3 (by decide) rfl ?_
 refine AW.lp [7] (fun p:List Nat×List Int=>[(3,.own 8 p.2.length)]) (fun _ p=>[.hole,.box (pb.map .d),.map false (keysM dn),.tree n 1 e xs B0 none,.map false (keysM ks),.iter 4 ks.length ks.length sn,.hole,.iter 4 ks.length ks.length p.1,.buf p.2.length 1 3 (intsD p.2)]) (fun p=>p.1.Nodup∧(∀i,i∈p.1→i<ks.length)∧p.2=p.1.map (fun i=>ks.getD i 0)) (fun p=>ks.length - p.1.length) ([],[]) ⟨by simp,by simp,rfl⟩ (by refine ⟨by simp [mkS,keysM_len,intsD],by simp [mkS,keysM_len,intsD],by simp only [mkS,List.all_cons,List.all_nil,O.refsLt,C.refsLt,C.refsLt1,all_dmap];first | done | rfl | (simp;done),?_⟩;simp [mkS,Abs.get,C.refsLtT,C.refsLt,C.refsLt1]) ?_
 rintro ⟨seen,out⟩ ⟨h1,h2,h3⟩ hnext
 dsimp only at h1 h2 h3 hnext
 have hso:out.length=seen.length:=by rw [h3];simp
 have hle:=nodup_le ks.length seen h1 h2
 have hmx:maxLen=9223372036854775807:=rfl
 refine run_sound Tryz.func22 mixed 7 _ _ (by kernel_rfl) ?_
 simp only [go_sem,seval,run.eq_1]
 refine anyNext_intro (fun hall=>?_) (fun i p hp hns=>?_)
 ·have hpk:=picks_spec hn h1 h2 (fun i hi=>hall i (by rw [keysM_len];exact hi))
  rw [←h3] at hpk
  refine sort_calls Tryz.sort_Ints Tryz.sort_Ints_none (r:=8) (by omega) rfl ?_
  simp only [go_sem,seval,run.eq_1]
  rw [sort_asc hpk.1,ascOf_ext hpk.2]
  refine AW.bufT 3 8 rfl rfl (intsD_fl2 _) ?_
  refine AW.place 3 8 6 rfl rfl rfl (by decide) ?_
  refine run_sound Tryz.func22 mixed 200 _ _ (by kernel_rfl) ?_
  simp only [go_sem,seval]
  all_goals exact ⟨by simp only [all_dmap]<;>rfl,_,rfl⟩
 ·obtain ⟨k,hk,rfl⟩:=keysM_at hp
  have hik:=(List.getElem?_eq_some_iff.1 hk).1
  have hnd:(seen++[i]).Nodup:=by rw [List.nodup_append];exact ⟨h1,by simp,fun a ha b hb=>by simp at hb;subst hb;intro e;subst e;exact hns ha⟩
  have hlt:(seen++[i]).length≤ks.length:=nodup_le _ _ hnd (fun x hx=>by
   rcases List.mem_append.1 hx with hx | hx
   ·exact h2 x hx
   ·simp at hx;omega)
  simp only [List.length_append,List.length_cons,List.length_nil] at hlt
  refine run_sound Tryz.func22 mixed 200 _ _ (by kernel_rfl) ?_
  simp only [go_sem,seval,List.getLast?_concat,idx_of hp,idx_of hk,keysM_len,intsD_len]
  refine ⟨⟨by omega,by omega,hnext (seen++[i],out++[k]) _ ⟨hnd,?_,?_⟩ ?_ ?_⟩,hik⟩
  ·intro x hx
   rcases List.mem_append.1 hx with hx | hx
   ·exact h2 x hx
   ·simp at hx;omega
  ·simp only [List.map_append,h3,List.map_cons,List.map_nil]
   congr 2
   rw [List.getD_eq_getElem?_getD,hk];rfl
  ·simp only [List.length_append,List.length_cons,List.length_nil];omega
  ·exact by refine ⟨by simp [mkS,keysM_len,intsD_append,intsD_one],by simp [mkS,keysM_len,intsD_append,intsD_one],by simp only [mkS,List.all_cons,List.all_nil,O.refsLt,C.refsLt,C.refsLt1,all_dmap];first | done | rfl | (simp;done),?_⟩;simp [mkS,Abs.get,C.refsLtT,C.refsLt,C.refsLt1]
def cpV (p:Pg):List (List Int):=if pgOk p=true then cpsV (cRows p) else []
theorem keys_all {n:Nat} {ks:List Int} (hn:ks.Nodup) (hr:∀x,x∈ks→0≤x∧x<n) (hl:¬ks.length<n):∀i:Int,0≤i∧i<n→tkM ks i=true:=fun i hi=>by
 unfold tkM
 rw [decide_eq_true_eq]
 refine Classical.byContradiction fun h=>?_
 have:=int_nodup_le (n:=n) (l:=i :: ks) (List.nodup_cons.2 ⟨h,hn⟩) (fun x hx=>by
  rcases List.mem_cons.1 hx with rfl | hx
  ·exact hi
  ·exact hr x hx)
 simp only [List.length_cons] at this;omega
theorem iComponents_T (p:Pg) (hw:wtL p.enc≤1048576):ACalls Tryz.prog 5 [.d (.agg p.enc)] [.hole] (fun c H'=>c=.own 0 1∧∃e B,H'=[.tree 1 1 e ((cpV p).map encI2) B none]):=by
 have hmx:maxLen=9223372036854775807:=rfl
 unfold cpV
 by_cases hok:pgOk p=true
 ·obtain ⟨hC,ha,h8⟩:=cRows_ok hok
  have hcb:=calledBy_fn p hw
  have hR:=reach_R p hw hC h8
  have hcl:=cRows_len p
  rw [if_pos hok]
  generalize hMg:cRows p=M at *
  refine ACalls.enter (fn:=Tryz.f5) Tryz.func5 rfl (by show 1≤_;decide) ?_
  refine run_sound Tryz.func5 mixed 17 _ _ (by kernel_rfl) ?_
  simp only [go_sem,seval,run.eq_1,hok]
  repeat' (first
   | ((first
    | (refine hcb.calls rfl ?_)
    | (refine hR.frame (X:=[_,_]) rfl rfl ?_<;>(rintro c H' ⟨L,rfl,hL1,hL2⟩ hH0;obtain rfl:=List.eq_nil_of_length_eq_zero hH0))
    | (refine (iProgramOk_fn _ sd).calls rfl ?_))<;>(try simp only [go_sem,seval,hok,run.eq_1]))
   | fail)
  refine AW.adoptT 6 1 27 (by decide) rfl ?_
  refine AW.lp [1,3,4,5] (fun u:List Int×List (List Int)×(Nat→Prop)=>[(6,.own 3 u.2.1.length)]) (fun _ u=>[.hole,.box (p.enc.map .d),.map false (keysM u.1),.tree u.2.1.length 1 27 (u.2.1.map encI2) u.2.2 none]) (fun u=>u.1.Nodup∧(∀x,x∈u.1→0≤x∧x<M.length)∧Clsd M (tkM u.1)∧∃f,f+u.2.1.length=M.length∧u.2.1.length≤u.1.length∧u.2.1++cps M f (tkM u.1)=cpsV M) (fun u=>M.length - u.1.length) ([],[],fun _=>False) ⟨by simp,by simp,fun i k h=>by simp [tkM] at h,M.length,by simp,by simp,rfl⟩ (by refine ⟨by simp [mkS,keysM],by simp [mkS,keysM],by simp only [mkS,List.all_cons,List.all_nil,O.refsLt,C.refsLt,C.refsLt1,all_dmap];first | done | rfl | (simp;done),?_⟩;simp [mkS,Abs.get,C.refsLtT,C.refsLt,C.refsLt1]) ?_
  rintro ⟨dn,out,B⟩ ⟨hnd,hrg,hcs,f,hf1,hf2,hf3⟩ hnext
  dsimp only at hnd hrg hcs hf1 hf2 hf3 hnext ⊢
  have hdl:=int_nodup_le hnd hrg
  by_cases hlt0:dn.length<M.length
  ·have hlt1:(dn.length:Int)<(p.rels.length:Int):=by omega
   refine run_sound Tryz.func5 mixed 15 _ _ (by kernel_rfl) ?_
   simp only [go_sem,seval,run.eq_1,hlt1,keysM_len]
   refine AW.rng p.rels [1,3,4,5,34] 35 33 (fun _:Unit=>[(6,.own 3 out.length)]) (fun _ _=>[.hole,.box (p.enc.map .d),.map false (keysM dn),.tree out.length 1 27 (out.map encI2) B none]) (fun r _=>∀j:Nat,j+r.length<M.length→cpFree M (tkM dn) j=false) () rfl (by simp) (fun j h=>by omega) (by refine ⟨by simp [mkS],by simp [mkS],by simp only [mkS,List.all_cons,List.all_nil,O.refsLt,C.refsLt,C.refsLt1,all_dmap];first | done | rfl | (simp;done),?_⟩;simp [mkS,Abs.get,C.refsLtT,C.refsLt,C.refsLt1]) (fun i x r _ hxi hdr hlt hm hinv hnx=>?_) (fun _ hinv=>?_)
   ·have hrl:=congrArg List.length hdr
    simp only [List.length_drop,List.length_cons] at hrl
    have hi:i<M.length:=by omega
    have hstep:cpFree M (tkM dn) i=false→∀j:Nat,j+r.length<M.length→cpFree M (tkM dn) j=false:=fun h j hj=>by
     by_cases e:j=i
     ·subst e;exact h
     ·exact hinv j (by simp only [List.length_cons];omega)
    by_cases hdi:(i:Int)∈dn
    ·refine run_sound Tryz.func5 mixed 200 _ _ (by kernel_rfl) ?_
     simp only [go_sem,seval,hlt,mget_keys,hdi]
     repeat' (first
      | (simp (disch:=omega) only [wrap_ok])
      | fail)
     try simp (disch:=omega) only [wrap_ok]
     refine hnx () _ (hstep (by unfold cpFree tkM;simp [hdi])) (by refine ⟨by simp [mkS],by simp [mkS],by simp only [mkS,List.all_cons,List.all_nil,O.refsLt,C.refsLt,C.refsLt1,all_dmap];first | done | rfl | (simp;done),?_⟩;simp [mkS,Abs.get,C.refsLtT,C.refsLt,C.refsLt1])
    ·obtain ⟨Li,hLi⟩:∃Li,L[i]? = some Li:=⟨_,List.getElem?_eq_getElem (by omega)⟩
     have hfi:(L.map encF)[i]? = some [.fset Li]:=by rw [List.getElem?_map,hLi];rfl
     have hk0:∀x:Int,x∈[(i:Int)]↔x=i∨((0≤x∧x+p.rels.length<M.length)∧cpM M i x=true):=fun x=>by
      rw [List.mem_singleton]
      constructor
      ·exact .inl
      ·rintro (h | ⟨h,_⟩)
       ·exact h
       ·omega
     refine run_sound Tryz.func5 mixed 22 _ _ (by kernel_rfl) ?_
     simp only [go_sem,seval,run.eq_1,hlt,mget_keys,hdi]
     refine AW.rng p.rels [1,3,4,5,6,7,8,34,35,46] 47 45 (fun _:List Int=>[]) (fun _ ks=>[.hole,.box (p.enc.map .d),.map false (keysM dn),.tree out.length 1 27 (out.map encI2) B none,.map false (keysM ks)]) (fun r2 ks=>ks.Nodup∧∀x:Int,x∈ks↔x=i∨((0≤x∧x+r2.length<M.length)∧cpM M i x=true)) [(i:Int)] rfl (by simp) ⟨by simp,hk0⟩ (by refine ⟨by simp [mkS,keysM],by simp [mkS,keysM],by simp only [mkS,List.all_cons,List.all_nil,O.refsLt,C.refsLt,C.refsLt1,all_dmap];first | done | rfl | (simp;done),?_⟩;simp [mkS,Abs.get,C.refsLtT,C.refsLt,C.refsLt1]) (fun i2 x2 r2 ks hxi2 hdr2 hlt2 hm2 hinv2 hnx2=>?_) (fun ks hinv2=>?_)
     ·obtain ⟨hk1,hk2⟩:=hinv2
      have hrl2:=congrArg List.length hdr2
      simp only [List.length_drop,List.length_cons] at hrl2
      simp only [List.length_cons] at hk2
      obtain ⟨Lk,hLk⟩:∃Lk,L[i2]? = some Lk:=⟨_,List.getElem?_eq_getElem (by omega)⟩
      have hfk:(L.map encF)[i2]? = some [.fset Lk]:=by rw [List.getElem?_map,hLk];rfl
      have hA:decide ((i2:Int)∈Li)=rc M i i2:=by rw [Bool.eq_iff_iff,decide_eq_true_eq];exact hL2 i Li hLi i2
      have hB:decide ((i:Int)∈Lk)=rc M i2 i:=by rw [Bool.eq_iff_iff,decide_eq_true_eq];exact hL2 i2 Lk hLk i
      have hmem:∀x:Int,(x=i∨((0≤x∧x+r2.length<M.length)∧cpM M i x=true))↔(x=i∨((0≤x∧x+(r2.length+1:Nat)<M.length)∧cpM M i x=true))∨(x=i2∧rc M i i2=true∧rc M i2 i=true):=fun x=>by
       by_cases e:x=i2
       ·subst e
        rw [cpM_iff]
        constructor
        ·rintro (h | ⟨h,h | h⟩)
         ·exact .inl (.inl h)
         ·exact .inl (.inl h)
         ·exact .inr ⟨rfl,h⟩
        ·rintro ((h | ⟨h,h'⟩) | ⟨_,h⟩)
         ·exact .inl h
         ·omega
         ·exact .inr ⟨⟨by omega,by omega⟩,.inr h⟩
       ·constructor
        ·rintro (h | ⟨h,h'⟩)
         ·exact .inl (.inl h)
         ·exact .inl (.inr ⟨⟨h.1,by omega⟩,h'⟩)
        ·rintro ((h | ⟨h,h'⟩) | ⟨h,_⟩)
         ·exact .inl h
         ·exact .inr ⟨⟨h.1,by omega⟩,h'⟩
         ·exact absurd h e
      cases ha1:rc M i i2 with
      | false =>
       rw [ha1] at hA hmem
       refine run_sound Tryz.func5 mixed 200 _ _ (by kernel_rfl) ?_
       simp only [go_sem,seval,hlt2,idx_of hfi,idx_of hfk,hA]
       repeat' (first
        | (simp (disch:=omega) only [wrap_ok])
        | ((refine ⟨sd,?_⟩)<;>(try simp only [go_sem,seval,hlt2,idx_of hfi,idx_of hfk,hA]))
        | fail)
       try simp (disch:=omega) only [wrap_ok]
       refine hnx2 ks _ ⟨hk1,fun x=>by rw [hk2,hmem];simp⟩ (by refine ⟨by simp [mkS],by simp [mkS],by simp only [mkS,List.all_cons,List.all_nil,O.refsLt,C.refsLt,C.refsLt1,all_dmap];first | done | rfl | (simp;done),?_⟩;simp [mkS,Abs.get,C.refsLtT,C.refsLt,C.refsLt1])
      | true =>
       rw [ha1] at hA hmem
       cases hb1:rc M i2 i with
       | false =>
        rw [hb1] at hB hmem
        refine run_sound Tryz.func5 mixed 200 _ _ (by kernel_rfl) ?_
        simp only [go_sem,seval,hlt2,idx_of hfi,idx_of hfk,hA,hB]
        repeat' (first
         | (simp (disch:=omega) only [wrap_ok])
         | ((refine ⟨sd,?_⟩)<;>(try simp only [go_sem,seval,hlt2,idx_of hfi,idx_of hfk,hA,hB]))
         | fail)
        try simp (disch:=omega) only [wrap_ok]
        refine hnx2 ks _ ⟨hk1,fun x=>by rw [hk2,hmem];simp⟩ (by refine ⟨by simp [mkS],by simp [mkS],by simp only [mkS,List.all_cons,List.all_nil,O.refsLt,C.refsLt,C.refsLt1,all_dmap];first | done | rfl | (simp;done),?_⟩;simp [mkS,Abs.get,C.refsLtT,C.refsLt,C.refsLt1])
       | true =>
        rw [hb1] at hB hmem
        refine run_sound Tryz.func5 mixed 200 _ _ (by kernel_rfl) ?_
        simp only [go_sem,seval,hlt2,idx_of hfi,idx_of hfk,hA,hB,mset_keys]
        repeat' (first
         | (simp (disch:=omega) only [wrap_ok])
         | ((refine ⟨sd,?_⟩)<;>(try simp only [go_sem,seval,hlt2,idx_of hfi,idx_of hfk,hA,hB]))
         | fail)
        try simp (disch:=omega) only [wrap_ok]
        refine hnx2 (addK ks i2) _ ⟨addK_nodup hk1,fun x=>by rw [addK_mem,hk2,hmem];simp [or_comm]⟩ (by refine ⟨by simp [mkS],by simp [mkS],by simp only [mkS,List.all_cons,List.all_nil,O.refsLt,C.refsLt,C.refsLt1,all_dmap];first | done | rfl | (simp;done),?_⟩;simp [mkS,Abs.get,C.refsLtT,C.refsLt,C.refsLt1])
     ·obtain ⟨hk1,hk2⟩:=hinv2
      have hkc:∀x:Int,x∈ks↔x∈cpC M i:=fun x=>by
       rw [hk2,cpC_mem]
       constructor
       ·rintro (rfl | ⟨h,h'⟩)
        ·exact ⟨by omega,by simp [cpM]⟩
        ·exact ⟨⟨h.1,by simpa using h.2⟩,h'⟩
       ·rintro ⟨h,h'⟩
        exact .inr ⟨⟨h.1,by simpa using h.2⟩,h'⟩
      have hkl:=int_nodup_le (n:=M.length) hk1 (fun x hx=>(cpC_mem.1 ((hkc x).1 hx)).1)
      have hrd:∀sn:List Nat,sn.Nodup→(∀j,j∈sn→j<ks.length)→(∀j,j<ks.length→j∈sn)→(sn.all fun j=>(relRow M (ks.getD j 0)).all fun x=>decide (x∈ks) || decide (x∈dn))=cpRdy M (tkM dn) i:=fun sn s1 s2 s3=>by
       unfold cpRdy tkM
       rw [Bool.eq_iff_iff]
       simp only [List.all_eq_true,Bool.or_eq_true,decide_eq_true_eq]
       constructor
       ·intro h k hk x hx
        obtain ⟨j,hj⟩:=List.mem_iff_getElem?.1 ((hkc k).2 hk)
        have h1:=h j (s3 j (List.getElem?_eq_some_iff.1 hj).1) x (by rw [List.getD_eq_getElem?_getD,hj];exact hx)
        rw [hkc] at h1;exact h1
       ·intro h j hj x hx
        have h1:=s2 j hj
        rw [hkc]
        refine h (ks.getD j 0) ?_ x hx
        rw [←hkc,List.getD_eq_getElem?_getD,List.getElem?_eq_getElem h1]
        exact List.getElem_mem _
      refine run_sound Tryz.func5 mixed 12 _ _ (by kernel_rfl) ?_
      simp only [go_sem,seval,run.eq_1]
      refine AW.lp [1,3,4,5,6,8,34,35,68] (fun u:List Nat×Bool=>[(10,.d (.bool u.2))]) (fun _ u=>[.hole,.box (p.enc.map .d),.map false (keysM dn),.tree out.length 1 27 (out.map encI2) B none,.map false (keysM ks),.iter 4 ks.length ks.length u.1]) (fun u=>u.1.Nodup∧(∀j,j∈u.1→j<ks.length)∧u.2=u.1.all fun j=>(relRow M (ks.getD j 0)).all fun x=>decide (x∈ks) || decide (x∈dn)) (fun u=>ks.length - u.1.length) ([],true) ⟨by simp,by simp,rfl⟩ (by refine ⟨by simp [mkS,keysM_len],by simp [mkS,keysM_len],by simp only [mkS,List.all_cons,List.all_nil,O.refsLt,C.refsLt,C.refsLt1,all_dmap];first | done | rfl | (simp;done),?_⟩;simp [mkS,Abs.get,C.refsLtT,C.refsLt,C.refsLt1]) ?_
      rintro ⟨sn,rd⟩ ⟨hs1,hs2,hs3⟩ hnx3
      dsimp only at hs1 hs2 hs3 hnx3
      have hsl:=nodup_le ks.length sn hs1 hs2
      refine run_sound Tryz.func5 mixed 7 _ _ (by kernel_rfl) ?_
      simp only [go_sem,seval,run.eq_1]
      refine anyNext_intro (fun hall=>?_) (fun j pr hp hns=>?_)
      ·rw [hrd sn hs1 hs2 (fun j hj=>hall j (by rw [keysM_len];exact hj))] at hs3
       cases rd with
       | false =>
        have hfr:cpFree M (tkM dn) i=false:=by rw [←cpRdy_free hC hcs (by omega),←hs3,Bool.and_false]
        refine run_sound Tryz.func5 mixed 200 _ _ (by kernel_rfl) ?_
        simp only [go_sem,seval]
        repeat' (first
         | (simp (disch:=omega) only [wrap_ok])
         | fail)
        try simp (disch:=omega) only [wrap_ok]
        refine hnx () _ (hstep hfr) (by refine ⟨by simp [mkS],by simp [mkS],by simp only [mkS,List.all_cons,List.all_nil,O.refsLt,C.refsLt,C.refsLt1,all_dmap];first | done | rfl | (simp;done),?_⟩;simp [mkS,Abs.get,C.refsLtT,C.refsLt,C.refsLt1])
       | true =>
        have hfr:cpFree M (tkM dn) i=true:=by rw [←cpRdy_free hC hcs (by omega),←hs3,Bool.and_true];simp [tkM,hdi]
        have hnt:=cpNext_at hi hfr (fun j hj=>hinv j (by simp only [List.length_cons];omega))
        have e2:=sortedInts_K p.enc dn out.length 27 (out.map encI2) B ks sn hk1 (by omega)
        rw [asc_ext (ascOf_asc ks) (cpC_asc M i) (fun x=>by rw [ascOf_mem,hkc])] at e2
        unfold H8 at e2
        refine AW.hole ?_
        refine run_sound Tryz.func5 mixed 4 _ _ (by kernel_rfl) ?_
        simp only [go_sem,seval,run.eq_1]
        repeat' (first
         | ((refine ACalls.mono e2 ?_<;>(rintro c H' ⟨rfl,Bc,rfl⟩))<;>(try simp only [go_sem,seval,run.eq_1]))
         | fail)
        have hol:out.length≤8:=by omega
        refine AW.regP ?_
        simp only [go_sem,seval,List.length_map]
        repeat' (first
         | ((refine ⟨sd,?_⟩)<;>(try simp only [go_sem,seval,List.length_map]))
         | fail)
        refine all_intro (fun Bn=>?_)
        refine run_sound Tryz.func5 mixed 5 _ _ (by kernel_rfl) ?_
        simp only [go_sem,seval,run.eq_1]
        have hc8:=cpC_len M i
        have hci:(i:Int)∈cpC M i:=cpC_self (by omega)
        have hcr:∀x,x∈cpC M i→0≤x∧x<M.length:=fun x hx=>(cpC_mem.1 hx).1
        have htk:=tkM_take (C:=M) (ks:=dn) (i:=i)
        have hcl2:=cpTake_clsd hC hcs hfr
        have hcp:=fun f=>cps_some (f:=f) hnt
        generalize hc:cpC M i=c at *
        refine AW.lp [1,3,4,5,6,101,102] (fun u:Nat×List Int=>[(103,.d (.int .i64 u.1))]) (fun _ u=>[.hole,.box (p.enc.map .d),.map false (keysM u.2),.tree (out.length+1) 1 27 (out.map encI2++[[.sl (intsD c)]]) Bn (some (out.length,0,6,1)),.map false (keysM ks),.iter 4 ks.length ks.length sn,.tree 1 1 3 (intsD c) Bc none]) (fun u=>u.1≤c.length∧u.2=(c.take u.1).foldl addK dn) (fun u=>c.length - u.1) (0,dn) ⟨Nat.zero_le _,rfl⟩ (by refine ⟨by simp [mkS,keysM_len],by simp [mkS,keysM_len],by simp only [mkS,List.all_cons,List.all_nil,O.refsLt,C.refsLt,C.refsLt1,all_dmap];first | done | rfl | (simp;done),?_⟩;simp [mkS,Abs.get,C.refsLtT,C.refsLt,C.refsLt1]) ?_
        rintro ⟨j,dj⟩ ⟨hj,hdj⟩ hnx5
        dsimp only at hj hdj hnx5
        by_cases hjl:j<c.length
        ·have hjt:(j:Int)<(c.length:Int):=by omega
         have hxj:c[j]? = some c[j]:=List.getElem?_eq_getElem hjl
         have hai:=intsD_at hxj
         have htj:c.take (j+1)=c.take j++[c[j]]:=by rw [List.take_add_one,hxj];rfl
         generalize c[j]=x at *
         refine run_sound Tryz.func5 mixed 200 _ _ (by kernel_rfl) ?_
         simp only [go_sem,seval,hjt,idx_of hai,intsD_len,mset_keys]
         repeat' (first
          | (simp (disch:=omega) only [wrap_ok])
          | ((refine ⟨sd,?_⟩)<;>(try simp only [go_sem,seval,hjt,idx_of hai,intsD_len,mset_keys]))
          | fail)
         try simp (disch:=omega) only [wrap_ok]
         refine hnx5 (j+1,addK dj x) _ ⟨hjl,by dsimp only;rw [htj,List.foldl_append,hdj];rfl⟩ (by dsimp only;omega) (by refine ⟨by simp [mkS,keysM_len],by simp [mkS,keysM_len],by simp only [mkS,List.all_cons,List.all_nil,O.refsLt,C.refsLt,C.refsLt1,all_dmap];first | done | rfl | (simp;done),?_⟩;simp [mkS,Abs.get,C.refsLtT,C.refsLt,C.refsLt1])
        ·obtain rfl:j=c.length:=by omega
         rw [List.take_length] at hdj
         subst hdj
         refine run_sound Tryz.func5 mixed 12 _ _ (by kernel_rfl) ?_
         simp only [go_sem,seval,run.eq_1]
         refine AW.rejoin 3 6 rfl rfl (by decide) (fun B5=>?_)
         have hrow:((out.map encI2++[[D.sl (intsD c)]]).set out.length (((out.map encI2++[[D.sl (intsD c)]]).getD out.length []).set 0 (.sl (intsD c))))=(out++[c]).map encI2:=by
          rw [List.getD_eq_getElem?_getD,List.getElem?_append_right (by simp)]
          simp [encI2_eq]
         rw [hrow]
         obtain ⟨f,rfl⟩:∃f',f=f'+1:=⟨f - 1,by omega⟩
         have hgr:=foldK_grow hci hdi
         rw [hcp,←htk] at hf3
         rw [←htk] at hcl2
         refine hnext (c.foldl addK dn,out++[c],B5) _ ⟨foldK_nodup hnd,fun x hx=>?_,hcl2,f,by simp;omega,by simp;omega,by dsimp only;rw [←hf3];simp⟩ (by dsimp only;omega) (by refine ⟨by simp [mkS,List.length_append],by simp [mkS,List.length_append],by simp only [mkS,List.all_cons,List.all_nil,O.refsLt,C.refsLt,C.refsLt1,all_dmap];first | done | rfl | (simp;done),?_⟩;simp [mkS,Abs.get,C.refsLtT,C.refsLt,C.refsLt1,List.length_append])
         rcases foldK_mem.1 hx with hx | hx
         ·exact hcr x hx
         ·exact hrg x hx
      ·obtain ⟨k,hk,rfl⟩:=keysM_at hp
       have hjk:=(List.getElem?_eq_some_iff.1 hk).1
       have hkr:=(cpC_mem.1 ((hkc k).1 (List.mem_of_getElem? hk))).1
       have hnd3:(sn++[j]).Nodup:=by rw [List.nodup_append];exact ⟨hs1,by simp,fun a ha b hb=>by simp at hb;subst hb;intro e;subst e;exact hns ha⟩
       have hsr:∀x,x∈sn++[j]→x<ks.length:=fun x hx=>by
        rcases List.mem_append.1 hx with hx | hx
        ·exact hs2 x hx
        ·simp at hx;omega
       have hlt3:=nodup_le _ _ hnd3 hsr
       simp only [List.length_append,List.length_cons,List.length_nil] at hlt3
       obtain ⟨n,rfl⟩:∃n:Nat,k=n:=⟨k.toNat,by omega⟩
       have hrn:M[n]? = some (relRow M n):=by
        unfold relRow;rw [Int.toNat_natCast,List.getD_eq_getElem?_getD,List.getElem?_eq_getElem (by omega)];rfl
       have hgk:ks.getD j 0=(n:Int):=by rw [List.getD_eq_getElem?_getD,hk];rfl
       refine run_sound Tryz.func5 mixed 12 _ _ (by kernel_rfl) ?_
       simp only [go_sem,seval,run.eq_1,List.getLast?_concat,idx_of hp,idx_of hk,keysM_len,idx_of hrn,encI2_eq]
       refine ⟨⟨by omega,?_⟩,hjk⟩
       refine AW.rng (relRow M n) [1,3,4,5,6,8,34,35,68,76,77] 78 76 (fun b:Bool=>[(10,.d (.bool b))]) (fun H _=>H) (fun r4 b=>(b && r4.all fun x=>decide (x∈ks) || decide (x∈dn))=(rd && (relRow M n).all fun x=>decide (x∈ks) || decide (x∈dn))) rd rfl (by simp [intsD]) rfl (by refine ⟨by simp [mkS,keysM_len],by simp [mkS,keysM_len],by simp only [mkS,List.all_cons,List.all_nil,O.refsLt,C.refsLt,C.refsLt1,all_dmap];first | done | rfl | (simp;done),?_⟩;simp [mkS,Abs.get,C.refsLtT,C.refsLt,C.refsLt1]) (fun i4 x4 r4 b4 hxi4 hdr4 hlt4 hm4 hinv4 hnx4=>?_) (fun b4 hinv4=>?_)
       ·have hai:=intsD_at hxi4
        simp only [List.all_cons] at hinv4
        have hmk:=mget_keys x4 ks
        have hmd:=mget_keys x4 dn
        cases b4 with
        | false =>
         refine run_sound Tryz.func5 mixed 200 _ _ (by kernel_rfl) ?_
         simp only [go_sem,seval,hlt4,idx_of hai]
         repeat' (first
          | (simp (disch:=omega) only [wrap_ok])
          | fail)
         try simp (disch:=omega) only [wrap_ok]
         refine hnx4 false _ (by rw [←hinv4];simp) (by refine ⟨by simp [mkS,keysM_len],by simp [mkS,keysM_len],by simp only [mkS,List.all_cons,List.all_nil,O.refsLt,C.refsLt,C.refsLt1,all_dmap];first | done | rfl | (simp;done),?_⟩;simp [mkS,Abs.get,C.refsLtT,C.refsLt,C.refsLt1])
        | true =>
         by_cases hx4:x4∈ks
         ·refine run_sound Tryz.func5 mixed 200 _ _ (by kernel_rfl) ?_
          simp only [go_sem,seval,hlt4,idx_of hai,hmk,hx4]
          repeat' (first
           | (simp (disch:=omega) only [wrap_ok])
           | fail)
          try simp (disch:=omega) only [wrap_ok]
          refine hnx4 true _ (by rw [←hinv4];simp [hx4]) (by refine ⟨by simp [mkS,keysM_len],by simp [mkS,keysM_len],by simp only [mkS,List.all_cons,List.all_nil,O.refsLt,C.refsLt,C.refsLt1,all_dmap];first | done | rfl | (simp;done),?_⟩;simp [mkS,Abs.get,C.refsLtT,C.refsLt,C.refsLt1])
         ·by_cases hd4:x4∈dn
          ·refine run_sound Tryz.func5 mixed 200 _ _ (by kernel_rfl) ?_
           simp only [go_sem,seval,hlt4,idx_of hai,hmk,hx4,hmd,hd4]
           repeat' (first
            | (simp (disch:=omega) only [wrap_ok])
            | fail)
           try simp (disch:=omega) only [wrap_ok]
           refine hnx4 true _ (by rw [←hinv4];simp [hd4]) (by refine ⟨by simp [mkS,keysM_len],by simp [mkS,keysM_len],by simp only [mkS,List.all_cons,List.all_nil,O.refsLt,C.refsLt,C.refsLt1,all_dmap];first | done | rfl | (simp;done),?_⟩;simp [mkS,Abs.get,C.refsLtT,C.refsLt,C.refsLt1])
          ·refine run_sound Tryz.func5 mixed 200 _ _ (by kernel_rfl) ?_
           simp only [go_sem,seval,hlt4,idx_of hai,hmk,hx4,hmd,hd4]
           repeat' (first
            | (simp (disch:=omega) only [wrap_ok])
            | fail)
           try simp (disch:=omega) only [wrap_ok]
           refine hnx4 false _ (by rw [←hinv4];simp [hx4,hd4]) (by refine ⟨by simp [mkS,keysM_len],by simp [mkS,keysM_len],by simp only [mkS,List.all_cons,List.all_nil,O.refsLt,C.refsLt,C.refsLt1,all_dmap];first | done | rfl | (simp;done),?_⟩;simp [mkS,Abs.get,C.refsLtT,C.refsLt,C.refsLt1])
       ·simp only [List.all_nil,Bool.and_true] at hinv4
        refine run_sound Tryz.func5 mixed 200 _ _ (by kernel_rfl) ?_
        simp only [go_sem,seval]
        try simp (disch:=omega) only [wrap_ok]
        refine hnx3 (sn++[j],b4) _ ⟨hnd3,hsr,by rw [hinv4,hs3,List.all_append,List.all_cons,List.all_nil,Bool.and_true,hgk]⟩ (by simp only [List.length_append,List.length_cons,List.length_nil];omega) (by refine ⟨by simp [mkS,keysM_len],by simp [mkS,keysM_len],by simp only [mkS,List.all_cons,List.all_nil,O.refsLt,C.refsLt,C.refsLt1,all_dmap];first | done | rfl | (simp;done),?_⟩;simp [mkS,Abs.get,C.refsLtT,C.refsLt,C.refsLt1])
   ·exact absurd (cpNext_none fun j hj=>hinv j (by simpa using hj)) (keys_free hC hlt0)
  ·have hlt1:¬(dn.length:Int)<(p.rels.length:Int):=by omega
   have hnn:=cps_none (cpNext_done (keys_all hnd hrg hlt0)) f
   rw [hnn,List.append_nil] at hf3
   rw [hf3]
   refine AW.place 6 3 0 rfl rfl rfl (by decide) ?_
   refine run_sound Tryz.func5 mixed 200 _ _ (by kernel_rfl) ?_
   simp only [go_sem,seval,hlt1,keysM_len]
   repeat' (first
    | (exact ⟨_,_,rfl⟩)
    | fail)
 ·simp only [if_neg hok]
  simp only [Bool.not_eq_true] at hok
  refine ACalls.enter (fn:=Tryz.f5) Tryz.func5 rfl (by show 1≤_;decide) ?_
  refine run_sound Tryz.func5 mixed 8 _ _ (by kernel_rfl) ?_
  simp only [go_sem,seval,run.eq_1,hok]
  repeat' (first
   | ((refine (iProgramOk_fn _ sd).calls rfl ?_)<;>(try simp only [go_sem,seval,hok,run.eq_1]))
   | fail)
  refine AW.adoptT 2 1 27 (by decide) rfl ?_
  refine AW.place 2 2 0 rfl rfl rfl (by decide) ?_
  refine run_sound Tryz.func5 mixed 200 _ _ (by kernel_rfl) ?_
  simp only [go_sem,seval]
  repeat' (first
   | (exact ⟨_,_,rfl⟩)
   | fail)
end Go.Proofs.YtjbidjeijodmnaaGreat
