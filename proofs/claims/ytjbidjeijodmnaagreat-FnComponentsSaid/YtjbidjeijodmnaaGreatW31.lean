import Derived.Test.YtjbidjeijodmnaaGreatW7
import Derived.Test.YtjbidjeijodmnaaGreatA8
import Derived.Test.YtjbidjeijodmnaaGreatP4
namespace Go.Proofs.YtjbidjeijodmnaaGreat
open Go.Abs
set_option maxRecDepth 100000
set_option maxHeartbeats 4000000
set_option linter.unusedSimpArgs false
set_option linter.unusedVariables false
theorem intsD_fl2 (l:List Int):∀x,x∈intsD l→∀d,d∈x→d.flat=true:=fun x hx d hd=>by
 obtain ⟨n,_,rfl⟩:=List.mem_map.1 hx
 simp at hd;subst hd;rfl
def encI2 (l:List Int):List D:=[.sl (intsD l)]
theorem encI2_eq (l:List Int):encI2 l=[.sl (intsD l)]:=rfl
def H7 (pb rb:List D) (n e:Nat) (xs:List (List D)) (B:Nat→Prop) (ks:List Int):List O:=[.hole,.box (pb.map .d),.tree n 1 e xs B none,.hole,.box (rb.map .d),.map false (keysM ks),.box [.map 5]]
theorem sortedInts_C (pb rb:List D) (n e:Nat) (xs:List (List D)) (B0:Nat→Prop) (ks:List Int) (hn:ks.Nodup) (hl:ks.length≤4000000):ACalls Tryz.prog 22 [.map 5] (H7 pb rb n e xs B0 ks) (fun c H'=>c=.own 3 1∧∃B,H'=[.hole,.box (pb.map .d),.tree n 1 e xs B0 none,.tree 1 1 3 (intsD (ascOf ks)) B none,.box (rb.map .d),.map false (keysM ks),.box [.map 5]]):=by
 unfold H7
 refine ACalls.enter (fn:=Tryz.f22) Tryz.func22 rfl (by show 1≤_;decide) ?_
 refine run_sound Tryz.func22 mixed 200 _ _ (by kernel_rfl) ?_
 simp only [go_sem,seval]
 refine AW.adoptB 3 1 3 (by decide) rfl ?_
 refine AW.lp [7] (fun p:List Nat×List Int=>[(3,.own 8 p.2.length)]) (fun _ p=>[.hole,.box (pb.map .d),.tree n 1 e xs B0 none,.hole,.box (rb.map .d),.map false (keysM ks),.box [.map 5],.iter 5 ks.length ks.length p.1,.buf p.2.length 1 3 (intsD p.2)]) (fun p=>p.1.Nodup∧(∀i,i∈p.1→i<ks.length)∧p.2=p.1.map (fun i=>ks.getD i 0)) (fun p=>ks.length - p.1.length) ([],[]) ⟨by simp,by simp,rfl⟩ (by refine ⟨by simp [mkS],by simp [mkS,keysM_len,intsD],by simp only [mkS,List.all_cons,List.all_nil,O.refsLt,C.refsLt,C.refsLt1,all_dmap];first | done | rfl | (simp;done),?_⟩;simp [mkS,Abs.get,C.refsLtT,C.refsLt,C.refsLt1]) ?_
 rintro ⟨seen,out⟩ ⟨h1,h2,h3⟩ hnext
 dsimp only at h1 h2 h3 hnext
 have hso:out.length=seen.length:=by rw [h3];simp
 have hle:=nodup_le ks.length seen h1 h2
 have hmx:maxLen=9223372036854775807:=rfl
 refine run_sound Tryz.func22 mixed 7 _ _ (by kernel_rfl) ?_
 simp only [go_sem,seval,run.eq_1]
 refine anyNext_intro (fun hall=>?_) (fun i p hp hns=>?_)
 ·have hpk:=picks_spec hn h1 h2 (fun i hi=>hall i (by rw [keysM_len];exact hi))
  rw [←h3] at hpk
  refine sort_calls Tryz.sort_Ints Tryz.sort_Ints_none (r:=8) (by omega) rfl ?_
  simp only [go_sem,seval,run.eq_1]
  rw [sort_asc hpk.1,ascOf_ext hpk.2]
  refine AW.bufT 3 8 rfl rfl (intsD_fl2 _) ?_
  refine AW.place 3 8 3 rfl rfl rfl (by decide) ?_
  refine run_sound Tryz.func22 mixed 200 _ _ (by kernel_rfl) ?_
  simp only [go_sem,seval]
  all_goals exact ⟨by simp only [all_dmap];rfl,_,rfl⟩
 ·obtain ⟨k,hk,rfl⟩:=keysM_at hp
  have hik:=(List.getElem?_eq_some_iff.1 hk).1
  have hnd:(seen++[i]).Nodup:=by rw [List.nodup_append];exact ⟨h1,by simp,fun a ha b hb=>by simp at hb;subst hb;intro e;subst e;exact hns ha⟩
  have hlt:(seen++[i]).length≤ks.length:=nodup_le _ _ hnd (fun x hx=>by
   rcases List.mem_append.1 hx with hx | hx
   ·exact h2 x hx
   ·simp at hx;omega)
  simp only [List.length_append,List.length_cons,List.length_nil] at hlt
  refine run_sound Tryz.func22 mixed 200 _ _ (by kernel_rfl) ?_
  simp only [go_sem,seval,List.getLast?_concat,idx_of hp,idx_of hk,keysM_len,intsD_len]
  refine ⟨⟨by omega,by omega,hnext (seen++[i],out++[k]) _ ⟨hnd,?_,?_⟩ ?_ ?_⟩,hik⟩
  ·intro x hx
   rcases List.mem_append.1 hx with hx | hx
   ·exact h2 x hx
   ·simp at hx;omega
  ·simp only [List.map_append,h3,List.map_cons,List.map_nil]
   congr 2
   rw [List.getD_eq_getElem?_getD,hk];rfl
  ·simp only [List.length_append,List.length_cons,List.length_nil];omega
  ·refine ⟨by simp [mkS],by simp [mkS,keysM_len,intsD_append,intsD_one],by simp only [mkS,List.all_cons,List.all_nil,O.refsLt,C.refsLt,C.refsLt1,all_dmap];first | done | rfl | (simp;done),?_⟩;simp [mkS,Abs.get,C.refsLtT,C.refsLt,C.refsLt1]
def stepC (p:Pg) (ks:List Int) (x:Gl):List Int:=if x.kind=9 then addK ks (p.find x.name) else ks
theorem cb1_clo (p:Pg) (rb:List D) (n e:Nat) (xs:List (List D)) (B0:Nat→Prop):Clo Tryz.prog 41 [.ptr 6 0,.ptr 1 0] 7 (fun x:Gl=>D.agg x.enc) (fun ks:List Int=>H7 p.enc rb n e xs B0 ks) (fun _=>True) (stepC p):=by
 refine ⟨by kernel_rfl,rfl,fun _=>rfl,fun a=>by simp only [H7,List.all_cons,List.all_nil,O.refsLt,all_dmap];rfl,fun a x _=>?_⟩
 unfold H7 stepC
 by_cases h9:x.kind=9
 ·rw [if_pos h9]
  refine ACalls.enter (fn:=Tryz.f41) Tryz.func41 rfl (by show 3≤_;decide) ?_
  refine run_sound Tryz.func41 mixed 5 _ _ (by kernel_rfl) ?_
  simp only [go_sem,seval,run.eq_1,h9]
  refine AW.drawA mixed #[true,true,true,true,true,false] [(1,.box (p.enc.map .d)),(6,.box [.map 5]),(7,.box (x.enc.map .d))] [] [0,1,2,3,4] [5] none (by kernel_rfl) trivial (by simp [holdsB]) ?_
  simp only [go_sem,seval]
  repeat' (first
   | ((refine (relation_fn p _).calls rfl ?_)<;>(try simp only [go_sem,seval]))
   | fail)
  refine run_sound Tryz.func41 mixed 200 _ _ (by kernel_rfl) ?_
  simp only [go_sem,seval]
  all_goals simp [mset_keys,O.refsLt,C.refsLt,C.refsLt1,all_dmap,all_dcomp]
 ·rw [if_neg h9]
  refine ACalls.enter (fn:=Tryz.f41) Tryz.func41 rfl (by show 3≤_;decide) ?_
  refine run_sound Tryz.func41 mixed 200 _ _ (by kernel_rfl) ?_
  simp only [go_sem,seval,h9]
  all_goals simp [O.refsLt,C.refsLt,C.refsLt1,all_dmap,all_dcomp]
theorem stepC_fold (p:Pg):∀(l:List Gl) (ks:List Int),l.foldl (stepC p) ks=(((l.filter fun x=>decide (x.kind=9)).map Gl.name).map p.find).foldl addK ks
 | [],ks=>rfl
 | x :: r,ks=>by
  rw [List.foldl_cons,stepC_fold p r,List.filter_cons]
  unfold stepC
  by_cases h9:x.kind=9<;>simp [h9]
theorem subs_len:∀t:Gl,t.subs.length≤t.cnt:=by
 intro t
 induction t using Gl.ind' with
 | h t ih =>
  have key:∀l:List Gl,(∀x,x∈l→x∈t.goals)→(Gl.subss l).length≤Gl.cnts l:=by
   intro l
   induction l with
   | nil=>intro _;simp [Gl.subss]
   | cons x r ihr =>
    intro hl
    have h1:=ih x (hl x (by simp))
    have h2:=ihr (fun y hy=>hl y (by simp [hy]))
    simp only [Gl.subss,Gl.cnts,List.length_append];omega
  rw [Gl.subs_eq,Gl.cnt_eq,List.length_cons]
  have:=key t.goals (fun x hx=>hx)
  omega
theorem calledBy_T (p:Pg) (hw:wtL p.enc≤1048576):ACalls Tryz.prog 20 [.d (.agg p.enc)] [.hole] (fun c H'=>c=.own 0 1∧∃e B,H'=[.tree 1 1 e ((p.rels.map fun r=>p.rowI r.body).map encI2) B none]):=by
 have hmx:maxLen=9223372036854775807:=rfl
 have hwr:wtR (p.rels.map Rl.enc)≤1048576:=by simpa only [Pg.enc_eq,wtL,D.wt,Nat.add_zero] using hw
 have hlen:p.rels.length≤1048576:=by
  have:=sumW_le (p.rels.map Rl.enc) 0;simp [sumW] at this;omega
 refine ACalls.enter (fn:=Tryz.f20) Tryz.func20 rfl (by show 1≤_;decide) ?_
 refine run_sound Tryz.func20 mixed 5 _ _ (by kernel_rfl) ?_
 simp only [go_sem,seval,run.eq_1]
 refine AW.adoptT 3 1 27 (by decide) rfl ?_
 refine run_sound Tryz.func20 mixed 200 _ _ (by kernel_rfl) ?_
 simp only [go_sem,seval]
 refine AW.rng p.rels [1,9,10] 11 9 (fun u:List (List Int)×(Nat→Prop)=>[(3,.own 2 u.1.length)]) (fun _ u=>[.hole,.box (p.enc.map .d),.tree u.1.length 1 27 (u.1.map encI2) u.2 none]) (fun r u=>u.1++r.map (fun r=>p.rowI r.body)=p.rels.map fun r=>p.rowI r.body) ([],fun _=>False) rfl (by simp) rfl (by refine ⟨by simp [mkS],by simp [mkS],by simp only [mkS,List.all_cons,List.all_nil,O.refsLt,C.refsLt,C.refsLt1,all_dmap];first | done | rfl | (simp;done),?_⟩;simp [mkS,Abs.get,C.refsLtT,C.refsLt,C.refsLt1]) (fun i x r u hxi hdr hlt hm hinv hnext=>?_) (fun u hinv=>?_)
 ·have hxm:=List.mem_of_getElem? hxi
  have hul:=congrArg List.length hinv
  simp only [List.length_append,List.length_map,List.length_cons] at hul
  simp only [List.map_cons] at hinv
  have h:=cb1_clo p x.enc u.1.length 27 (u.1.map encI2) u.2
  have e1:=eachGoal_fn h x.body [] (fun _ _=>trivial)
  refine AW.hole ?_
  rw [stepC_fold] at e1
  have hns:(((x.body.subs.filter fun x=>decide (x.kind=9)).map Gl.name).map p.find).length≤1048577:=by
   have h1:=List.length_filter_le (fun x:Gl=>decide (x.kind=9)) x.body.subs
   have h2:=subs_len x.body
   have h3:=Gl.cnt_le_wt x.body
   have h4:=Rl.wt_body x
   have h5:=Pg.wt_rels hxm
   rw [List.length_map,List.length_map];omega
  have hrow:ascOf ((((x.body.subs.filter fun x=>decide (x.kind=9)).map Gl.name).map p.find).foldl addK [])=p.rowI x.body:=by
   unfold Pg.rowI Pg.callNames
   exact ascOf_ext (fun y=>by rw [foldK_mem];simp)
  have hkl:=foldK_len (vs:=((x.body.subs.filter fun x=>decide (x.kind=9)).map Gl.name).map p.find) (ks:=[])
  simp only [List.length_nil] at hkl
  have hkn:((((x.body.subs.filter fun x=>decide (x.kind=9)).map Gl.name).map p.find).foldl addK []).Nodup:=foldK_nodup (by simp)
  generalize (((x.body.subs.filter fun x=>decide (x.kind=9)).map Gl.name).map p.find).foldl addK []=ks at e1 hrow hkl hkn
  have e2:=sortedInts_C p.enc x.enc u.1.length 27 (u.1.map encI2) u.2 ks hkn (by omega)
  rw [hrow] at e2
  refine run_sound Tryz.func20 mixed 13 _ _ (by kernel_rfl) ?_
  simp only [go_sem,seval,run.eq_1,hlt,idx_of hxi]
  repeat' (first
   | ((refine ACalls.mono e1 ?_<;>(rintro c H' ⟨rfl,rfl⟩))<;>(try simp only [go_sem,seval,hlt,idx_of hxi,run.eq_1]))
   | fail)
  unfold H7
  refine AW.regT ?_
  simp only [go_sem,seval]
  repeat' (first
   | ((first
    | (refine ACalls.mono e2 ?_<;>(rintro c H' ⟨rfl,B,rfl⟩))
    | (refine all_intro (fun Bz=>?_))
    | (refine ⟨sd,?_⟩))<;>(try simp only [go_sem,seval]))
   | fail)
  refine run_sound Tryz.func20 mixed 200 _ _ (by kernel_rfl) ?_
  simp only [go_sem,seval]
  try simp (disch:=omega) only [wrap_ok]
  refine hnext (u.1++[p.rowI x.body],Bz) _ (by rw [←hinv];simp) (by refine ⟨by simp [mkS,encI2_eq],by simp [mkS,encI2_eq],by simp only [mkS,List.all_cons,List.all_nil,O.refsLt,C.refsLt,C.refsLt1,all_dmap];first | done | rfl | (simp;done),?_⟩;simp [mkS,Abs.get,C.refsLtT,C.refsLt,C.refsLt1,encI2_eq])
 ·simp only [List.map_nil,List.append_nil] at hinv
  rw [hinv]
  refine run_sound Tryz.func20 mixed 7 _ _ (by kernel_rfl) ?_
  simp only [go_sem,seval,run.eq_1]
  refine AW.place 2 2 0 rfl rfl rfl (by decide) ?_
  refine run_sound Tryz.func20 mixed 200 _ _ (by kernel_rfl) ?_
  simp only [go_sem,seval]
  repeat' (first
   | (exact ⟨_,_,rfl⟩)
   | fail)
def cbV (p:Pg):List (List Int):=if pgOk p=true then p.rels.map fun r=>p.rowI r.body else []
theorem iCalledBy_T (p:Pg) (hw:wtL p.enc≤1048576):ACalls Tryz.prog 6 [.d (.agg p.enc)] [.hole] (fun c H'=>c=.own 0 1∧∃e B,H'=[.tree 1 1 e ((cbV p).map encI2) B none]):=by
 unfold cbV
 by_cases hok:pgOk p=true
 ·have e1:=calledBy_T p hw
  simp only [if_pos hok]
  refine ACalls.enter (fn:=Tryz.f6) Tryz.func6 rfl (by show 1≤_;decide) ?_
  refine run_sound Tryz.func6 mixed 200 _ _ (by kernel_rfl) ?_
  simp only [go_sem,seval,hok]
  repeat' (first
   | (exact ⟨_,_,rfl⟩)
   | ((first
    | (refine ACalls.fresh (ds:=[.agg p.enc]) (m:=1) e1 [0] rfl rfl (by simp) (by simp) ?_<;>(rintro c H' ⟨rfl,e,B1,rfl⟩ _;refine ⟨rfl,rfl,?_⟩))
    | (refine (iProgramOk_fn _ sd).calls rfl ?_))<;>(try simp only [go_sem,seval,hok]))
   | fail)
 ·simp only [if_neg hok]
  simp only [Bool.not_eq_true] at hok
  refine ACalls.enter (fn:=Tryz.f6) Tryz.func6 rfl (by show 1≤_;decide) ?_
  refine run_sound Tryz.func6 mixed 8 _ _ (by kernel_rfl) ?_
  simp only [go_sem,seval,run.eq_1,hok]
  repeat' (first
   | ((refine (iProgramOk_fn _ sd).calls rfl ?_)<;>(try simp only [go_sem,seval,hok,run.eq_1]))
   | fail)
  refine AW.adoptT 2 1 27 (by decide) rfl ?_
  refine AW.place 2 2 0 rfl rfl rfl (by decide) ?_
  refine run_sound Tryz.func6 mixed 200 _ _ (by kernel_rfl) ?_
  simp only [go_sem,seval]
  repeat' (first
   | (exact ⟨_,_,rfl⟩)
   | fail)
end Go.Proofs.YtjbidjeijodmnaaGreat
