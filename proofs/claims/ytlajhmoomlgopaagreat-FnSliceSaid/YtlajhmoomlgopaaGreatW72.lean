import Derived.Test.YtlajhmoomlgopaaGreatW7
import Derived.Test.YtlajhmoomlgopaaGreatA8
import Derived.Test.YtlajhmoomlgopaaGreatP4
import Derived.Test.YtlajhmoomlgopaaGreatA9
import Derived.Test.YtlajhmoomlgopaaGreatP9
import Derived.Test.YtlajhmoomlgopaaGreatW4
import Derived.Test.YtlajhmoomlgopaaGreatA7
import Derived.Test.YtlajhmoomlgopaaGreatP2
import Derived.Test.YtlajhmoomlgopaaGreatW8
import Derived.Test.YtlajhmoomlgopaaGreatW14
open List renaming all_cons→a_,all_nil→b_,length_cons→c_,length_nil→d_,length_append→e_,drop_succ_cons→f_,mem_map→h_,drop_zero→i_,length_map→j_,getD_eq_getElem?_getD→k_,getElem?_eq_some_iff→l_,map_cons→m_
open Bool renaming and_eq_true→g_
open Nat renaming add_zero→n_
namespace Go.Proofs.YtlajhmoomlgopaaGreat
open Go.Abs
set_option maxRecDepth 100000
set_option maxHeartbeats 4000000
set_option linter.unusedSimpArgs false
set_option linter.unusedVariables false
theorem intsD_fl2 (l:List Int):∀x,x∈intsD l→∀d,d∈x→d.flat=true:=fun x hx d hd=>by
 obtain ⟨n,_,rfl⟩:=h_.1 hx
 simp at hd;subst hd;rfl
def encI2 (l:List Int):List D:=[.sl (intsD l)]
theorem encI2_eq (l:List Int):encI2 l=[.sl (intsD l)]:=rfl
def H7 (pb rb:List D) (n e:Nat) (xs:List (List D)) (B:Nat→Prop) (ks:List Int):List O:=[.hole,.box (pb.map .d),.tree n 1 e xs B none,.hole,.box (rb.map .d),.map false (keysM ks),.box [.map 5]]
theorem sortedInts_C (pb rb:List D) (n e:Nat) (xs:List (List D)) (B0:Nat→Prop) (ks:List Int) (hn:ks.Nodup) (hl:ks.length≤4000000):ACalls Tryz.prog 133 [.map 5] (H7 pb rb n e xs B0 ks) (fun c H'=>c=.own 3 1∧∃B,H'=[.hole,.box (pb.map .d),.tree n 1 e xs B0 none,.tree 1 1 3 (intsD (ascOf ks)) B none,.box (rb.map .d),.map false (keysM ks),.box [.map 5]]):=by
 unfold H7
 refine aE_ Tryz.func133 ?_
 refine rS_ Tryz.func133 ?_
 simp only [go_sem,seval]
 refine AW.adoptB 3 1 3 (by decide) rfl ?_
 refine AW.lp [7] (fun p:List Nat×List Int=>[(3,.own 8 p.2.length)]) (fun _ p=>[.hole,.box (pb.map .d),.tree n 1 e xs B0 none,.hole,.box (rb.map .d),.map false (keysM ks),.box [.map 5],.iter 5 ks.length ks.length p.1,.buf p.2.length 1 3 (intsD p.2)]) (fun p=>p.1.Nodup∧(∀i,i∈p.1→i<ks.length)∧p.2=p.1.map (fun i=>ks.getD i 0)) (fun p=>ks.length - p.1.length) ([],[]) ⟨by simp,by simp,rfl⟩ (by refine ⟨by simp [mkS],by simp [mkS,keysM_len,intsD],by simp only [mkS,a_,b_,O.refsLt,C.refsLt,C.refsLt1,all_dmap];first | done | rfl | (simp;done),?_⟩;simp [mkS,Abs.get,C.refsLtT,C.refsLt,C.refsLt1]) ?_
 rintro ⟨seen,out⟩ ⟨h1,h2,h3⟩ hnext
 dsimp only at h1 h2 h3 hnext
 have hso:out.length=seen.length:=by rw [h3];simp
 have hle:=nodup_le ks.length seen h1 h2
 have hmx:maxLen=9223372036854775807:=rfl
 refine run_sound Tryz.func133 mixed 7 _ _ (by kernel_rfl) ?_
 simp only [go_sem,seval,run.eq_1]
 refine anyNext_intro (fun hall=>?_) (fun i p hp hns=>?_)
 ·have hpk:=picks_spec hn h1 h2 (fun i hi=>hall i (by rw [keysM_len];exact hi))
  rw [←h3] at hpk
  refine sort_calls Tryz.sort_Ints Tryz.sort_Ints_none (r:=8) (by omega) rfl ?_
  simp only [go_sem,seval,run.eq_1]
  rw [sort_asc hpk.1,ascOf_ext hpk.2]
  refine AW.bufT 3 8 rfl rfl (intsD_fl2 _) ?_
  refine AW.place 3 8 3 rfl rfl rfl (by decide) ?_
  refine rS_ Tryz.func133 ?_
  simp only [go_sem,seval]
  all_goals exact ⟨by simp only [all_dmap];rfl,_,rfl⟩
 ·obtain ⟨k,hk,rfl⟩:=keysM_at hp
  have hik:=(l_.1 hk).1
  have hnd:(seen++[i]).Nodup:=by rw [List.nodup_append];exact ⟨h1,by simp,fun a ha b hb=>by simp at hb;subst hb;intro e;subst e;exact hns ha⟩
  have hlt:(seen++[i]).length≤ks.length:=nodup_le _ _ hnd (fun x hx=>by
   rcases List.mem_append.1 hx with hx | hx
   ·exact h2 x hx
   ·simp at hx;omega)
  simp only [e_,c_,d_] at hlt
  refine rS_ Tryz.func133 ?_
  simp only [go_sem,seval,List.getLast?_concat,j5 hp,j5 hk,keysM_len,intsD_len]
  refine ⟨⟨by omega,by omega,hnext (seen++[i],out++[k]) _ ⟨hnd,?_,?_⟩ ?_ ?_⟩,hik⟩
  ·intro x hx
   rcases List.mem_append.1 hx with hx | hx
   ·exact h2 x hx
   ·simp at hx;omega
  ·simp only [List.map_append,h3,m_,List.map_nil]
   congr 2
   rw [k_,hk];rfl
  ·simp only [e_,c_,d_];omega
  ·refine ⟨by simp [mkS],by simp [mkS,keysM_len,intsD_append,intsD_one],by simp only [mkS,a_,b_,O.refsLt,C.refsLt,C.refsLt1,all_dmap];first | done | rfl | (simp;done),?_⟩;simp [mkS,Abs.get,C.refsLtT,C.refsLt,C.refsLt1]
def stepC (p:Pg) (ks:List Int) (x:Gl):List Int:=if x.kind=9 then addK ks (p.find x.name) else ks
theorem cb1_clo (p:Pg) (rb:List D) (n e:Nat) (xs:List (List D)) (B0:Nat→Prop):Clo Tryz.prog 132 [.ptr 6 0,.ptr 1 0] 7 (fun x:Gl=>D.agg x.enc) (fun ks:List Int=>H7 p.enc rb n e xs B0 ks) (fun _=>True) (stepC p):=by
 refine ⟨by kernel_rfl,rfl,fun _=>rfl,fun a=>by simp only [H7,a_,b_,O.refsLt,all_dmap];rfl,fun a x _=>?_⟩
 unfold H7 stepC
 by_cases h9:x.kind=9
 ·rw [if_pos h9]
  refine aE_ Tryz.func132 ?_
  refine run_sound Tryz.func132 mixed 5 _ _ (by kernel_rfl) ?_
  simp only [go_sem,seval,run.eq_1,h9]
  refine AW.drawA mixed #[true,true,true,true,true,false] [(1,.box (p.enc.map .d)),(6,.box [.map 5]),(7,.box (x.enc.map .d))] [] [0,1,2,3,4] [5] none (by kernel_rfl) trivial (by simp [holdsB]) ?_
  simp only [go_sem,seval]
  repeat' (first
   | ((refine (relation_fn p _).calls rfl ?_)<;>(try simp only [go_sem,seval]))
   | fail)
  refine rS_ Tryz.func132 ?_
  simp only [go_sem,seval]
  all_goals simp [mset_keys,O.refsLt,C.refsLt,C.refsLt1,all_dmap,all_dcomp]
 ·rw [if_neg h9]
  refine aE_ Tryz.func132 ?_
  refine rS_ Tryz.func132 ?_
  simp only [go_sem,seval,h9]
  all_goals simp [O.refsLt,C.refsLt,C.refsLt1,all_dmap,all_dcomp]
theorem stepC_fold (p:Pg):∀(l:List Gl) (ks:List Int),l.foldl (stepC p) ks=(((l.filter fun x=>decide (x.kind=9)).map Gl.name).map p.find).foldl addK ks
 | [],ks=>rfl
 | x :: r,ks=>by
  rw [List.foldl_cons,stepC_fold p r,List.filter_cons]
  unfold stepC
  by_cases h9:x.kind=9<;>simp [h9]
theorem subs_len:∀t:Gl,t.subs.length≤t.cnt:=by
 intro t
 induction t using Gl.ind' with
 | h t ih =>
  have key:∀l:List Gl,(∀x,x∈l→x∈t.goals)→(Gl.subss l).length≤Gl.cnts l:=by
   intro l
   induction l with
   | nil=>intro _;simp [Gl.subss]
   | cons x r ihr =>
    intro hl
    have h1:=ih x (hl x (by simp))
    have h2:=ihr (fun y hy=>hl y (by simp [hy]))
    simp only [Gl.subss,Gl.cnts,e_];omega
  rw [Gl.subs_eq,Gl.cnt_eq,c_]
  have:=key t.goals (fun x hx=>hx)
  omega
theorem calledBy_T (p:Pg) (hw:wtL p.enc≤1048576):ACalls Tryz.prog 91 [.d (.agg p.enc)] [.hole] (fun c H'=>c=.own 0 1∧∃e B,H'=[.tree 1 1 e ((p.rels.map fun r=>p.rowI r.body).map encI2) B none]):=by
 have hmx:maxLen=9223372036854775807:=rfl
 have hwr:wtR (p.rels.map Rl.enc)≤1048576:=by simpa only [Pg.enc_eq,wtL,D.wt,n_] using hw
 have hlen:p.rels.length≤1048576:=by
  have:=sumW_le (p.rels.map Rl.enc) 0;simp [sumW] at this;omega
 refine aE_ Tryz.func91 ?_
 refine run_sound Tryz.func91 mixed 5 _ _ (by kernel_rfl) ?_
 simp only [go_sem,seval,run.eq_1]
 refine AW.adoptT 3 1 126 (by decide) rfl ?_
 refine rS_ Tryz.func91 ?_
 simp only [go_sem,seval]
 refine AW.rng p.rels [1,9,10] 11 9 (fun u:List (List Int)×(Nat→Prop)=>[(3,.own 2 u.1.length)]) (fun _ u=>[.hole,.box (p.enc.map .d),.tree u.1.length 1 126 (u.1.map encI2) u.2 none]) (fun r u=>u.1++r.map (fun r=>p.rowI r.body)=p.rels.map fun r=>p.rowI r.body) ([],fun _=>False) rfl (by simp) rfl wk1_ (fun i x r u hxi hdr hlt hm hinv hnext=>?_) (fun u hinv=>?_)
 ·have hxm:=List.mem_of_getElem? hxi
  have hul:=congrArg List.length hinv
  simp only [e_,j_,c_] at hul
  simp only [m_] at hinv
  have h:=cb1_clo p x.enc u.1.length 126 (u.1.map encI2) u.2
  have e1:=eachGoal_fn h x.body [] (fun _ _=>trivial)
  refine AW.hole ?_
  rw [stepC_fold] at e1
  have hns:(((x.body.subs.filter fun x=>decide (x.kind=9)).map Gl.name).map p.find).length≤1048577:=by
   have h1:=List.length_filter_le (fun x:Gl=>decide (x.kind=9)) x.body.subs
   have h2:=subs_len x.body
   have h3:=Gl.cnt_le_wt x.body
   have h4:=Rl.wt_body x
   have h5:=Pg.wt_rels hxm
   rw [j_,j_];omega
  have hrow:ascOf ((((x.body.subs.filter fun x=>decide (x.kind=9)).map Gl.name).map p.find).foldl addK [])=p.rowI x.body:=by
   unfold Pg.rowI Pg.callNames
   exact ascOf_ext (fun y=>by rw [foldK_mem];simp)
  have hkl:=foldK_len (vs:=((x.body.subs.filter fun x=>decide (x.kind=9)).map Gl.name).map p.find) (ks:=[])
  simp only [d_] at hkl
  have hkn:((((x.body.subs.filter fun x=>decide (x.kind=9)).map Gl.name).map p.find).foldl addK []).Nodup:=foldK_nodup (by simp)
  generalize (((x.body.subs.filter fun x=>decide (x.kind=9)).map Gl.name).map p.find).foldl addK []=ks at e1 hrow hkl hkn
  have e2:=sortedInts_C p.enc x.enc u.1.length 126 (u.1.map encI2) u.2 ks hkn (by omega)
  rw [hrow] at e2
  refine run_sound Tryz.func91 mixed 13 _ _ (by kernel_rfl) ?_
  simp only [go_sem,seval,run.eq_1,hlt,j5 hxi]
  repeat' (first
   | ((refine ACalls.mono e1 ?_<;>(rintro c H' ⟨rfl,rfl⟩))<;>(try simp only [go_sem,seval,hlt,j5 hxi,run.eq_1]))
   | fail)
  unfold H7
  refine AW.regT ?_
  simp only [go_sem,seval]
  repeat' (first
   | ((first
    | (refine ACalls.mono e2 ?_<;>(rintro c H' ⟨rfl,B,rfl⟩))
    | (refine all_intro (fun Bz=>?_))
    | (refine ⟨sd,?_⟩))<;>(try simp only [go_sem,seval]))
   | fail)
  refine rS_ Tryz.func91 ?_
  simp only [go_sem,seval]
  try simp (disch:=omega) only [j6]
  refine hnext (u.1++[p.rowI x.body],Bz) _ (by rw [←hinv];simp) (by refine ⟨by simp [mkS,encI2_eq],by simp [mkS,encI2_eq],by simp only [mkS,a_,b_,O.refsLt,C.refsLt,C.refsLt1,all_dmap];first | done | rfl | (simp;done),?_⟩;simp [mkS,Abs.get,C.refsLtT,C.refsLt,C.refsLt1,encI2_eq])
 ·simp only [List.map_nil,List.append_nil] at hinv
  rw [hinv]
  refine run_sound Tryz.func91 mixed 7 _ _ (by kernel_rfl) ?_
  simp only [go_sem,seval,run.eq_1]
  refine AW.place 2 2 0 rfl rfl rfl (by decide) ?_
  refine rS_ Tryz.func91 ?_
  simp only [go_sem,seval]
  repeat' (first
   | (exact ⟨_,_,rfl⟩)
   | fail)
def cRows (p:Pg):List (List Int):=p.rels.map fun r=>p.rowI r.body
theorem cRows_len (p:Pg):(cRows p).length=p.rels.length:=by simp [cRows]
theorem asc_nodup {l:List Int} (h:Asc l):l.Nodup:=by
 rw [List.nodup_iff_pairwise_ne]
 exact List.Pairwise.imp (fun {a b} hab=>by omega) h
theorem cRows_ok {p:Pg} (h:pgOk p=true):RelRows (cRows p)∧(∀r,r∈cRows p→Asc r)∧p.rels.length≤8:=by
 have h0:=h
 unfold pgOk at h0
 simp only [g_,decide_eq_true_eq] at h0
 have ha:∀r,r∈cRows p→Asc r:=fun r hr=>by
  obtain ⟨x,_,rfl⟩:=h_.1 hr
  exact ascOf_asc _
 refine ⟨fun r hr=>⟨asc_nodup (ha r hr),fun y hy=>?_⟩,ha,h0.1⟩
 obtain ⟨x,hx,rfl⟩:=h_.1 hr
 unfold Pg.rowI at hy
 rw [ascOf_mem] at hy
 obtain ⟨nm,hn,rfl⟩:=h_.1 hy
 obtain ⟨k,hk⟩:=okL_mem h0.2 x hx
 unfold Pg.relOk at hk
 simp only [g_] at hk
 have hc:p.callsFit x.body=true:=hk.2
 unfold Pg.callNames at hn
 obtain ⟨g,hg,hgn⟩:=h_.1 hn
 obtain ⟨hg1,hg2⟩:=List.mem_filter.1 hg
 unfold Pg.callsFit at hc
 simp only [List.all_eq_true] at hc
 have hf:=hc g hg1
 have h9:g.kind=9:=by simpa using hg2
 unfold Pg.fitC at hf
 rw [hgn] at hf
 simp only [h9,decide_true,Bool.not_true,Bool.false_or] at hf
 have hcl:=cRows_len p
 have hr:=p.find_range nm
 split at hf
 ·rename_i r' hr'
  simp only [g_,decide_eq_true_eq] at hf
  omega
 ·cases hf
theorem calledBy_fn (p:Pg) (hw:wtL p.enc≤1048576):Gives Tryz.prog 91 [.agg p.enc] (.d (.sl ((cRows p).map encI2))):=by
 refine ACalls.frozen (ds:=[.agg p.enc]) (m:=1) (calledBy_T p hw) (fun c H' ⟨h1,e,B,h2⟩ _=>?_)
 subst h1 h2
 rfl
def encF (ks:List Int):List D:=[.fset ks]
theorem reach_R (p:Pg) (hw:wtL p.enc≤1048576) (hC:RelRows (cRows p)) (hl8:p.rels.length≤8):ACalls Tryz.prog 53 [.d (.agg p.enc)] [] (fun c H'=>∃L:List (List Int),c=.d (.sl (L.map encF))∧L.length=p.rels.length∧∀(i:Nat) (ks:List Int),L[i]? = some ks→∀k:Int,k∈ks↔rc (cRows p) i k=true):=by
 have hmx:maxLen=9223372036854775807:=rfl
 have hcb:=calledBy_fn p hw
 have hcl:=cRows_len p
 generalize cRows p=M at *
 refine aE_ Tryz.func53 ?_
 refine run_sound Tryz.func53 mixed 10 _ _ (by kernel_rfl) ?_
 simp only [go_sem,seval,run.eq_1]
 repeat' (first
  | ((refine hcb.calls rfl ?_)<;>(try simp only [go_sem,seval,run.eq_1]))
  | fail)
 refine AW.adopt 4 1 87 (by decide) rfl ?_
 refine rS_ Tryz.func53 ?_
 simp only [go_sem,seval]
 refine AW.rng p.rels [3,14] 15 13 (fun L:List (List Int)=>[(4,.own 1 L.length)]) (fun _ L=>[.box (p.enc.map .d),.grow L.length 1 87 (L.map encF)]) (fun r L=>L.length+r.length=p.rels.length∧∀(i:Nat) (ks:List Int),L[i]? = some ks→∀k:Int,k∈ks↔rc M i k=true) [] rfl (by simp) ⟨by simp,by simp⟩ wk1_ (fun i x r L hxi hdr hlt hm hinv hnext=>?_) (fun L hinv=>?_)
 ·obtain ⟨hi1,hi2⟩:=hinv
  have hdl:=congrArg List.length hdr
  simp only [List.length_drop,c_] at hdl hi1
  have hiL:i=L.length:=by omega
  have hrow:∀j:Nat,j<M.length→(M.map encI2)[j]? = some [.sl (intsD (relRow M j))]:=fun j hj=>by
   have:M[j]? = some (relRow M j):=by
    unfold relRow;rw [Int.toNat_natCast,k_,List.getElem?_eq_getElem hj];rfl
   rw [List.getElem?_map,this];rfl
  have hie:=hrow i (by omega)
  have hrl:=fun j=>int_nodup_le (hC.at j).1 (hC.at j).2
  have hri:=hrl (i:Int)
  refine run_sound Tryz.func53 mixed 14 _ _ (by kernel_rfl) ?_
  simp only [go_sem,seval,run.eq_1,hlt,j5 hie,hcl]
  repeat' (first
   | ((refine ⟨sd,?_⟩)<;>(try simp only [go_sem,seval,hlt,j5 hie,hcl,run.eq_1]))
   | fail)
  refine AW.toQue 3 rfl ?_
  refine run_sound Tryz.func53 mixed 1 _ _ (by kernel_rfl) ?_
  simp only [go_sem,seval,run.eq_1]
  refine AW.lp [3,4,6,14,15] (fun u:List Int×List Int×Nat=>[(7,.own 3 u.2.2)]) (fun _ u=>[.box (p.enc.map .d),.grow L.length 1 87 (L.map encF),.map false (keysM u.1),.que u.2.2 1 3 (intsD u.2.1)]) (fun u=>Bfs M i u.1 u.2.1∧bfsM M u.1 u.2.1≤80) (fun u=>bfsM M u.1 u.2.1) ([],relRow M i,1) ⟨Bfs.init hC i,by
   have h1:M.length * (M.length+1)≤8 * 9:=Nat.mul_le_mul (by omega) (by omega)
   simp only [bfsM,d_,Nat.sub_zero];omega⟩ (by refine ⟨by simp [mkS,keysM],by simp [mkS,keysM],by simp only [mkS,a_,b_,O.refsLt,C.refsLt,C.refsLt1,all_dmap];first | done | rfl | (simp;done),?_⟩;simp [mkS,Abs.get,C.refsLtT,C.refsLt,C.refsLt1]) ?_
  rintro ⟨ks,td,q⟩ ⟨hb,hb8⟩ hnx
  dsimp only at hb hb8 hnx ⊢
  cases td with
  | nil =>
   have hdn:=hb.done
   have hn0:intsD ([]:List Int)=[]:=rfl
   refine run_sound Tryz.func53 mixed 5 _ _ (by kernel_rfl) ?_
   simp only [go_sem,seval,run.eq_1,hn0,d_]
   refine AW.freezeM 6 2 (ks:=ks) rfl rfl ?_
   refine rS_ Tryz.func53 ?_
   simp only [go_sem,seval]
   refine ⟨by omega,by omega,?_⟩
   try simp (disch:=omega) only [j6]
   refine hnext (L++[ks]) _ ⟨by rw [e_];simp;omega,fun j ks' hj k=>?_⟩ (by refine ⟨by simp [mkS,encF],by simp [mkS,encF],by simp only [mkS,a_,b_,O.refsLt,C.refsLt,C.refsLt1,all_dmap];first | done | rfl | (simp;done),?_⟩;simp [mkS,Abs.get,C.refsLtT,C.refsLt,C.refsLt1,encF])
   by_cases hjl:j<L.length
   ·rw [List.getElem?_append_left hjl] at hj
    exact hi2 j ks' hj k
   ·rw [List.getElem?_append_right (by omega)] at hj
    have hj0:j - L.length=0:=by
     have:=(l_.1 hj).1
     simp at this;omega
    rw [hj0] at hj
    simp at hj
    subst hj
    have hji:j=i:=by omega
    subst hji
    unfold rc
    rw [hdn,decide_eq_true_eq]
  | cons k td =>
   have hkr:=hb.tr k (by simp)
   obtain ⟨n,rfl⟩:∃n:Nat,k=n:=⟨k.toNat,by omega⟩
   have hin:=hrow n (by omega)
   have hnd:intsD ((n:Int) :: td)=[.int .i64 n] :: intsD td:=rfl
   have hgt:(0:Int)<((intsD td).length+1:Nat):=by omega
   have hmg:mget (keysM ks) (.int .i64 n)=if (n:Int)∈ks then some (.bool true) else none:=mget_fset n ks
   by_cases hk:(n:Int)∈ks
   ·refine run_sound Tryz.func53 mixed 9 _ _ (by kernel_rfl) ?_
    simp only [go_sem,seval,run.eq_1,hnd,hgt,c_]
    repeat' (first
     | ((refine br_n (fun hq=>?_) (fun hq=>?_))<;>(try simp only [go_sem,seval,hnd,hgt,c_,run.eq_1,hq]))
     | fail)
    all_goals first | (exfalso;omega) | skip
    refine AW.regT ?_
    simp only [go_sem,seval]
    repeat' (first
     | ((refine ⟨sd,?_⟩)<;>(try simp only [go_sem,seval,f_,i_,c_]))
     | fail)
    refine rS_ Tryz.func53 ?_
    simp only [go_sem,seval,hmg,hk,f_,i_]
    have hm0:=bfsM_old (C:=M) (k:=n) (ks:=ks) (td:=td)
    refine hnx (ks,td,q+1) _ ⟨hb.old hk,by dsimp only;omega⟩ hm0 wk1_
   ·have hka:addK ks n=ks++[(n:Int)]:=by unfold addK;rw [if_neg hk]
    refine run_sound Tryz.func53 mixed 9 _ _ (by kernel_rfl) ?_
    simp only [go_sem,seval,run.eq_1,hnd,hgt,c_]
    repeat' (first
     | ((refine br_n (fun hq=>?_) (fun hq=>?_))<;>(try simp only [go_sem,seval,hnd,hgt,c_,run.eq_1,hq]))
     | fail)
    all_goals first | (exfalso;omega) | skip
    refine AW.regT ?_
    simp only [go_sem,seval]
    repeat' (first
     | ((refine ⟨sd,?_⟩)<;>(try simp only [go_sem,seval,f_,i_,c_]))
     | fail)
    refine run_sound Tryz.func53 mixed 5 _ _ (by kernel_rfl) ?_
    simp only [go_sem,seval,run.eq_1,hmg,hk,f_,i_,mset_keys,hka]
    have hrn:=hrl (n:Int)
    have htl:td.length≤80:=by simp only [bfsM,c_] at hb8;omega
    refine AW.regT ?_
    simp only [go_sem,seval,j5 hin,hcl,intsD_len]
    repeat' (first
     | ((refine ⟨sd,?_⟩)<;>(try simp only [go_sem,seval,j5 hin,hcl,intsD_len]))
     | fail)
    trace_state
    refine rS_ Tryz.func53 ?_
    simp only [go_sem,seval]
    have hm0:=bfsM_new hC hb hk
    refine hnx (ks++[(n:Int)],td++relRow M n,q+1+1) _ ⟨hb.new hC hk,by dsimp only;omega⟩ hm0 (by refine ⟨by simp [mkS,intsD_append],by simp [mkS,intsD_append],by simp only [mkS,a_,b_,O.refsLt,C.refsLt,C.refsLt1,all_dmap];first | done | rfl | (simp;done),?_⟩;simp [mkS,Abs.get,C.refsLtT,C.refsLt,C.refsLt1])
 ·obtain ⟨hi1,hi2⟩:=hinv
  simp only [d_,n_] at hi1
  refine rS_ Tryz.func53 ?_
  simp only [go_sem,seval]
  repeat' (first
   | (exact ⟨L,rfl,hi1,hi2⟩)
   | fail)
theorem intsD_nl2:intsD []=[]:=rfl
theorem pgOk_bodies {p:Pg} (h:pgOk p=true):∀r,r∈p.rels→r.body.shape=true:=fun r hr=>by
 unfold pgOk at h
 simp only [g_] at h
 obtain ⟨i,hi⟩:=okL_mem h.2 r hr
 exact relOk_shape hi
theorem copyProgram_T (p:Pg) (hw:wtL p.enc≤1048576) (hs:∀r,r∈p.rels→r.body.shape=true):ACalls Tryz.prog 47 [.d (.agg p.enc)] [.hole] (fun c H'=>c=.agg [.own 0 1]∧∃e B,H'=[.tree 1 7 e (p.rels.map Rl.enc) B none]):=by
 have hmx:maxLen=9223372036854775807:=rfl
 have hwr:∀r,r∈p.rels→wtL r.body.enc≤1048576:=fun r hr=>by
  have:=Pg.wt_rels hr;have:=Rl.wt_body r;omega
 have hlg0:p.rels.length≤1048576:=by
  have h1:wtR (p.rels.map Rl.enc)≤1048576:=by simpa only [Pg.enc_eq,wtL,D.wt,n_] using hw
  have:=sumW_le (p.rels.map Rl.enc) 0;simp [sumW] at this;omega
 refine aE_ Tryz.func47 ?_
 refine run_sound Tryz.func47 mixed 8 _ _ (by kernel_rfl) ?_
 simp only [go_sem,seval,run.eq_1]
 refine AW.adoptTB 3 0 7 81 (by decide) rfl rfl ?_
 refine rS_ Tryz.func47 ?_
 simp only [go_sem,seval]
 refine AW.rng p.rels [2,3,8,9] 10 8 (fun q:List Rl×(Nat→Prop)=>[]) (fun _ q=>[.hole,.box (p.enc.map .d),.box [.nil0],.box [.own 4 q.1.length],.tree q.1.length 7 81 (q.1.map Rl.enc) q.2 none]) (fun r q=>q.1++r=p.rels) ([],fun _=>False) rfl (by simp) rfl wk1_ (fun i x r q hxi hdr hlt hm hinv hnext=>?_) (fun q hinv=>?_)
 ·have hxm:=List.mem_of_getElem? hxi
  have hpl:q.1.length+(r.length+1)=p.rels.length:=by rw [←hinv];simp
  have hx:=copyGoal_T x.body (hwr x hxm) (hs x hxm)
  unfold cpG at hx
  refine AW.hole ?_
  refine AW.hole ?_
  refine run_sound Tryz.func47 mixed 9 _ _ (by kernel_rfl) ?_
  simp only [go_sem,seval,run.eq_1,hlt,j5 hxi]
  refine AW.drawA mixed #[true,true,true,true,true,true,true,true,true,true,true,true,true,true,false,false] [(3,.box [.own 4 q.1.length]),(7,.box (x.enc.map .d))] [] [0,1,2,3,4,5,6,7,8,9,10,11,12,13] [14,15] none (by kernel_rfl) trivial (by simp [holdsB]) ?_
  simp only [go_sem,seval]
  repeat' (first
   | ((first
    | (refine ACalls.fresh (ds:=[.agg x.body.enc]) (m:=2) hx [5,6] rfl rfl (by simp) (by simp) ?_<;>(rintro c H' ⟨rfl,e2,B2,e3,B3,rfl⟩ _;refine ⟨rfl,rfl,?_⟩))
    | (refine all_intro (fun Bz=>?_))
    | (refine ⟨sd,?_⟩))<;>(try simp only [go_sem,seval]))
   | fail)
  refine rS_ Tryz.func47 ?_
  simp only [go_sem,seval]
  try simp (disch:=omega) only [j6]
  refine hnext (q.1++[x],Bz) _ (by simp [←hinv]) (by refine ⟨by simp [mkS,Rl.enc_eq x],by simp [mkS,Rl.enc_eq x],by simp only [mkS,a_,b_,O.refsLt,C.refsLt,C.refsLt1,all_dmap];first | done | rfl | (simp;done),?_⟩;simp [mkS,Abs.get,C.refsLtT,C.refsLt,C.refsLt1])
 ·simp only [List.append_nil] at hinv
  rw [hinv]
  refine run_sound Tryz.func47 mixed 7 _ _ (by kernel_rfl) ?_
  simp only [go_sem,seval,run.eq_1]
  refine AW.placeB 2 0 4 0 rfl rfl rfl rfl (by decide) ?_
  refine rS_ Tryz.func47 ?_
  simp only [go_sem,seval]
  repeat' (first
   | (exact ⟨_,_,rfl⟩)
   | fail)
def pickL (f:Nat→Bool):Nat→List Rl→List Rl
 | _,[]=>[]
 | i,x :: r=>if f i=true then x :: pickL f (i+1) r else pickL f (i+1) r
def slF (p:Pg) (s:List UInt8) (i:Nat):Bool:=decide ((i:Int)=p.find s) || rc (cRows p) (p.find s) i
def slB (p:Pg) (s:List UInt8):Bool:=pgOk p && decide (0≤p.find s)
def slL (p:Pg) (s:List UInt8):List Rl:=if slB p s=true then pickL (slF p s) 0 p.rels else []
def anyR:List D:=List.replicate 7 .any
theorem iSliceProgram_T (p:Pg) (s:List UInt8) (hw:wtL p.enc≤1048576):ACalls Tryz.prog 20 [.d (.agg p.enc),.d (.str s)] [.hole] (fun c H'=>c=.tup [.agg [.own 0 1],.d (.bool (slB p s))]∧∃e B,H'=[.tree 1 7 e ((slL p s).map Rl.enc) B none]):=by
 have hmx:maxLen=9223372036854775807:=rfl
 have hfr:=iFindRel_fn p s hw
 unfold slL
 by_cases hp:pgOk p=true
 ·obtain ⟨hC,ha,h8⟩:=cRows_ok hp
  have hR:=reach_R p hw hC h8
  have hcl:=cRows_len p
  rw [if_pos hp] at hfr
  by_cases h0:0≤p.find s
  ·have hrg:=p.find_range s
   obtain ⟨n,hn⟩:∃n:Nat,p.find s=n:=⟨(p.find s).toNat,by omega⟩
   have hok:slB p s=true:=by unfold slB;rw [hp,hn];simp
   have hsf:∀i,slF p s i=(decide ((i:Int)=n) || rc (cRows p) n i):=fun i=>by unfold slF;rw [hn]
   rw [if_pos hok,hok]
   rw [hn] at hfr
   have hnn:¬(n:Int)<0:=by omega
   have hcp:=copyProgram_T p hw (pgOk_bodies hp)
   refine aE_ Tryz.func20 ?_
   refine AW.hole ?_
   refine run_sound Tryz.func20 mixed 18 _ _ (by kernel_rfl) ?_
   simp only [go_sem,seval,run.eq_1,hnn]
   repeat' (first
    | ((refine idx_intro (fun x hx=>have hq:=hx;?_))<;>(try simp only [go_sem,seval,hnn,run.eq_1,hq]))
    | ((first
     | (refine hfr.calls rfl ?_)
     | (refine hR.frame (X:=[_,_,_,_]) rfl rfl ?_<;>(rintro c H' ⟨L,rfl,hL1,hL2⟩ hH0;obtain rfl:=List.eq_nil_of_length_eq_zero hH0))
     | (refine ⟨sd,?_⟩))<;>(try simp only [go_sem,seval,hnn,run.eq_1]))
    | fail)
   have hE:∀x,encF x=[.fset x]:=fun _=>rfl
   try simp only [go_sem,seval,hE]
   repeat' (first
    | ((refine ACalls.fresh (ds:=[.agg p.enc]) (m:=1) hcp [1] rfl rfl (by simp) (by simp) ?_<;>(rintro c H' ⟨rfl,e1,B1,rfl⟩ _;refine ⟨rfl,rfl,?_⟩))<;>(try simp only [go_sem,seval,hE,run.eq_1]))
    | fail)
   have hLn:=hL2 n _ hx
   refine AW.adoptTB 4 0 7 81 (by decide) rfl rfl ?_
   refine run_sound Tryz.func20 mixed 1 _ _ (by kernel_rfl) ?_
   simp only [go_sem,seval,run.eq_1]
   refine AW.lp [4,6,7,8,25,26] (fun u:Nat×List Rl×(Nat→Prop)×(Nat→Prop)=>[(27,.d (.int .i64 u.1))]) (fun _ u=>[.hole,.tree 1 7 e1 (List.replicate u.1 anyR++(p.rels.drop u.1).map Rl.enc) u.2.2.1 none,.box (p.enc.map .d),.box [.nil0],.box [.own 5 u.2.1.length],.tree u.2.1.length 7 81 (u.2.1.map Rl.enc) u.2.2.2 none]) (fun u=>u.1≤p.rels.length∧u.2.1.length≤u.1∧u.2.1++pickL (slF p s) u.1 (p.rels.drop u.1)=pickL (slF p s) 0 p.rels) (fun u=>p.rels.length - u.1) (0,[],B1,fun _=>False) ⟨Nat.zero_le _,Nat.le_refl _,rfl⟩ wk1_ ?_
   rintro ⟨i,L',B3,B4⟩ ⟨hi,hil,hinv⟩ hnext
   dsimp only at hi hil hinv hnext ⊢
   by_cases h:i<p.rels.length
   ·have hlt:(i:Int)<(p.rels.length:Int):=by omega
    have hd:p.rels.drop i=p.rels[i] :: p.rels.drop (i+1):=List.drop_eq_getElem_cons h
    have hpk:pickL (slF p s) i (p.rels.drop i)=if slF p s i=true then p.rels[i] :: pickL (slF p s) (i+1) (p.rels.drop (i+1)) else pickL (slF p s) (i+1) (p.rels.drop (i+1)):=by rw [hd];rfl
    rw [hpk] at hinv
    have hll:(List.replicate i anyR++(Rl.enc p.rels[i]) :: (p.rels.drop (i+1)).map Rl.enc).length=p.rels.length:=by simp;omega
    have hai:(List.replicate i anyR).length=i:=by simp
    have hrs:List.replicate (i+1) anyR=List.replicate i anyR++[anyR]:=List.replicate_succ'
    have hnx:=fun L B B' s'=>hnext (i+1,L,B,B') s'
    clear hnext
    simp only [hrs,List.append_assoc,List.cons_append,List.nil_append] at hnx
    rw [hd,m_]
    generalize hy:p.rels[i]=y at *
    generalize hA:List.replicate i anyR=A at *
    generalize hZ:(p.rels.drop (i+1)).map Rl.enc=Z at *
    have s2:=fun (y y':List D)=>set_split (x:=y) (y:=y') (r:=Z) hai
    have g1:=fun (y:List D)=>at_split (x:=y) (r:=Z) hai
    have g2:=fun (y:List D) (Q:List D→Prop)=>j5 (g1 y) Q
    have hll2:A.length+(Z.length+1)=p.rels.length:=by simpa using hll
    have hB:decide ((i:Int)∈x)=rc (cRows p) n i:=by rw [Bool.eq_iff_iff,decide_eq_true_eq];exact hLn i
    have hfi:=hsf i
    refine run_sound Tryz.func20 mixed 8 _ _ (by kernel_rfl) ?_
    simp only [go_sem,seval,run.eq_1,hlt,hll]
    refine AW.regM ?_
    simp only [go_sem,seval,hll,s2,g1,g2,Rl.enc_eq y]
    refine ⟨by omega,by omega,fun B'=>⟨fun k1=>⟨fun k2=>?_,fun k2 zk2 e2 B2=>?_⟩,fun k1 zk1 e1' B1'=>⟨fun k2=>?_,fun k2 zk2 e2 B2=>?_⟩⟩⟩
    ·by_cases hik:(i:Int)=n
     ·have hf:slF p s i=true:=by rw [hfi,hik];simp
      rw [if_pos hf] at hinv
      have hike:decide ((i:Int)=n)=true:=by simp [hik]
      refine run_sound Tryz.func20 mixed 3 _ _ (by kernel_rfl) ?_
      simp only [go_sem,seval,run.eq_1,hike]
      refine AW.regT ?_
      simp only [go_sem,seval]
      repeat' (first
       | ((first
        | (refine all_intro (fun Bz=>?_))
        | (refine ⟨sd,?_⟩))<;>(try simp only [go_sem,seval]))
       | fail)
      refine rS_ Tryz.func20 ?_
      simp only [go_sem,seval]
      try simp (disch:=omega) only [j6]
      refine hnx (L'++[y]) B' Bz _ ⟨by omega,by simp;omega,by simpa using hinv⟩ (by omega) (by refine ⟨by simp [mkS,Rl.enc_eq y,k1,k2,anyR],by simp [mkS,Rl.enc_eq y,k1,k2,anyR],by simp only [mkS,a_,b_,O.refsLt,C.refsLt,C.refsLt1,all_dmap];first | done | rfl | (simp;done),?_⟩;simp [mkS,Abs.get,C.refsLtT,C.refsLt,C.refsLt1])
     ·have hike:decide ((i:Int)=n)=false:=by simp [hik]
      cases hrc:rc (cRows p) n i with
      | true =>
       have hf:slF p s i=true:=by rw [hfi,hrc];simp
       rw [if_pos hf] at hinv
       rw [hrc] at hB
       refine run_sound Tryz.func20 mixed 3 _ _ (by kernel_rfl) ?_
       simp only [go_sem,seval,run.eq_1,hike,hB]
       refine AW.regT ?_
       simp only [go_sem,seval]
       repeat' (first
        | ((first
         | (refine all_intro (fun Bz=>?_))
         | (refine ⟨sd,?_⟩))<;>(try simp only [go_sem,seval]))
        | fail)
       refine rS_ Tryz.func20 ?_
       simp only [go_sem,seval]
       try simp (disch:=omega) only [j6]
       refine hnx (L'++[y]) B' Bz _ ⟨by omega,by simp;omega,by simpa using hinv⟩ (by omega) (by refine ⟨by simp [mkS,Rl.enc_eq y,k1,k2,anyR],by simp [mkS,Rl.enc_eq y,k1,k2,anyR],by simp only [mkS,a_,b_,O.refsLt,C.refsLt,C.refsLt1,all_dmap];first | done | rfl | (simp;done),?_⟩;simp [mkS,Abs.get,C.refsLtT,C.refsLt,C.refsLt1])
      | false =>
       have hf:¬slF p s i=true:=by rw [hfi,hrc,hike];simp
       rw [if_neg hf] at hinv
       rw [hrc] at hB
       refine rS_ Tryz.func20 ?_
       simp only [go_sem,seval,hike,hB]
       repeat' (first
        | (simp (disch:=omega) only [j6])
        | fail)
       try simp (disch:=omega) only [j6]
       refine hnx L' B' B4 _ ⟨by omega,by omega,hinv⟩ (by omega) (by refine ⟨by simp [mkS,anyR],by simp [mkS,anyR],by simp only [mkS,a_,b_,O.refsLt,C.refsLt,C.refsLt1,all_dmap];first | done | rfl | (simp;done),?_⟩;simp [mkS,Abs.get,C.refsLtT,C.refsLt,C.refsLt1])
    ·by_cases hik:(i:Int)=n
     ·have hf:slF p s i=true:=by rw [hfi,hik];simp
      rw [if_pos hf] at hinv
      have hike:decide ((i:Int)=n)=true:=by simp [hik]
      refine run_sound Tryz.func20 mixed 3 _ _ (by kernel_rfl) ?_
      simp only [go_sem,seval,run.eq_1,hike]
      refine AW.regT ?_
      simp only [go_sem,seval]
      repeat' (first
       | ((first
        | (refine all_intro (fun Bz=>?_))
        | (refine ⟨sd,?_⟩))<;>(try simp only [go_sem,seval]))
       | fail)
      refine rS_ Tryz.func20 ?_
      simp only [go_sem,seval]
      try simp (disch:=omega) only [j6]
      refine hnx (L'++[y]) B' Bz _ ⟨by omega,by simp;omega,by simpa using hinv⟩ (by omega) (by refine ⟨by simp [mkS,Rl.enc_eq y,k1,k2,anyR],by simp [mkS,Rl.enc_eq y,k1,k2,anyR],by simp only [mkS,a_,b_,O.refsLt,C.refsLt,C.refsLt1,all_dmap];first | done | rfl | (simp;done),?_⟩;simp [mkS,Abs.get,C.refsLtT,C.refsLt,C.refsLt1])
     ·have hike:decide ((i:Int)=n)=false:=by simp [hik]
      cases hrc:rc (cRows p) n i with
      | true =>
       have hf:slF p s i=true:=by rw [hfi,hrc];simp
       rw [if_pos hf] at hinv
       rw [hrc] at hB
       refine run_sound Tryz.func20 mixed 3 _ _ (by kernel_rfl) ?_
       simp only [go_sem,seval,run.eq_1,hike,hB]
       refine AW.regT ?_
       simp only [go_sem,seval]
       repeat' (first
        | ((first
         | (refine all_intro (fun Bz=>?_))
         | (refine ⟨sd,?_⟩))<;>(try simp only [go_sem,seval]))
        | fail)
       refine rS_ Tryz.func20 ?_
       simp only [go_sem,seval]
       try simp (disch:=omega) only [j6]
       refine hnx (L'++[y]) B' Bz _ ⟨by omega,by simp;omega,by simpa using hinv⟩ (by omega) (by refine ⟨by simp [mkS,Rl.enc_eq y,k1,k2,anyR],by simp [mkS,Rl.enc_eq y,k1,k2,anyR],by simp only [mkS,a_,b_,O.refsLt,C.refsLt,C.refsLt1,all_dmap];first | done | rfl | (simp;done),?_⟩;simp [mkS,Abs.get,C.refsLtT,C.refsLt,C.refsLt1])
      | false =>
       have hf:¬slF p s i=true:=by rw [hfi,hrc,hike];simp
       rw [if_neg hf] at hinv
       rw [hrc] at hB
       refine rS_ Tryz.func20 ?_
       simp only [go_sem,seval,hike,hB]
       repeat' (first
        | (simp (disch:=omega) only [j6])
        | fail)
       try simp (disch:=omega) only [j6]
       refine hnx L' B' B4 _ ⟨by omega,by omega,hinv⟩ (by omega) (by refine ⟨by simp [mkS,anyR],by simp [mkS,anyR],by simp only [mkS,a_,b_,O.refsLt,C.refsLt,C.refsLt1,all_dmap];first | done | rfl | (simp;done),?_⟩;simp [mkS,Abs.get,C.refsLtT,C.refsLt,C.refsLt1])
    ·by_cases hik:(i:Int)=n
     ·have hf:slF p s i=true:=by rw [hfi,hik];simp
      rw [if_pos hf] at hinv
      have hike:decide ((i:Int)=n)=true:=by simp [hik]
      refine run_sound Tryz.func20 mixed 3 _ _ (by kernel_rfl) ?_
      simp only [go_sem,seval,run.eq_1,hike]
      refine AW.regT ?_
      simp only [go_sem,seval]
      repeat' (first
       | ((first
        | (refine all_intro (fun Bz=>?_))
        | (refine ⟨sd,?_⟩))<;>(try simp only [go_sem,seval]))
       | fail)
      refine rS_ Tryz.func20 ?_
      simp only [go_sem,seval]
      try simp (disch:=omega) only [j6]
      refine hnx (L'++[y]) B' Bz _ ⟨by omega,by simp;omega,by simpa using hinv⟩ (by omega) (by refine ⟨by simp [mkS,Rl.enc_eq y,k1,k2,anyR],by simp [mkS,Rl.enc_eq y,k1,k2,anyR],by simp only [mkS,a_,b_,O.refsLt,C.refsLt,C.refsLt1,all_dmap];first | done | rfl | (simp;done),?_⟩;simp [mkS,Abs.get,C.refsLtT,C.refsLt,C.refsLt1])
     ·have hike:decide ((i:Int)=n)=false:=by simp [hik]
      cases hrc:rc (cRows p) n i with
      | true =>
       have hf:slF p s i=true:=by rw [hfi,hrc];simp
       rw [if_pos hf] at hinv
       rw [hrc] at hB
       refine run_sound Tryz.func20 mixed 3 _ _ (by kernel_rfl) ?_
       simp only [go_sem,seval,run.eq_1,hike,hB]
       refine AW.regT ?_
       simp only [go_sem,seval]
       repeat' (first
        | ((first
         | (refine all_intro (fun Bz=>?_))
         | (refine ⟨sd,?_⟩))<;>(try simp only [go_sem,seval]))
        | fail)
       refine rS_ Tryz.func20 ?_
       simp only [go_sem,seval]
       try simp (disch:=omega) only [j6]
       refine hnx (L'++[y]) B' Bz _ ⟨by omega,by simp;omega,by simpa using hinv⟩ (by omega) (by refine ⟨by simp [mkS,Rl.enc_eq y,k1,k2,anyR],by simp [mkS,Rl.enc_eq y,k1,k2,anyR],by simp only [mkS,a_,b_,O.refsLt,C.refsLt,C.refsLt1,all_dmap];first | done | rfl | (simp;done),?_⟩;simp [mkS,Abs.get,C.refsLtT,C.refsLt,C.refsLt1])
      | false =>
       have hf:¬slF p s i=true:=by rw [hfi,hrc,hike];simp
       rw [if_neg hf] at hinv
       rw [hrc] at hB
       refine rS_ Tryz.func20 ?_
       simp only [go_sem,seval,hike,hB]
       repeat' (first
        | (simp (disch:=omega) only [j6])
        | fail)
       try simp (disch:=omega) only [j6]
       refine hnx L' B' B4 _ ⟨by omega,by omega,hinv⟩ (by omega) (by refine ⟨by simp [mkS,anyR],by simp [mkS,anyR],by simp only [mkS,a_,b_,O.refsLt,C.refsLt,C.refsLt1,all_dmap];first | done | rfl | (simp;done),?_⟩;simp [mkS,Abs.get,C.refsLtT,C.refsLt,C.refsLt1])
    ·by_cases hik:(i:Int)=n
     ·have hf:slF p s i=true:=by rw [hfi,hik];simp
      rw [if_pos hf] at hinv
      have hike:decide ((i:Int)=n)=true:=by simp [hik]
      refine run_sound Tryz.func20 mixed 3 _ _ (by kernel_rfl) ?_
      simp only [go_sem,seval,run.eq_1,hike]
      refine AW.regT ?_
      simp only [go_sem,seval]
      repeat' (first
       | ((first
        | (refine all_intro (fun Bz=>?_))
        | (refine ⟨sd,?_⟩))<;>(try simp only [go_sem,seval]))
       | fail)
      refine rS_ Tryz.func20 ?_
      simp only [go_sem,seval]
      try simp (disch:=omega) only [j6]
      refine hnx (L'++[y]) B' Bz _ ⟨by omega,by simp;omega,by simpa using hinv⟩ (by omega) (by refine ⟨by simp [mkS,Rl.enc_eq y,k1,k2,anyR],by simp [mkS,Rl.enc_eq y,k1,k2,anyR],by simp only [mkS,a_,b_,O.refsLt,C.refsLt,C.refsLt1,all_dmap];first | done | rfl | (simp;done),?_⟩;simp [mkS,Abs.get,C.refsLtT,C.refsLt,C.refsLt1])
     ·have hike:decide ((i:Int)=n)=false:=by simp [hik]
      cases hrc:rc (cRows p) n i with
      | true =>
       have hf:slF p s i=true:=by rw [hfi,hrc];simp
       rw [if_pos hf] at hinv
       rw [hrc] at hB
       refine run_sound Tryz.func20 mixed 3 _ _ (by kernel_rfl) ?_
       simp only [go_sem,seval,run.eq_1,hike,hB]
       refine AW.regT ?_
       simp only [go_sem,seval]
       repeat' (first
        | ((first
         | (refine all_intro (fun Bz=>?_))
         | (refine ⟨sd,?_⟩))<;>(try simp only [go_sem,seval]))
        | fail)
       refine rS_ Tryz.func20 ?_
       simp only [go_sem,seval]
       try simp (disch:=omega) only [j6]
       refine hnx (L'++[y]) B' Bz _ ⟨by omega,by simp;omega,by simpa using hinv⟩ (by omega) (by refine ⟨by simp [mkS,Rl.enc_eq y,k1,k2,anyR],by simp [mkS,Rl.enc_eq y,k1,k2,anyR],by simp only [mkS,a_,b_,O.refsLt,C.refsLt,C.refsLt1,all_dmap];first | done | rfl | (simp;done),?_⟩;simp [mkS,Abs.get,C.refsLtT,C.refsLt,C.refsLt1])
      | false =>
       have hf:¬slF p s i=true:=by rw [hfi,hrc,hike];simp
       rw [if_neg hf] at hinv
       rw [hrc] at hB
       refine rS_ Tryz.func20 ?_
       simp only [go_sem,seval,hike,hB]
       repeat' (first
        | (simp (disch:=omega) only [j6])
        | fail)
       try simp (disch:=omega) only [j6]
       refine hnx L' B' B4 _ ⟨by omega,by omega,hinv⟩ (by omega) (by refine ⟨by simp [mkS,anyR],by simp [mkS,anyR],by simp only [mkS,a_,b_,O.refsLt,C.refsLt,C.refsLt1,all_dmap];first | done | rfl | (simp;done),?_⟩;simp [mkS,Abs.get,C.refsLtT,C.refsLt,C.refsLt1])
   ·obtain rfl:i=p.rels.length:=by omega
    rw [List.drop_length] at hinv
    have hinv:L'=pickL (slF p s) 0 p.rels:=by simpa [pickL] using hinv
    rw [←hinv]
    refine AW.placeB 4 0 5 0 rfl rfl rfl rfl (by decide) ?_
    refine rS_ Tryz.func20 ?_
    simp only [go_sem,seval]
    repeat' (first
     | (exact ⟨_,_,rfl⟩)
     | fail)
  ·have hok:slB p s=false:=by unfold slB;simp [h0]
   rw [hok]
   simp only [Bool.false_eq_true,if_false]
   have hnn:p.find s<0:=by omega
   refine aE_ Tryz.func20 ?_
   refine run_sound Tryz.func20 mixed 10 _ _ (by kernel_rfl) ?_
   simp only [go_sem,seval,run.eq_1,hnn]
   repeat' (first
    | ((refine hfr.calls rfl ?_)<;>(try simp only [go_sem,seval,hnn,run.eq_1]))
    | fail)
   refine AW.adoptTB 2 0 7 81 (by decide) rfl rfl ?_
   refine AW.placeB 2 0 3 0 rfl rfl rfl rfl (by decide) ?_
   refine rS_ Tryz.func20 ?_
   simp only [go_sem,seval]
   repeat' (first
    | (exact ⟨_,_,rfl⟩)
    | fail)
 ·simp only [Bool.not_eq_true] at hp
  have hok:slB p s=false:=by unfold slB;rw [hp];rfl
  rw [hp] at hfr
  rw [hok]
  simp only [Bool.false_eq_true,if_false]
  refine aE_ Tryz.func20 ?_
  refine run_sound Tryz.func20 mixed 10 _ _ (by kernel_rfl) ?_
  simp only [go_sem,seval,run.eq_1]
  repeat' (first
   | ((refine hfr.calls rfl ?_)<;>(try simp only [go_sem,seval,run.eq_1]))
   | fail)
  refine AW.adoptTB 2 0 7 81 (by decide) rfl rfl ?_
  refine AW.placeB 2 0 3 0 rfl rfl rfl rfl (by decide) ?_
  refine rS_ Tryz.func20 ?_
  simp only [go_sem,seval]
  repeat' (first
   | (exact ⟨_,_,rfl⟩)
   | fail)
end Go.Proofs.YtlajhmoomlgopaaGreat
