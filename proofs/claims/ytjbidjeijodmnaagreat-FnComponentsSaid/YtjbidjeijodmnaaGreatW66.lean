import Derived.Test.YtjbidjeijodmnaaGreatW31
import Derived.Test.YtjbidjeijodmnaaGreatA9
import Derived.Test.YtjbidjeijodmnaaGreatP9
namespace Go.Proofs.YtjbidjeijodmnaaGreat
open Go.Abs
set_option maxRecDepth 100000
set_option maxHeartbeats 4000000
set_option linter.unusedSimpArgs false
set_option linter.unusedVariables false
def cRows (p:Pg):List (List Int):=p.rels.map fun r=>p.rowI r.body
theorem cRows_len (p:Pg):(cRows p).length=p.rels.length:=by simp [cRows]
theorem asc_nodup {l:List Int} (h:Asc l):l.Nodup:=by
 rw [List.nodup_iff_pairwise_ne]
 exact List.Pairwise.imp (fun {a b} hab=>by omega) h
theorem cRows_ok {p:Pg} (h:pgOk p=true):RelRows (cRows p)∧(∀r,r∈cRows p→Asc r)∧p.rels.length≤8:=by
 have h0:=h
 unfold pgOk at h0
 simp only [Bool.and_eq_true,decide_eq_true_eq] at h0
 have ha:∀r,r∈cRows p→Asc r:=fun r hr=>by
  obtain ⟨x,_,rfl⟩:=List.mem_map.1 hr
  exact ascOf_asc _
 refine ⟨fun r hr=>⟨asc_nodup (ha r hr),fun y hy=>?_⟩,ha,h0.1⟩
 obtain ⟨x,hx,rfl⟩:=List.mem_map.1 hr
 unfold Pg.rowI at hy
 rw [ascOf_mem] at hy
 obtain ⟨nm,hn,rfl⟩:=List.mem_map.1 hy
 obtain ⟨k,hk⟩:=okL_mem h0.2 x hx
 unfold Pg.relOk at hk
 simp only [Bool.and_eq_true] at hk
 have hc:p.callsFit x.body=true:=hk.2
 unfold Pg.callNames at hn
 obtain ⟨g,hg,hgn⟩:=List.mem_map.1 hn
 obtain ⟨hg1,hg2⟩:=List.mem_filter.1 hg
 unfold Pg.callsFit at hc
 simp only [List.all_eq_true] at hc
 have hf:=hc g hg1
 have h9:g.kind=9:=by simpa using hg2
 unfold Pg.fitC at hf
 rw [hgn] at hf
 simp only [h9,decide_true,Bool.not_true,Bool.false_or] at hf
 have hcl:=cRows_len p
 have hr:=p.find_range nm
 split at hf
 ·rename_i r' hr'
  simp only [Bool.and_eq_true,decide_eq_true_eq] at hf
  omega
 ·cases hf
theorem calledBy_fn (p:Pg) (hw:wtL p.enc≤1048576):Gives Tryz.prog 20 [.agg p.enc] (.d (.sl ((cRows p).map encI2))):=by
 refine ACalls.frozen (ds:=[.agg p.enc]) (m:=1) (calledBy_T p hw) (fun c H' ⟨h1,e,B,h2⟩ _=>?_)
 subst h1 h2
 rfl
def encF (ks:List Int):List D:=[.fset ks]
theorem reach_R (p:Pg) (hw:wtL p.enc≤1048576) (hC:RelRows (cRows p)) (hl8:p.rels.length≤8):ACalls Tryz.prog 21 [.d (.agg p.enc)] [] (fun c H'=>∃L:List (List Int),c=.d (.sl (L.map encF))∧L.length=p.rels.length∧∀(i:Nat) (ks:List Int),L[i]? = some ks→∀k:Int,k∈ks↔rc (cRows p) i k=true):=by
 have hmx:maxLen=9223372036854775807:=rfl
 have hcb:=calledBy_fn p hw
 have hcl:=cRows_len p
 generalize cRows p=M at *
 refine ACalls.enter (fn:=Tryz.f21) Tryz.func21 rfl (by show 1≤_;decide) ?_
 refine run_sound Tryz.func21 mixed 10 _ _ (by kernel_rfl) ?_
 simp only [go_sem,seval,run.eq_1]
 repeat' (first
  | ((refine hcb.calls rfl ?_)<;>(try simp only [go_sem,seval,run.eq_1]))
  | fail)
 refine AW.adopt 4 1 53 (by decide) rfl ?_
 refine run_sound Tryz.func21 mixed 200 _ _ (by kernel_rfl) ?_
 simp only [go_sem,seval]
 refine AW.rng p.rels [3,14] 15 13 (fun L:List (List Int)=>[(4,.own 1 L.length)]) (fun _ L=>[.box (p.enc.map .d),.grow L.length 1 53 (L.map encF)]) (fun r L=>L.length+r.length=p.rels.length∧∀(i:Nat) (ks:List Int),L[i]? = some ks→∀k:Int,k∈ks↔rc M i k=true) [] rfl (by simp) ⟨by simp,by simp⟩ (by refine ⟨by simp [mkS],by simp [mkS],by simp only [mkS,List.all_cons,List.all_nil,O.refsLt,C.refsLt,C.refsLt1,all_dmap];first | done | rfl | (simp;done),?_⟩;simp [mkS,Abs.get,C.refsLtT,C.refsLt,C.refsLt1]) (fun i x r L hxi hdr hlt hm hinv hnext=>?_) (fun L hinv=>?_)
 ·obtain ⟨hi1,hi2⟩:=hinv
  have hdl:=congrArg List.length hdr
  simp only [List.length_drop,List.length_cons] at hdl hi1
  have hiL:i=L.length:=by omega
  have hrow:∀j:Nat,j<M.length→(M.map encI2)[j]? = some [.sl (intsD (relRow M j))]:=fun j hj=>by
   have:M[j]? = some (relRow M j):=by
    unfold relRow;rw [Int.toNat_natCast,List.getD_eq_getElem?_getD,List.getElem?_eq_getElem hj];rfl
   rw [List.getElem?_map,this];rfl
  have hie:=hrow i (by omega)
  have hrl:=fun j=>int_nodup_le (hC.at j).1 (hC.at j).2
  have hri:=hrl (i:Int)
  refine run_sound Tryz.func21 mixed 14 _ _ (by kernel_rfl) ?_
  simp only [go_sem,seval,run.eq_1,hlt,idx_of hie,hcl]
  repeat' (first
   | ((refine ⟨sd,?_⟩)<;>(try simp only [go_sem,seval,hlt,idx_of hie,hcl,run.eq_1]))
   | fail)
  refine AW.toQue 3 rfl ?_
  refine run_sound Tryz.func21 mixed 1 _ _ (by kernel_rfl) ?_
  simp only [go_sem,seval,run.eq_1]
  refine AW.lp [3,4,6,14,15] (fun u:List Int×List Int×Nat=>[(7,.own 3 u.2.2)]) (fun _ u=>[.box (p.enc.map .d),.grow L.length 1 53 (L.map encF),.map false (keysM u.1),.que u.2.2 1 3 (intsD u.2.1)]) (fun u=>Bfs M i u.1 u.2.1∧bfsM M u.1 u.2.1≤80) (fun u=>bfsM M u.1 u.2.1) ([],relRow M i,1) ⟨Bfs.init hC i,by
   have h1:M.length * (M.length+1)≤8 * 9:=Nat.mul_le_mul (by omega) (by omega)
   simp only [bfsM,List.length_nil,Nat.sub_zero];omega⟩ (by refine ⟨by simp [mkS,keysM],by simp [mkS,keysM],by simp only [mkS,List.all_cons,List.all_nil,O.refsLt,C.refsLt,C.refsLt1,all_dmap];first | done | rfl | (simp;done),?_⟩;simp [mkS,Abs.get,C.refsLtT,C.refsLt,C.refsLt1]) ?_
  rintro ⟨ks,td,q⟩ ⟨hb,hb8⟩ hnx
  dsimp only at hb hb8 hnx ⊢
  cases td with
  | nil =>
   have hdn:=hb.done
   have hn0:intsD ([]:List Int)=[]:=rfl
   refine run_sound Tryz.func21 mixed 5 _ _ (by kernel_rfl) ?_
   simp only [go_sem,seval,run.eq_1,hn0,List.length_nil]
   refine AW.freezeM 6 2 (ks:=ks) rfl rfl ?_
   refine run_sound Tryz.func21 mixed 200 _ _ (by kernel_rfl) ?_
   simp only [go_sem,seval]
   refine ⟨by omega,by omega,?_⟩
   try simp (disch:=omega) only [wrap_ok]
   refine hnext (L++[ks]) _ ⟨by rw [List.length_append];simp;omega,fun j ks' hj k=>?_⟩ (by refine ⟨by simp [mkS,encF],by simp [mkS,encF],by simp only [mkS,List.all_cons,List.all_nil,O.refsLt,C.refsLt,C.refsLt1,all_dmap];first | done | rfl | (simp;done),?_⟩;simp [mkS,Abs.get,C.refsLtT,C.refsLt,C.refsLt1,encF])
   by_cases hjl:j<L.length
   ·rw [List.getElem?_append_left hjl] at hj
    exact hi2 j ks' hj k
   ·rw [List.getElem?_append_right (by omega)] at hj
    have hj0:j - L.length=0:=by
     have:=(List.getElem?_eq_some_iff.1 hj).1
     simp at this;omega
    rw [hj0] at hj
    simp at hj
    subst hj
    have hji:j=i:=by omega
    subst hji
    unfold rc
    rw [hdn,decide_eq_true_eq]
  | cons k td =>
   have hkr:=hb.tr k (by simp)
   obtain ⟨n,rfl⟩:∃n:Nat,k=n:=⟨k.toNat,by omega⟩
   have hin:=hrow n (by omega)
   have hnd:intsD ((n:Int) :: td)=[.int .i64 n] :: intsD td:=rfl
   have hgt:(0:Int)<((intsD td).length+1:Nat):=by omega
   have hmg:mget (keysM ks) (.int .i64 n)=if (n:Int)∈ks then some (.bool true) else none:=mget_fset n ks
   by_cases hk:(n:Int)∈ks
   ·refine run_sound Tryz.func21 mixed 9 _ _ (by kernel_rfl) ?_
    simp only [go_sem,seval,run.eq_1,hnd,hgt,List.length_cons]
    repeat' (first
     | ((refine br_n (fun hq=>?_) (fun hq=>?_))<;>(try simp only [go_sem,seval,hnd,hgt,List.length_cons,run.eq_1,hq]))
     | fail)
    all_goals first | (exfalso;omega) | skip
    refine AW.regT ?_
    simp only [go_sem,seval]
    repeat' (first
     | ((refine ⟨sd,?_⟩)<;>(try simp only [go_sem,seval,List.drop_succ_cons,List.drop_zero,List.length_cons]))
     | fail)
    refine run_sound Tryz.func21 mixed 200 _ _ (by kernel_rfl) ?_
    simp only [go_sem,seval,hmg,hk,List.drop_succ_cons,List.drop_zero]
    have hm0:=bfsM_old (C:=M) (k:=n) (ks:=ks) (td:=td)
    refine hnx (ks,td,q+1) _ ⟨hb.old hk,by dsimp only;omega⟩ hm0 (by refine ⟨by simp [mkS],by simp [mkS],by simp only [mkS,List.all_cons,List.all_nil,O.refsLt,C.refsLt,C.refsLt1,all_dmap];first | done | rfl | (simp;done),?_⟩;simp [mkS,Abs.get,C.refsLtT,C.refsLt,C.refsLt1])
   ·have hka:addK ks n=ks++[(n:Int)]:=by unfold addK;rw [if_neg hk]
    refine run_sound Tryz.func21 mixed 9 _ _ (by kernel_rfl) ?_
    simp only [go_sem,seval,run.eq_1,hnd,hgt,List.length_cons]
    repeat' (first
     | ((refine br_n (fun hq=>?_) (fun hq=>?_))<;>(try simp only [go_sem,seval,hnd,hgt,List.length_cons,run.eq_1,hq]))
     | fail)
    all_goals first | (exfalso;omega) | skip
    refine AW.regT ?_
    simp only [go_sem,seval]
    repeat' (first
     | ((refine ⟨sd,?_⟩)<;>(try simp only [go_sem,seval,List.drop_succ_cons,List.drop_zero,List.length_cons]))
     | fail)
    refine run_sound Tryz.func21 mixed 5 _ _ (by kernel_rfl) ?_
    simp only [go_sem,seval,run.eq_1,hmg,hk,List.drop_succ_cons,List.drop_zero,mset_keys,hka]
    have hrn:=hrl (n:Int)
    have htl:td.length≤80:=by simp only [bfsM,List.length_cons] at hb8;omega
    refine AW.regT ?_
    simp only [go_sem,seval,idx_of hin,hcl,intsD_len]
    repeat' (first
     | ((refine ⟨sd,?_⟩)<;>(try simp only [go_sem,seval,idx_of hin,hcl,intsD_len]))
     | fail)
    trace_state
    refine run_sound Tryz.func21 mixed 200 _ _ (by kernel_rfl) ?_
    simp only [go_sem,seval]
    have hm0:=bfsM_new hC hb hk
    refine hnx (ks++[(n:Int)],td++relRow M n,q+1+1) _ ⟨hb.new hC hk,by dsimp only;omega⟩ hm0 (by refine ⟨by simp [mkS,intsD_append],by simp [mkS,intsD_append],by simp only [mkS,List.all_cons,List.all_nil,O.refsLt,C.refsLt,C.refsLt1,all_dmap];first | done | rfl | (simp;done),?_⟩;simp [mkS,Abs.get,C.refsLtT,C.refsLt,C.refsLt1])
 ·obtain ⟨hi1,hi2⟩:=hinv
  simp only [List.length_nil,Nat.add_zero] at hi1
  refine run_sound Tryz.func21 mixed 200 _ _ (by kernel_rfl) ?_
  simp only [go_sem,seval]
  repeat' (first
   | (exact ⟨L,rfl,hi1,hi2⟩)
   | fail)
end Go.Proofs.YtjbidjeijodmnaaGreat
