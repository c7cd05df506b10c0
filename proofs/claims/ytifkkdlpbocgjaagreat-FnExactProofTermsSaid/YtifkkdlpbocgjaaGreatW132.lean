import Derived.Test.YtifkkdlpbocgjaaGreatW130
import Derived.Test.YtifkkdlpbocgjaaGreatW131
import Derived.Test.YtifkkdlpbocgjaaGreatW39
namespace Go.Abs
theorem AW.readGB {P:Program} {f:FuncId} {n n0:Nat} {R:C→List O→Prop} {k:List Item} {s:St} (rb j r:Nat) {q z e:Nat} {cs:List C} {xs:List (List D)} (hb:s.H[rb]? = some (.box cs)) (hj:cs[j]? = some (.own r q)) (hr:s.H[r]? = some (.grow q z e xs))
  (h:AW P f n n0 R k ⟨s.σ,s.H.set rb (.box (cs.set j (.d (.sl xs))))⟩):AW P f n n0 R k s:=by
 refine AW.recast (s':=⟨s.σ,s.H.set rb (.box (cs.set j (.d (.sl xs))))⟩) (fun hn0 E a hst=>?_)
 exact ⟨E,rfl,Le.refl E,⟨hst.size,hst.defers,hst.heap.readB hb hj hr,fun t=>hst.slot t⟩,h⟩
end Go.Abs
namespace Go.Proofs.YtifkkdlpbocgjaaGreat
open Go.Abs
set_option maxRecDepth 100000
set_option maxHeartbeats 8000000
set_option linter.unusedSimpArgs false
set_option linter.unusedVariables false
theorem Pf.cnts_app:∀a b:List Pf,Pf.cnts (a++b)=Pf.cnts a+Pf.cnts b
 | [],b=>by simp [Pf.cnts]
 | k :: a,b=>by simp only [List.cons_append,Pf.cnts,Pf.cnts_app a b];omega
def ptH (pb tb:List D) (q:Nat) (L:List (List D)):List O:=[.hole,.box (pb.map .d),.box (tb.map .d),.box [.own 4 q],.grow q 4 60 L,.box [.fn 27 [.ptr 3 0,.ptr 5 0]]]
def ptW (t:Pf):Prop:=∀(pb tb:List D) (q:Nat) (L:List (List D)),L.length+t.trms.length≤2000000→ACalls Tryz.prog 27 [.d (.agg t.enc),.ptr 3 0,.ptr 5 0] (ptH pb tb q L) (fun c H'=>c=.tup []∧H'=ptH pb tb (q+t.cnt) (L++t.trms.map Tm.enc))
theorem proofTerms1_T:∀t:Pf,ptW t:=by
 intro t
 induction t using Pf.ind' with
 | h t ih =>
  intro pb tb q L hl
  have hmx:maxLen=9223372036854775807:=rfl
  rw [Pf.trms_eq,List.length_append] at hl
  rw [Pf.trms_eq,List.map_append,←List.append_assoc,Pf.cnt_eq]
  unfold ptH
  refine ACalls.enter (fn:=Tryz.f27) Tryz.func27 rfl (by show 3≤_;decide) ?_
  refine run_sound Tryz.func27 mixed 200 _ _ (by kernel_rfl) ?_
  simp only [go_sem,seval]
  repeat' (first
   | ((refine ⟨sd,?_⟩)<;>(try simp only [go_sem,seval]))
   | fail)
  refine AW.rng t.kids [2,11,12] 13 11 (fun _:Nat×List (List D)=>[]) (fun _ M=>[.hole,.box (pb.map .d),.box (tb.map .d),.box [.own 4 M.1],.grow M.1 4 60 M.2,.box [.fn 27 [.ptr 3 0,.ptr 5 0]],.box (t.enc.map .d)]) (fun r M=>∃d,t.kids=d++r∧M.1=q+1+Pf.cnts d∧M.2=L++t.values.map Tm.enc++(Pf.trmss d).map Tm.enc) (q+1,L++t.values.map Tm.enc) rfl (by simp) ⟨[],rfl,rfl,by simp [Pf.trmss]⟩ (by refine ⟨by simp [mkS],by simp [mkS],by simp only [mkS,List.all_cons,List.all_nil,O.refsLt,C.refsLt,C.refsLt1,all_dmap];first | done | rfl | (simp;done),?_⟩;simp [mkS,Abs.get,C.refsLtT,C.refsLt,C.refsLt1]) (fun i x r M hxi hdr hlt hm hinv hnext=>?_) (fun M hinv=>?_)
  ·obtain ⟨M1,M⟩:=M
   obtain ⟨d,d1,d3,d2⟩:=hinv
   dsimp only at d2 d3 hnext ⊢
   have hnx:=fun a b s'=>hnext (a,b) s'
   clear hnext
   have hxm:=List.mem_of_getElem? hxi
   have hMl:M.length+x.trms.length≤2000000:=by
    have h2:=congrArg (fun l=>(Pf.trmss l).length) d1
    simp only [Pf.trmss_app,Pf.trmss,List.length_append] at h2
    rw [d2]
    simp only [List.length_append,List.length_map]
    omega
   have hx:=ih x hxm pb tb M1 M hMl
   unfold ptH at hx
   refine run_sound Tryz.func27 mixed 200 _ _ (by kernel_rfl) ?_
   simp only [go_sem,seval,hlt,idx_of hxi]
   repeat' (first
    | (simp (disch:=omega) only [wrap_ok])
    | ((refine hx.frame (X:=[_,_]) rfl (by simp only [List.all_cons,List.all_nil,O.refsLt,all_dmap,C.refsLt,C.refsLt1];rfl) ?_<;>(rintro c H' ⟨rfl,rfl⟩ _))<;>(try simp only [go_sem,seval,hlt,idx_of hxi]))
    | fail)
   all_goals first | (simp only [all_dmap,Bool.and_self];done) | skip
   all_goals refine hnx (M1+x.cnt) (M++x.trms.map Tm.enc) _ ⟨d++[x],by rw [d1];simp,by rw [Pf.cnts_app];simp only [Pf.cnts,d3];omega,by dsimp only;rw [d2,Pf.trmss_app];simp [Pf.trmss]⟩ (by refine ⟨by simp [mkS],by simp [mkS],by simp only [mkS,List.all_cons,List.all_nil,O.refsLt,C.refsLt,C.refsLt1,all_dmap];first | done | rfl | (simp;done),?_⟩;simp [mkS,Abs.get,C.refsLtT,C.refsLt,C.refsLt1])
  ·obtain ⟨M1,M⟩:=M
   obtain ⟨d,d1,d3,d2⟩:=hinv
   dsimp only at d2 d3 ⊢
   rw [List.append_nil] at d1
   subst d1
   rw [←d2,←Nat.add_assoc,←d3]
   refine run_sound Tryz.func27 mixed 200 _ _ (by kernel_rfl) ?_
   simp only [go_sem,seval]
   all_goals first | (simp only [all_dmap,Bool.and_self];done) | skip
theorem iProofTerms_T (p:Pg) (t:Pf) (hwp:wtL p.enc≤1048576) (hw:wtL t.enc≤1048576):ACalls Tryz.prog 9 [.d (.agg p.enc),.d (.agg t.enc)] [.hole] (fun c H'=>c=.own 0 1∧∃e B,H'=[.tree 1 4 e ((Pf.terms p t).map V.enc) B none]):=by
 have hmx:maxLen=9223372036854775807:=rfl
 have ho:=iProofOk_fn p t hwp hw
 unfold Pf.terms
 cases hok:p.prfOk t with
 | false =>
  rw [hok] at ho
  rw [if_neg (by simp)]
  refine ACalls.enter (fn:=Tryz.f9) Tryz.func9 rfl (by show 2≤_;decide) ?_
  refine run_sound Tryz.func9 mixed 8 _ _ (by kernel_rfl) ?_
  simp only [go_sem,seval,run.eq_1]
  repeat' (first
   | ((refine ho.calls rfl ?_)<;>(try simp only [go_sem,seval,run.eq_1]))
   | fail)
  refine AW.adoptT 4 4 60 (by decide) rfl ?_
  refine AW.place 4 3 0 rfl rfl rfl (by decide) ?_
  refine run_sound Tryz.func9 mixed 200 _ _ (by kernel_rfl) ?_
  simp only [go_sem,seval]
  all_goals exact ⟨_,_,rfl⟩
 | true =>
  rw [hok] at ho
  rw [if_pos rfl]
  have hok2:=hok
  unfold Pg.prfOk at hok2
  simp only [Bool.and_eq_true] at hok2
  have hg:=Pf.trms_ground t hok2.2.2
  have hvl:t.trms.length≤1048576:=by
   have h1:=Pf.trms_wt t
   have h2:=wtR_ge (t.trms.map Tm.enc)
   rw [List.length_map] at h2
   omega
  have hW:=proofTerms1_T t p.enc t.enc 0 [] (by simp;omega)
  unfold ptH at hW
  have hve:t.trms.map Tm.enc=(t.trms.map Tm.V).map V.enc:=by
   conv=>lhs;rw [grounds_V hg]
   exact enc_tms _
  rw [List.nil_append,hve] at hW
  have has:=ascending_T (t.trms.map Tm.V) (by simp;omega)
  refine ACalls.enter (fn:=Tryz.f9) Tryz.func9 rfl (by show 2≤_;decide) ?_
  refine run_sound Tryz.func9 mixed 7 _ _ (by kernel_rfl) ?_
  simp only [go_sem,seval,run.eq_1]
  repeat' (first
   | ((refine ho.calls rfl ?_)<;>(try simp only [go_sem,seval,run.eq_1]))
   | fail)
  refine run_sound Tryz.func9 mixed 2 _ _ (by kernel_rfl) ?_
  simp only [go_sem,seval,run.eq_1]
  refine AW.adoptGB 3 0 4 60 (by decide) rfl rfl ?_
  refine run_sound Tryz.func9 mixed 6 _ _ (by kernel_rfl) ?_
  simp only [go_sem,seval,run.eq_1]
  repeat' (first
   | ((refine hW.mono ?_<;>(rintro c H' ⟨rfl,rfl⟩))<;>(try simp only [go_sem,seval,run.eq_1]))
   | fail)
  refine AW.readGB 3 0 4 rfl rfl rfl ?_
  refine run_sound Tryz.func9 mixed 200 _ _ (by kernel_rfl) ?_
  simp only [go_sem,seval]
  repeat' (first
   | ((first
    | (refine ACalls.fresh (ds:=[.sl ((t.trms.map Tm.V).map V.enc)]) (m:=1) has [0] rfl rfl (by simp) (by simp) ?_<;>(rintro c H' ⟨rfl,e1,B1,rfl⟩ _;refine ⟨rfl,rfl,?_⟩))
    | (refine ⟨by assumption,?_⟩))<;>(try simp only [go_sem,seval]))
   | fail)
  all_goals first | exact ⟨_,_,rfl⟩ | skip
end Go.Proofs.YtifkkdlpbocgjaaGreat
