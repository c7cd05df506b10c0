import Derived.Test.YtjbidjeijodmnaaGreatW7
namespace Go.Proofs.YtjbidjeijodmnaaGreat
open Go.Abs
set_option maxRecDepth 100000
set_option maxHeartbeats 8000000
set_option linter.unusedSimpArgs false
set_option linter.unusedVariables false
theorem neg1_fn (k:Int):Gives Tryz.prog 63 [.int .i64 k] (.d (.bool (decide (k=10)))):=by
 refine ACalls.enter (fn:=Tryz.f63) Tryz.func63 rfl (by show 1≤_;decide) ?_
 refine run_sound Tryz.func63 mixed 200 _ _ (by kernel_rfl) ?_
 simp only [go_sem,seval]
theorem hk1_clo (gb:List D) (f:FuncId) (q:Int→Bool) (hgo:isGo Tryz.prog f=true) (hf:∀k,Gives Tryz.prog f [.int .i64 k] (.d (.bool (q k)))):Clo Tryz.prog 82 [.ptr 2 0,.ptr 1 0] 3 (fun x:Gl=>D.agg x.enc) (fun b:Bool=>[.box (gb.map .d),.box [.fn f []],.box [.d (.bool b)]]) (fun _=>True) (fun b x=>b || q x.kind):=by
 refine ⟨by kernel_rfl,rfl,fun _=>rfl,fun a=>by simp only [List.all_cons,List.all_nil,O.refsLt,all_dmap,C.refsLt,C.refsLt1];rfl,fun a x _=>?_⟩
 refine ACalls.enter (fn:=Tryz.f82) Tryz.func82 rfl (by show 3≤_;decide) ?_
 refine run_sound Tryz.func82 mixed 200 _ _ (by kernel_rfl) ?_
 simp only [go_sem,seval,hgo]
 repeat' (first
  | ((refine br_n (fun hq=>?_) (fun hq=>?_))<;>(try simp only [go_sem,seval,hgo,hq]))
  | ((refine (hf _).calls rfl ?_)<;>(try simp only [go_sem,seval,hgo]))
  | fail)
 all_goals simp only [all_dmap,Bool.false_or,Bool.true_or]
theorem hasKind_fn (g:Gl) (f:FuncId) (q:Int→Bool) (hgo:isGo Tryz.prog f=true) (hf:∀k,Gives Tryz.prog f [.int .i64 k] (.d (.bool (q k)))):ACalls Tryz.prog 62 [.d (.agg g.enc),.fn f []] [] (fun c H'=>c=.d (.bool (g.subs.any fun x=>q x.kind))∧H'=[]):=by
 have e1:=eachGoal_fn (hk1_clo g.enc f q hgo hf) g false (fun _ _=>trivial)
 rw [foldl_any,Bool.false_or] at e1
 generalize (g.subs.any fun x=>q x.kind)=N at e1 ⊢
 refine ACalls.enter (fn:=Tryz.f62) Tryz.func62 rfl (by show 2≤_;decide) ?_
 refine run_sound Tryz.func62 mixed 200 _ _ (by kernel_rfl) ?_
 simp only [go_sem,seval]
 repeat' (first
  | ((refine ACalls.mono e1 ?_<;>(rintro c H' ⟨rfl,rfl⟩))<;>(try simp only [go_sem,seval]))
  | fail)
theorem negative_fn (g:Gl):Gives Tryz.prog 43 [.agg g.enc] (.d (.bool (!g.only false))):=by
 rw [←Gl.only_neg]
 have e1:=hasKind_fn g 63 (fun k=>decide (k=10)) (by kernel_rfl) neg1_fn
 generalize (g.subs.any fun x=>decide (x.kind=10))=N at e1 ⊢
 refine ACalls.enter (fn:=Tryz.f43) Tryz.func43 rfl (by show 1≤_;decide) ?_
 refine run_sound Tryz.func43 mixed 200 _ _ (by kernel_rfl) ?_
 simp only [go_sem,seval]
 repeat' (first
  | ((refine e1.frame (X:=[_]) rfl rfl ?_<;>(rintro c H' ⟨rfl,rfl⟩ _))<;>(try simp only [go_sem,seval]))
  | fail)
theorem positive_fn (p:Pg):Gives Tryz.prog 25 [.agg p.enc] (.d (.bool (p.rels.all fun r=>r.body.only false))):=by
 refine ACalls.enter (fn:=Tryz.f25) Tryz.func25 rfl (by show 1≤_;decide) ?_
 refine run_sound Tryz.func25 mixed 200 _ _ (by kernel_rfl) ?_
 simp only [go_sem,seval]
 refine AW.rng p.rels [6,7] 8 6 (fun _:Unit=>[]) (fun H _=>H) (fun r _=>(r.all fun r=>r.body.only false)=p.rels.all fun r=>r.body.only false) () rfl (by simp) rfl (by refine ⟨by simp [mkS],by simp [mkS],by simp [mkS,O.refsLt,C.refsLt,C.refsLt1],?_⟩;simp [mkS,Abs.get,C.refsLtT,C.refsLt,C.refsLt1]) (fun i x r acc hxi hdr hlt hm hinv hnext=>?_) (fun acc hinv=>?_)
 ·rw [List.all_cons] at hinv
  refine run_sound Tryz.func25 mixed 200 _ _ (by kernel_rfl) ?_
  simp only [go_sem,seval,hlt,idx_of hxi]
  repeat' (first
   | ((refine br_n (fun hq=>?_) (fun hq=>?_))<;>(try simp only [go_sem,seval,hq]))
   | (simp (disch:=omega) only [wrap_ok])
   | (refine hnext () _ ?_ (by refine ⟨by simp [mkS],by simp [mkS],by simp [mkS,O.refsLt,C.refsLt,C.refsLt1],?_⟩;simp [mkS,Abs.get,C.refsLtT,C.refsLt,C.refsLt1]))
   | ((refine (negative_fn _).calls rfl ?_)<;>(try simp only [go_sem,seval]))
   | fail)
  all_goals clear hnext
  all_goals (rw [←hinv];simp_all;done)
 ·rw [List.all_nil] at hinv
  refine run_sound Tryz.func25 mixed 200 _ _ (by kernel_rfl) ?_
  simp only [go_sem,seval]
  rw [←hinv]
theorem iIsPositive_fn (p:Pg) (hw:wtL p.enc≤1048576):Gives Tryz.prog 8 [.agg p.enc] (.d (.bool (p.all false))):=by
 have hp:p.all false=(pgOk p && p.rels.all fun r=>r.body.only false):=rfl
 rw [hp]
 refine ACalls.enter (fn:=Tryz.f8) Tryz.func8 rfl (by show 1≤_;decide) ?_
 refine run_sound Tryz.func8 mixed 200 _ _ (by kernel_rfl) ?_
 simp only [go_sem,seval]
 repeat' (first
  | ((refine br_n (fun hq=>?_) (fun hq=>?_))<;>(try simp only [go_sem,seval,hq]))
  | ((first
   | (refine (iProgramOk_fn _ sd).calls rfl ?_)
   | (refine (positive_fn _).calls rfl ?_))<;>(try simp only [go_sem,seval]))
  | fail)
 all_goals simp [*]
end Go.Proofs.YtjbidjeijodmnaaGreat
