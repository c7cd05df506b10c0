import Derived.Test.YtehkgphockcjdaaGreatW8
namespace Go.Proofs.YtehkgphockcjdaaGreat
open Go.Abs
set_option maxRecDepth 100000
set_option maxHeartbeats 8000000
set_option linter.unusedSimpArgs false
set_option linter.unusedVariables false
theorem ig1_clo (gb:List D):Clo Tryz.prog 99 [.ptr 1 0] 2 (fun n:Int=>D.int .i64 n) (fun b:Bool=>[.box (gb.map .d),.box [.d (.bool b)]]) (fun _=>True) (fun b _=>false):=by
 refine ⟨by kernel_rfl,rfl,fun _=>rfl,fun a=>by simp only [List.all_cons,List.all_nil,O.refsLt,all_dmap,C.refsLt,C.refsLt1];rfl,fun a x _=>?_⟩
 refine aE_ Tryz.func99 ?_
 refine rS_ Tryz.func99 ?_
 simp only [go_sem,seval]
 all_goals simp only [all_dmap]
theorem isGround_fn (v:V):Gives Tryz.prog 80 [.agg v.enc] (.d (.bool (decide (v.vars=[])))):=by
 have e1:=eachVar_fn (ig1_clo v.enc) v true
 have hN:v.vars.foldl (fun (b:Bool) (_:Int)=>false) true=decide (v.vars=[]):=by
  cases v.vars with
  | nil=>rfl
  | cons x r =>
   have:∀(l:List Int),l.foldl (fun (b:Bool) (_:Int)=>false) false=false:=by
    intro l;induction l with
    | nil=>rfl
    | cons y q ih=>exact ih
   rw [List.foldl_cons,this];rfl
 rw [hN] at e1
 generalize decide (v.vars=[])=N at e1 ⊢
 refine aE_ Tryz.func80 ?_
 refine rS_ Tryz.func80 ?_
 simp only [go_sem,seval]
 repeat' (first
  | ((refine ACalls.mono e1 ?_<;>(rintro c H' ⟨rfl,rfl⟩))<;>(try simp only [go_sem,seval]))
  | fail)
theorem iIsGround_fn (t:Tm) (hw:wtL t.enc≤1048576):Gives Tryz.prog 55 [.agg t.enc] (.d (.bool t.ground)):=by
 have hg:t.ground=(tmOk t && decide (t.vars=[])):=rfl
 rw [hg]
 by_cases hok:tmOk t=true
 ·have e1:=isGround_fn t.V
  rw [←Tm.vars_V hok,←Tm.enc_V hok] at e1
  rw [hok,Bool.true_and]
  generalize decide (t.vars=[])=N at e1 ⊢
  refine aE_ Tryz.func55 ?_
  refine rS_ Tryz.func55 ?_
  simp only [go_sem,seval,hok]
  repeat' (first
   | ((first
    | (refine e1.calls rfl ?_)
    | (refine (iTermOk_fn _ sd).calls rfl ?_))<;>(try simp only [go_sem,seval,hok]))
   | fail)
 ·simp only [Bool.not_eq_true] at hok
  rw [hok]
  refine aE_ Tryz.func55 ?_
  refine rS_ Tryz.func55 ?_
  simp only [go_sem,seval,hok]
  repeat' (first
   | ((refine (iTermOk_fn _ sd).calls rfl ?_)<;>(try simp only [go_sem,seval,hok]))
   | fail)
theorem sIsGround_fn (t:Tm) (hw:wtL t.enc≤1048576):Gives Tryz.prog 45 [.agg t.enc] (.d (.bool t.ground)):=by
 have hg:t.ground=(tmOk t && decide (t.vars=[])):=rfl
 have hvw:=Tm.vars_wt t
 have hasc:Asc []:=by simp [Asc]
 have hnil:(t.vars.foldl insA [])=ascOf t.vars:=rfl
 have hlen:(ascOf t.vars).length=0↔t.vars=[]:=by rw [List.length_eq_zero_iff];exact ascOf_nil_iff
 have hN:decide (t.vars=[])=decide (((ascOf t.vars).length:Int)=0):=by
  rw [Bool.eq_iff_iff,decide_eq_true_eq,decide_eq_true_eq,←hlen];omega
 rw [hg,hN]
 clear hg hN hlen
 by_cases hok:tmOk t=true
 ·rw [hok]
  refine aE_ Tryz.func45 ?_
  refine rS_ Tryz.func45 ?_
  simp only [go_sem,seval,hok]
  repeat' (first
   | ((first
    | (refine (l02Vars_fn t [] hasc (by simp;omega)).calls rfl ?_)
    | (refine (sTermOk_fn _ sd).calls rfl ?_))<;>(try simp only [go_sem,seval,hnil,hok]))
   | fail)
 ·simp only [Bool.not_eq_true] at hok
  rw [hok]
  refine aE_ Tryz.func45 ?_
  refine rS_ Tryz.func45 ?_
  simp only [go_sem,seval,hok]
  repeat' (first
   | ((refine (sTermOk_fn _ sd).calls rfl ?_)<;>(try simp only [go_sem,seval,hok]))
   | fail)
end Go.Proofs.YtehkgphockcjdaaGreat
