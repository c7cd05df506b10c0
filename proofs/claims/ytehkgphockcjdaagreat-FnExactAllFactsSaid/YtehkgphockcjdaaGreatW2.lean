import Derived.Test.YtehkgphockcjdaaGreatW1
namespace Go.Proofs.YtehkgphockcjdaaGreat
open Go.Abs
set_option maxRecDepth 100000
set_option maxHeartbeats 4000000
set_option linter.unusedSimpArgs false
set_option linter.unusedVariables false
theorem l02Shape_fn:∀(t:Tm),wtL t.enc≤9000000→Gives Tryz.prog 91 [.agg t.enc] (.d (.bool (t.v?.isSome))):=by
 intro t
 induction t using Tm.ind' with
 | h t ih =>
  intro hw
  have hn:=name_wt t
  have bd:=shape_bad t
  have lf:=shape_leaf t
  have pr:=shape_pair t
  by_cases h2:t.args.length=2
  ·obtain ⟨a,b,hab⟩:∃a b,t.args=[a,b]:=by
    match h:t.args,h2 with
    | [a,b],_=>exact ⟨a,b,rfl⟩
   have ia:=ih a (by simp [hab])
   have ib:=ih b (by simp [hab])
   have wa:=wt_args (t:=t) (x:=a) (by simp [hab])
   have wb:=wt_args (t:=t) (x:=b) (by simp [hab])
   generalize t.v?.isSome=N at bd lf pr ⊢
   refine aE_ Tryz.func91 ?_
   refine rS_ Tryz.func91 ?_
   simp only [go_sem,seval]
   repeat' (first
    | ((refine br_n (fun hq=>?_) (fun hq=>?_))<;>(try simp only [go_sem,seval,hab,hq]))
    | ((first
     | (refine (ia (by omega)).calls rfl ?_)
     | (refine (ib (by omega)).calls rfl ?_))<;>(try simp only [go_sem,seval,hab]))
    | fail)
   all_goals clear ia ib
   all_goals try clear ih
   all_goals try clear hnext
   all_goals first
    | (simp_all;done)
    | (simp_all;omega)
    | (simp_all;split<;>simp_all<;>omega)
    | (exfalso;omega)
    | assumption
  ·generalize t.v?.isSome=N at bd lf pr ⊢
   refine aE_ Tryz.func91 ?_
   refine rS_ Tryz.func91 ?_
   simp only [go_sem,seval]
   repeat' (first
    | ((first | (refine br_n (fun hq=>?_) (fun hq=>?_)) | (refine idx_intro (fun x hx=>have hq:=hx;?_)))<;>(try simp only [go_sem,seval,hq]))
    | ((first
     | (refine (l01In_fn _ _ _).calls rfl ?_)
     | (refine (sIsName_fn _ sd).calls rfl ?_))<;>(try simp only [go_sem,seval]))
    | fail)
   all_goals try clear ih
   all_goals try clear hnext
   all_goals first
    | (simp_all;done)
    | (simp_all;omega)
    | (simp_all;split<;>simp_all<;>omega)
    | (exfalso;omega)
    | assumption
theorem sTermOk_fn (t:Tm) (hw:wtL t.enc≤9000000):Gives Tryz.prog 68 [.agg t.enc] (.d (.bool (tmOk t))):=by
 have hc:=count_ok t
 generalize tmOk t=N at hc ⊢
 refine aE_ Tryz.func68 ?_
 refine rS_ Tryz.func68 ?_
 simp only [go_sem,seval]
 repeat' (first
  | ((refine br_n (fun hq=>?_) (fun hq=>?_))<;>(try simp only [go_sem,seval,hq]))
  | ((first
   | (refine (l02Count_fn _ _ sd sd sd).calls rfl ?_)
   | (refine (l02Shape_fn _ sd).calls rfl ?_))<;>(try simp only [go_sem,seval]))
  | fail)
 all_goals first
  | (rw [←hc,decide_eq_false (by omega)];rfl)
  | (simp_all;done)
theorem l02AllOk_fn (l:List Tm) (hl:∀t,t∈l→wtL t.enc≤9000000):Gives Tryz.prog 112 [.sl (l.map Tm.enc)] (.d (.bool (l.all tmOk))):=by
 refine aE_ Tryz.func112 ?_
 refine rS_ Tryz.func112 ?_
 simp only [go_sem,seval]
 refine AW.rng l [5,6] 7 5 (fun _:Unit=>[]) (fun H _=>H) (fun r _=>r.all tmOk=l.all tmOk) () rfl (by simp) rfl wk2_ (fun i x r acc hxi hdr hlt hm hinv hnext=>?_) (fun acc hinv=>?_)
 ·have hw:=hl x (List.mem_of_getElem? hxi)
  refine rS_ Tryz.func112 ?_
  simp only [go_sem,seval,hlt,idx_of hxi]
  repeat' (first
   | ((refine br_n (fun hq=>?_) (fun hq=>?_))<;>(try simp only [go_sem,seval,hq]))
   | (simp (disch:=omega) only [wrap_ok])
   | (refine hnext () _ ?_ wk2_)
   | ((refine (sTermOk_fn _ sd).calls rfl ?_)<;>(try simp only [go_sem,seval]))
   | fail)
  all_goals try clear ih
  all_goals try clear hnext
  all_goals first
   | (simp_all;done)
   | (simp_all;omega)
   | (simp_all;split<;>simp_all<;>omega)
   | (exfalso;omega)
   | assumption
 ·refine rS_ Tryz.func112 ?_
  simp only [go_sem,seval]
  simp_all
theorem l02Sign_fn (b:Bool):Gives Tryz.prog 70 [.bool b] (.d (.int .i64 (if b then -1 else 1))):=by
 refine aE_ Tryz.func70 ?_
 refine rS_ Tryz.func70 ?_
 simp only [go_sem,seval]
 repeat' (first
  | ((refine br_n (fun hq=>?_) (fun hq=>?_))<;>(try simp only [go_sem,seval,hq]))
  | fail)
 all_goals try clear ih
 all_goals try clear hnext
 all_goals first
  | (simp_all;done)
  | (simp_all;omega)
  | (simp_all;split<;>simp_all<;>omega)
  | (exfalso;omega)
  | assumption
theorem orderInts_fn (a b:Int):Gives Tryz.prog 81 [.int .i64 a,.int .i64 b] (.d (.int .i64 (ordInt a b))):=by
 refine aE_ Tryz.func81 ?_
 refine rS_ Tryz.func81 ?_
 simp only [go_sem,seval]
 repeat' (first
  | ((refine br_n (fun hq=>?_) (fun hq=>?_))<;>(try simp only [go_sem,seval,hq]))
  | fail)
 all_goals try clear ih
 all_goals try clear hnext
 all_goals first
  | (simp_all [ordInt];done)
  | (simp_all [ordInt];omega)
  | (simp_all [ordInt];split<;>simp_all<;>omega)
  | (exfalso;omega)
  | assumption
theorem orderTerms_fn:∀(m:Nat) (a b:V),a.size≤m→Gives Tryz.prog 56 [.agg a.enc,.agg b.enc] (.d (.int .i64 (a.cmp b))):=by
 intro m
 induction m with
 | zero=>intro a b h;have:=a.size_pos;omega
 | succ m ih =>
  intro a b hm
  by_cases h:(∃x y,a=.pair x y)∧(∃x y,b=.pair x y)
  ·obtain ⟨⟨a1,a2,rfl⟩,b1,b2,rfl⟩:=h
   have:=a1.size_pos
   have:=a2.size_pos
   have hc:=V.cmp_pair a1 a2 b1 b2
   have hab:∀x y:V,(V.pair x y).kids=[x,y]∧(V.pair x y).kind=4∧(V.pair x y).int=0∧(V.pair x y).name=[]:=fun _ _=>⟨rfl,rfl,rfl,rfl⟩
   simp only [V.size] at hm
   generalize V.cmp (.pair a1 a2) (.pair b1 b2)=N at hc ⊢
   refine aE_ Tryz.func56 ?_
   refine rS_ Tryz.func56 ?_
   simp only [go_sem,seval]
   simp only [go_sem,seval,hab]
   repeat' (first
    | ((refine br_n (fun hq=>?_) (fun hq=>?_))<;>(try simp only [go_sem,seval,hab,hq]))
    | ((first
     | (refine (ih a1 b1 (by omega)).callQ rfl ?_)
     | (refine (ih a2 b2 (by omega)).callQ rfl ?_))<;>(try simp only [go_sem,seval,hab]))
    | fail)
   all_goals try clear ih
   all_goals try clear hnext
   all_goals first
    | (simp_all;done)
    | (simp_all;omega)
    | (simp_all;split<;>simp_all<;>omega)
    | (exfalso;omega)
    | assumption
  ·have hk:a.kind≠4∨b.kind≠4:=by
    rcases a.pair_or with ha | ⟨ha,_⟩
    ·rcases b.pair_or with hb | ⟨hb,_⟩
     ·exact absurd ⟨ha,hb⟩ h
     ·exact .inr hb
    ·exact .inl ha
   have hc:=V.cmp_else hk
   generalize V.cmp a b=N at hc ⊢
   clear ih h hm
   refine aE_ Tryz.func56 ?_
   refine rS_ Tryz.func56 ?_
   simp only [go_sem,seval]
   repeat' (first
    | ((first | (refine br_n (fun hq=>?_) (fun hq=>?_)) | (refine idx_intro (fun x hx=>have hq:=hx;?_)))<;>(try simp only [go_sem,seval,hq]))
    | ((first
     | (refine (orderInts_fn _ _).calls rfl ?_)
     | (refine ⟨sd,?_⟩))<;>(try simp only [go_sem,seval]))
    | fail)
   all_goals first
    | (exfalso;omega)
    | (simp_all [ordInt];done)
    | (simp_all [ordInt];omega)
    | (simp_all [ordInt];split<;>simp_all<;>omega)
theorem l02Cmp_fn:∀(m:Nat) (a b:V),a.size≤m→Gives Tryz.prog 46 [.agg a.enc,.agg b.enc] (.d (.int .i64 (a.cmp b))):=by
 intro m
 induction m with
 | zero=>intro a b h;have:=a.size_pos;omega
 | succ m ih =>
  intro a b hm
  by_cases h:(∃x y,a=.pair x y)∧(∃x y,b=.pair x y)
  ·obtain ⟨⟨a1,a2,rfl⟩,b1,b2,rfl⟩:=h
   have:=a1.size_pos
   have:=a2.size_pos
   have hc:=V.cmp_pair a1 a2 b1 b2
   have hab:∀x y:V,(V.pair x y).kids=[x,y]∧(V.pair x y).kind=4∧(V.pair x y).int=0∧(V.pair x y).name=[]:=fun _ _=>⟨rfl,rfl,rfl,rfl⟩
   simp only [V.size] at hm
   generalize V.cmp (.pair a1 a2) (.pair b1 b2)=N at hc ⊢
   refine aE_ Tryz.func46 ?_
   refine rS_ Tryz.func46 ?_
   simp only [go_sem,seval]
   simp only [go_sem,seval,hab]
   repeat' (first
    | ((refine br_n (fun hq=>?_) (fun hq=>?_))<;>(try simp only [go_sem,seval,hab,hq]))
    | (simp (disch:=omega) only [wrap_ok])
    | ((first
     | (refine AW.loop ?_<;>(refine rS_ Tryz.func46 ?_))
     | (refine AW.round ?_<;>(refine rS_ Tryz.func46 ?_))
     | (refine (ih a1 b1 (by omega)).callQ rfl ?_)
     | (refine (ih a2 b2 (by omega)).callQ rfl ?_))<;>(try simp only [go_sem,seval,hab]))
    | fail)
   all_goals try clear ih
   all_goals try clear hnext
   all_goals first
    | (simp_all;done)
    | (simp_all;omega)
    | (simp_all;split<;>simp_all<;>omega)
    | (exfalso;omega)
    | assumption
  ·have hk:(a.kind≠4∧a.kids=[])∨(b.kind≠4∧b.kids=[]):=by
    rcases a.pair_or with ha | ha
    ·rcases b.pair_or with hb | hb
     ·exact absurd ⟨ha,hb⟩ h
     ·exact .inr hb
    ·exact .inl ha
   have hc:=V.cmp_else (a:=a) (b:=b) (by rcases hk with h | h;exact .inl h.1;exact .inr h.1)
   generalize V.cmp a b=N at hc ⊢
   clear ih h hm
   rcases hk with ⟨hk,hk'⟩ | ⟨hk,hk'⟩
   ·refine aE_ Tryz.func46 ?_
    refine rS_ Tryz.func46 ?_
    simp only [go_sem,seval]
    repeat' (first
     | ((refine br_n (fun hq=>?_) (fun hq=>?_))<;>(try simp only [go_sem,seval,hk',hq]))
     | ((first
      | (refine AW.loop ?_<;>(refine rS_ Tryz.func46 ?_))
      | (refine (l02Sign_fn _).calls rfl ?_))<;>(try simp only [go_sem,seval,hk']))
     | fail)
    all_goals try clear ih
    all_goals try clear hnext
    all_goals first
     | (simp_all;done)
     | (simp_all;omega)
     | (simp_all;split<;>simp_all<;>omega)
     | (exfalso;omega)
     | assumption
   ·refine aE_ Tryz.func46 ?_
    refine rS_ Tryz.func46 ?_
    simp only [go_sem,seval]
    repeat' (first
     | ((refine br_n (fun hq=>?_) (fun hq=>?_))<;>(try simp only [go_sem,seval,hk',hq]))
     | ((first
      | (refine AW.loop ?_<;>(refine rS_ Tryz.func46 ?_))
      | (refine (l02Sign_fn _).calls rfl ?_))<;>(try simp only [go_sem,seval,hk']))
     | fail)
    all_goals try clear ih
    all_goals try clear hnext
    all_goals first
     | (simp_all;done)
     | (simp_all;omega)
     | (simp_all;split<;>simp_all<;>omega)
     | (exfalso;omega)
     | assumption
end Go.Proofs.YtehkgphockcjdaaGreat
