import Derived.Test.YtehcdhelbkjaeaaGreatDoorW4
import Derived.Test.YtehcdhelbkjaeaaGreatDoorW5
import Derived.Test.YtehcdhelbkjaeaaGreatDoorP1
namespace Go.Proofs.YtehcdhelbkjaeaaGreatDoor
open Go.Abs
set_option maxRecDepth 100000
set_option maxHeartbeats 8000000
set_option linter.unusedSimpArgs false
set_option linter.unusedVariables false
theorem hasSymbol_fn (tag:List UInt8):∀v:V,Gives Tryz.prog 120 [.agg v.enc,.str tag] (.d (.bool (v.has tag))):=by
 intro v
 induction v with
 | pair a b iha ihb =>
  refine aE_ Tryz.func120 ?_
  refine rS_ Tryz.func120 ?_
  simp only [go_sem,seval,V.kind,V.kids]
  repeat' (first
   | ((refine br_n (fun hq=>?_) (fun hq=>?_))<;>(try simp only [go_sem,seval,V.kind,V.kids,hq]))
   | ((first
    | (refine iha.calls rfl ?_)
    | (refine ihb.calls rfl ?_))<;>(try simp only [go_sem,seval,V.kind,V.kids]))
   | fail)
  all_goals simp_all [V.has]
 | _ =>
  refine aE_ Tryz.func120 ?_
  refine rS_ Tryz.func120 ?_
  simp only [go_sem,seval,V.kind,V.kids,V.name]
  all_goals simp [V.has]
theorem l10Contains_fn (tag:List UInt8):∀v:V,Gives Tryz.prog 130 [.agg v.enc,.str tag] (.d (.bool (v.has tag))):=by
 intro v
 induction v using V.ind with
 | h v ih =>
  have hh:=V.has_eq tag v
  generalize v.has tag=N at hh ⊢
  refine aE_ Tryz.func130 ?_
  refine rS_ Tryz.func130 ?_
  simp only [go_sem,seval]
  refine AW.rng v.kids [1,2,8,9] 10 8 (fun _:Unit=>[]) (fun H _=>H) (fun r _=>r.any (V.has tag)=v.kids.any (V.has tag)) () rfl (by simp) rfl wk2_ (fun i x r acc hxi hdr hlt hm hinv hnext=>?_) (fun acc hinv=>?_)
  ·have ihx:=ih x (List.mem_of_getElem? hxi)
   rw [List.any_cons] at hinv
   refine rS_ Tryz.func130 ?_
   simp only [go_sem,seval,hlt,idx_of hxi]
   repeat' (first
    | ((refine br_n (fun hq=>?_) (fun hq=>?_))<;>(try simp only [go_sem,seval,hq]))
    | (simp (disch:=omega) only [wrap_ok])
    | (refine hnext () _ ?_ wk2_)
    | ((refine ihx.calls rfl ?_)<;>(try simp only [go_sem,seval]))
    | fail)
   all_goals clear hnext ihx ih
   all_goals simp_all
  ·rw [List.any_nil] at hinv
   rw [←hinv] at hh
   refine rS_ Tryz.func130 ?_
   simp only [go_sem,seval]
   repeat' (first
    | ((refine br_n (fun hq=>?_) (fun hq=>?_))<;>(try simp only [go_sem,seval,hq]))
    | fail)
   all_goals simp_all
theorem equalTerms_fn (a b:V):Gives Tryz.prog 119 [.agg a.enc,.agg b.enc] (.d (.bool (decide (a.cmp b=0)))):=by
 refine aE_ Tryz.func119 ?_
 refine rS_ Tryz.func119 ?_
 simp only [go_sem,seval]
 repeat' (first
  | ((refine (orderTerms_fn _ _ _ (Nat.le_refl _)).calls rfl ?_)<;>(try simp only [go_sem,seval]))
  | fail)
theorem l02Same_fn (a b:V):Gives Tryz.prog 129 [.agg a.enc,.agg b.enc] (.d (.bool (decide (a.cmp b=0)))):=by
 refine aE_ Tryz.func129 ?_
 refine rS_ Tryz.func129 ?_
 simp only [go_sem,seval]
 repeat' (first
  | ((refine (l02Cmp_fn _ _ _ (Nat.le_refl _)).calls rfl ?_)<;>(try simp only [go_sem,seval]))
  | fail)
theorem l13Test_fn (t:Gl) (hok:glOk t=true) (hk:t.kind≤6):Gives Tryz.prog 98 [.agg t.enc] (.d (.bool t.test)):=by
 rcases Gl.simple_cases hok hk with ⟨hkk,ht⟩ | ⟨hkk,a,b,ht,ha,hb⟩ | ⟨hkk,a,ht,ha⟩
 ·rcases hkk with hkk | hkk
  ·have hT:t.test=true:=by simp [Gl.test,hkk]
   rw [hT]
   refine aE_ Tryz.func98 ?_
   refine rS_ Tryz.func98 ?_
   simp only [go_sem,seval,hkk,ht]
  ·have hT:t.test=false:=by simp [Gl.test,hkk]
   rw [hT]
   refine aE_ Tryz.func98 ?_
   refine rS_ Tryz.func98 ?_
   simp only [go_sem,seval,hkk,ht]
 ·have ea:=Tm.enc_V ha
  have eb:=Tm.enc_V hb
  rcases hkk with hkk | hkk | hkk
  ·have hT:t.test=decide (a.V.cmp b.V=0):=by simp [Gl.test,hkk,ht]
   rw [hT]
   refine aE_ Tryz.func98 ?_
   refine rS_ Tryz.func98 ?_
   simp only [go_sem,seval,hkk,ht,ea,eb]
   repeat' (first
    | ((refine (l02Same_fn _ _).callQ rfl ?_)<;>(try simp only [go_sem,seval,hkk,ht,ea,eb]))
    | fail)
  ·have hT:t.test=!decide (a.V.cmp b.V=0):=by simp [Gl.test,hkk,ht]
   rw [hT]
   refine aE_ Tryz.func98 ?_
   refine rS_ Tryz.func98 ?_
   simp only [go_sem,seval,hkk,ht,ea,eb]
   repeat' (first
    | ((refine (l02Same_fn _ _).callQ rfl ?_)<;>(try simp only [go_sem,seval,hkk,ht,ea,eb]))
    | fail)
  ·have hT:t.test=!b.V.has a.V.name:=by simp [Gl.test,hkk,ht,Tm.name_V ha]
   rw [hT]
   refine aE_ Tryz.func98 ?_
   refine rS_ Tryz.func98 ?_
   simp only [go_sem,seval,hkk,ht,ea,eb]
   repeat' (first
    | ((refine (l10Contains_fn _ _).callQ rfl ?_)<;>(try simp only [go_sem,seval,hkk,ht,ea,eb]))
    | fail)
 ·have ea:=Tm.enc_V ha
  rcases hkk with hkk | hkk
  ·have hT:t.test=decide (a.V.kind=2):=by simp [Gl.test,hkk,ht,Tm.kind_V ha]
   rw [hT]
   refine aE_ Tryz.func98 ?_
   refine rS_ Tryz.func98 ?_
   simp only [go_sem,seval,hkk,ht,ea]
   all_goals try omega
  ·have hT:t.test=decide (a.V.kind=3):=by simp [Gl.test,hkk,ht,Tm.kind_V ha]
   rw [hT]
   refine aE_ Tryz.func98 ?_
   refine rS_ Tryz.func98 ?_
   simp only [go_sem,seval,hkk,ht,ea]
   all_goals try omega
end Go.Proofs.YtehcdhelbkjaeaaGreatDoor
