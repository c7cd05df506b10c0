import Derived.Test.YtlajhmoomlgopaaGreatW4
import Derived.Test.YtlajhmoomlgopaaGreatW5
import Derived.Test.YtlajhmoomlgopaaGreatP1
namespace Go.Proofs.YtlajhmoomlgopaaGreat
open Go.Abs
set_option maxRecDepth 100000
set_option maxHeartbeats 8000000
set_option linter.unusedSimpArgs false
set_option linter.unusedVariables false
theorem hasSymbol_fn (tag:List UInt8):∀v:V,Gives Tryz.prog 122 [.agg v.enc,.str tag] (.d (.bool (v.has tag))):=by
 intro v
 induction v with
 | pair a b iha ihb =>
  refine aE_ Tryz.func122 ?_
  refine rS_ Tryz.func122 ?_
  simp only [go_sem,seval,V.kind,V.kids]
  repeat' (first
   | ((refine br_n (fun hq=>?_) (fun hq=>?_))<;>(try simp only [go_sem,seval,V.kind,V.kids,hq]))
   | ((first
    | (refine iha.calls rfl ?_)
    | (refine ihb.calls rfl ?_))<;>(try simp only [go_sem,seval,V.kind,V.kids]))
   | fail)
  all_goals simp_all [V.has]
 | _ =>
  refine aE_ Tryz.func122 ?_
  refine rS_ Tryz.func122 ?_
  simp only [go_sem,seval,V.kind,V.kids,V.name]
  all_goals simp [V.has]
theorem equalTerms_fn (a b:V):Gives Tryz.prog 121 [.agg a.enc,.agg b.enc] (.d (.bool (decide (a.cmp b=0)))):=by
 refine aE_ Tryz.func121 ?_
 refine rS_ Tryz.func121 ?_
 simp only [go_sem,seval]
 repeat' (first
  | ((refine (orderTerms_fn _ _ _ (Nat.le_refl _)).calls rfl ?_)<;>(try simp only [go_sem,seval]))
  | fail)
theorem l02Same_fn (a b:V):Gives Tryz.prog 111 [.agg a.enc,.agg b.enc] (.d (.bool (decide (a.cmp b=0)))):=by
 refine aE_ Tryz.func111 ?_
 refine rS_ Tryz.func111 ?_
 simp only [go_sem,seval]
 repeat' (first
  | ((refine (l02Cmp_fn _ _ _ (Nat.le_refl _)).calls rfl ?_)<;>(try simp only [go_sem,seval]))
  | fail)
end Go.Proofs.YtlajhmoomlgopaaGreat
