import Derived.Test.YtehkgphockcjdaaGreatW6
import Derived.Test.YtehkgphockcjdaaGreatW14
import Derived.Test.YtehkgphockcjdaaGreatW9
import Derived.Test.YtehkgphockcjdaaGreatA8
import Derived.Test.YtehkgphockcjdaaGreatP5
import Derived.Test.YtehkgphockcjdaaGreatW106
import Derived.Test.YtehkgphockcjdaaGreatW17
namespace Go.Proofs.YtehkgphockcjdaaGreat
open Go.Abs
set_option maxRecDepth 100000
set_option maxHeartbeats 4000000
set_option linter.unusedSimpArgs false
set_option linter.unusedVariables false
theorem copyTerm_fn (v:V):Gives Tryz.prog 31 [.agg v.enc] (.d (.agg v.enc)):=by
 have h:=copyTerm_T v
 unfold cpT at h
 refine ACalls.frozen (ds:=[.agg v.enc]) (m:=1) h (fun c H' ⟨h1,e,B,h2⟩ _=>?_)
 subst h1 h2
 rw [V.enc_eq v];rfl
set_option maxHeartbeats 8000000
def rvE (r:RV):List D:=r.ru.enc
def grC (o:Option (List RV)):C:=match o with | some l=>.tup [.d (.sl (l.map rvE)),.d (.bool true)] | none=>.tup [.d (.sl []),.d (.bool false)]
theorem grC_none:grC none=.tup [.d (.sl []),.d (.bool false)]:=rfl
theorem grC_some (l:List RV):grC (some l)=.tup [.d (.sl (l.map rvE)),.d (.bool true)]:=rfl
def bodE (r:Rl):List D:=[.sl (r.body.clsS.map encC)]
theorem bodE_eq (r:Rl):bodE r=[.sl (r.body.clsS.map encC)]:=rfl
end Go.Proofs.YtehkgphockcjdaaGreat
