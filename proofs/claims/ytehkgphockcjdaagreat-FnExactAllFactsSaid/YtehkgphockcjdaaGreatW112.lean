import Derived.Test.YtehkgphockcjdaaGreatW111
import Derived.Test.YtehkgphockcjdaaGreatW108
namespace Go.Proofs.YtehkgphockcjdaaGreat
open Go.Abs
set_option maxRecDepth 100000
set_option maxHeartbeats 8000000
set_option linter.unusedSimpArgs false
set_option linter.unusedVariables false
def csC (o:Option (List FcV)):C:=match o with | some l=>.tup [.d (.sl (l.map fcE)),.d (.bool true)] | none=>.tup [.d (.sl []),.d (.bool false)]
theorem csC_none:csC none=.tup [.d (.sl []),.d (.bool false)]:=rfl
theorem csC_some (l:List FcV):csC (some l)=.tup [.d (.sl (l.map fcE)),.d (.bool true)]:=rfl
theorem wtR_mem {l:List (List D)} {x:List D} (h:x∈l):wtL x≤wtR l:=by
 have:=wtL_lt l x h;omega
theorem wtR_len (l:List (List D)):l.length≤wtR l:=by
 have:=sumW_le l 0;simp [sumW] at this;omega
end Go.Proofs.YtehkgphockcjdaaGreat
