import Derived.Test.YtehkgphockcjdaaGreatW4
import Derived.Test.YtehkgphockcjdaaGreatA8
import Derived.Test.YtehkgphockcjdaaGreatP3
namespace Go.Proofs.YtehkgphockcjdaaGreat
open Go.Abs
set_option maxRecDepth 100000
set_option maxHeartbeats 4000000
set_option linter.unusedSimpArgs false
set_option linter.unusedVariables false
def encC (c:List Gl):List D:=[.sl (c.map Gl.enc)]
theorem encC_len (c:List Gl):(encC c).length=1:=rfl
theorem encC_eq (c:List Gl):encC c=[.sl (c.map Gl.enc)]:=rfl
end Go.Proofs.YtehkgphockcjdaaGreat
