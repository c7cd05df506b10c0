import Derived.Test.YtehkgphockcjdaaGreatW6
import Derived.Test.YtehkgphockcjdaaGreatW9
import Derived.Test.YtehkgphockcjdaaGreatW22
import Derived.Test.YtehkgphockcjdaaGreatP5
namespace Go.Proofs.YtehkgphockcjdaaGreat
open Go.Abs
set_option maxRecDepth 100000
set_option maxHeartbeats 8000000
set_option linter.unusedSimpArgs false
set_option linter.unusedVariables false
def bdD (vs:List V):List (List D):=(bdsF 0 vs).map Bd.enc
end Go.Proofs.YtehkgphockcjdaaGreat
