import Derived.Test.YtehkgphockcjdaaGreatW17
import Derived.Test.YtehkgphockcjdaaGreatW20
namespace Go.Proofs.YtehkgphockcjdaaGreat
open Go.Abs
set_option maxRecDepth 100000
set_option maxHeartbeats 4000000
set_option linter.unusedSimpArgs false
set_option linter.unusedVariables false
end Go.Proofs.YtehkgphockcjdaaGreat
