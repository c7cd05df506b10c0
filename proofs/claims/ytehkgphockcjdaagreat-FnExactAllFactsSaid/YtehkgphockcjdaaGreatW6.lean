import Derived.Test.YtehkgphockcjdaaGreatW4
import Derived.Test.YtehkgphockcjdaaGreatW5
import Derived.Test.YtehkgphockcjdaaGreatP1
namespace Go.Proofs.YtehkgphockcjdaaGreat
open Go.Abs
set_option maxRecDepth 100000
set_option maxHeartbeats 8000000
set_option linter.unusedSimpArgs false
set_option linter.unusedVariables false
end Go.Proofs.YtehkgphockcjdaaGreat
