import Derived.Test.YtlajhmoomlgopaaGreatW17
import Derived.Test.YtlajhmoomlgopaaGreatW20
namespace Go.Proofs.YtlajhmoomlgopaaGreat
open Go.Abs
set_option maxRecDepth 100000
set_option maxHeartbeats 4000000
set_option linter.unusedSimpArgs false
set_option linter.unusedVariables false
end Go.Proofs.YtlajhmoomlgopaaGreat
