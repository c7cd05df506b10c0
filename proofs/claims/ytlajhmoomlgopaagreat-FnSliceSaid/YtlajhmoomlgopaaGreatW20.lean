import Derived.Test.YtlajhmoomlgopaaGreatW4
import Derived.Test.YtlajhmoomlgopaaGreatA7
import Derived.Test.YtlajhmoomlgopaaGreatP3
namespace Go.Proofs.YtlajhmoomlgopaaGreat
open Go.Abs
set_option maxRecDepth 100000
set_option maxHeartbeats 4000000
set_option linter.unusedSimpArgs false
set_option linter.unusedVariables false
end Go.Proofs.YtlajhmoomlgopaaGreat
