import Derived.Test.YtgmfoklmkpdjdaaW2
namespace Go.Proofs.Ytgmfoklmkpdjdaa
open Go.Abs
set_option maxRecDepth 100000
set_option maxHeartbeats 4000000
set_option linter.unusedSimpArgs false
set_option linter.unusedVariables false
end Go.Proofs.Ytgmfoklmkpdjdaa
