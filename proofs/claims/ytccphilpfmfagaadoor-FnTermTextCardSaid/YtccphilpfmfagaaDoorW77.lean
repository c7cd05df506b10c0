import Derived.Test.YtccphilpfmfagaaDoorW1
import Derived.Test.YtccphilpfmfagaaDoorA9
import Derived.Test.YtccphilpfmfagaaDoorP10
namespace Go.Proofs.YtccphilpfmfagaaDoor
open Go.Abs
set_option maxRecDepth 100000
set_option maxHeartbeats 4000000
set_option linter.unusedSimpArgs false
set_option linter.unusedVariables false
theorem w1nat {i : Nat} {s : List UInt8} (hs : s.length ≤ 100000) (hi : i < s.length) : IntKind.i64.wrap ((i : Int) + 1) = ((i + 1 : Nat) : Int) := by simp (disch := omega) only [wrap_ok]; omega
theorem tkV_end {s : List UInt8} (h0 : s.length ≤ 100000) (h : s.all okB = true) : tokV s = if (toks s).length ≤ 20000 then some (toks s) else none := by
 unfold tokV; simp [h0, h]
end Go.Proofs.YtccphilpfmfagaaDoor
