import Derived.Test.YtehcdhelbkjaeaaGreatDoorW1
import Derived.Test.YtehcdhelbkjaeaaGreatDoorA9
import Derived.Test.YtehcdhelbkjaeaaGreatDoorP10
namespace Go.Proofs.YtehcdhelbkjaeaaGreatDoor
open Go.Abs
set_option linter.unusedSimpArgs false
set_option linter.unusedVariables false
def pIN (l:List UInt8):Int:=(pInt l).getD 0
def pIC (l:List UInt8):C:=.tup [.d (.int .i64 (pIN l)),.d (.bool (pInt l).isSome)]
theorem pIC_none {l:List UInt8} (h:pInt l=none):pIC l=.tup [.d (.int .i64 0),.d (.bool false)]:=by unfold pIC pIN;rw [h];rfl
theorem pIC_some {l:List UInt8} {n:Int} (h:pInt l=some n):pIC l=.tup [.d (.int .i64 n),.d (.bool true)]:=by unfold pIC pIN;rw [h];rfl
end Go.Proofs.YtehcdhelbkjaeaaGreatDoor
