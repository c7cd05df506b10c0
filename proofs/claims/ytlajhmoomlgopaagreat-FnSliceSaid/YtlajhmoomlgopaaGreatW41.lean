import Derived.Test.YtlajhmoomlgopaaGreatW6
import Derived.Test.YtlajhmoomlgopaaGreatW9
import Derived.Test.YtlajhmoomlgopaaGreatW22
import Derived.Test.YtlajhmoomlgopaaGreatP5
namespace Go.Proofs.YtlajhmoomlgopaaGreat
open Go.Abs
set_option maxRecDepth 100000
set_option maxHeartbeats 8000000
set_option linter.unusedSimpArgs false
set_option linter.unusedVariables false
theorem l02Pair_fn (a b:V):Gives Tryz.prog 112 [.agg a.enc,.agg b.enc] (.d (.agg (V.pair a b).enc)):=by
 rw [V.enc_pair]
 refine aE_ Tryz.func112 ?_
 refine rS_ Tryz.func112 ?_
 simp only [go_sem,seval]
end Go.Proofs.YtlajhmoomlgopaaGreat
