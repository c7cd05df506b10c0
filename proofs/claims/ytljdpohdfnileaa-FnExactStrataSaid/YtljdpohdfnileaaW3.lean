/- Lists of terms and facts: the orders. -/
import Derived.Test.YtljdpohdfnileaaW2
namespace Go.Proofs.Ytljdpohdfnileaa
open Go.Abs
set_option maxRecDepth 100000
set_option maxHeartbeats 4000000
set_option linter.unusedSimpArgs false
set_option linter.unusedVariables false

theorem fact_args {f : Fc} (h : wtL f.enc ≤ 1048576) : ∀ t, t ∈ f.args → wtL t.enc ≤ 1048576 := by
  intro t ht
  have := wtL_lt (f.args.map Tm.enc) t.enc (List.mem_map.2 ⟨t, ht, rfl⟩)
  simp only [Fc.enc_eq, wtL, D.wt] at h
  omega

end Go.Proofs.Ytljdpohdfnileaa

