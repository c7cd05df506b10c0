import Derived.Test.YtfniakcjekooiaaGreatW31
import Derived.Test.YtfniakcjekooiaaGreatW33
import Derived.Test.YtfniakcjekooiaaGreatA8
namespace Go.Proofs.YtfniakcjekooiaaGreat
open Go.Abs
set_option maxRecDepth 100000
set_option maxHeartbeats 4000000
set_option linter.unusedSimpArgs false
set_option linter.unusedVariables false
theorem intsD_nl2 : intsD [] = [] := rfl
theorem l13Calls_H (t : Gl) (neg : Bool) (hs : t.shape = true) (hl : t.cnt ≤ 100000000) : ACalls Tryz.prog 45 [.d (.agg t.enc), .d (.bool neg), .nil0] [.hole] fun c H' => ∃ q xs B, c = .own 0 q ∧ H' = [.tree q 1 9 xs B none] ∧ xs = strD (t.callsS neg) :=
 ACalls.nilHole (ds := [.agg t.enc, .bool neg]) (by decide) (l13Calls_T t hs neg 0 [] (fun _ => False) (by simp; omega)) (fun c H' ⟨q', B', h1, h2⟩ => ⟨q', _, B', h1, h2, by simp⟩)
theorem cb_same (p : Pg) (hs : ∀ r, r ∈ p.rels → r.body.shape = true) : (p.rels.map fun r => p.rowI r.body) = p.rels.map fun r => p.rowS r.body :=
 List.map_congr_left fun r hr => Pg.row_same p r.body (hs r hr)
theorem pgOk_shapes {p : Pg} (h : pgOk p = true) : ∀ r, r ∈ p.rels → r.body.shape = true := by
 intro r hr
 have ho : p.okL p.rels = true := by
  unfold pgOk at h
  simp only [Bool.and_eq_true] at h
  first | exact h.2 | exact h.1 | exact h.2.2 | exact h.1.2
 obtain ⟨i, hi⟩ := okL_mem ho r hr
 exact relOk_shape hi
end Go.Proofs.YtfniakcjekooiaaGreat
