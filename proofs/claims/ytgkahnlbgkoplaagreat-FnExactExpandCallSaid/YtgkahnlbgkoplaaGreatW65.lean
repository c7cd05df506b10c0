import Derived.Test.YtgkahnlbgkoplaaGreatW30
import Derived.Test.YtgkahnlbgkoplaaGreatW24
import Derived.Test.YtgkahnlbgkoplaaGreatFam
namespace Go.Proofs.YtgkahnlbgkoplaaGreat
open Go.Abs
set_option maxRecDepth 100000
set_option maxHeartbeats 4000000
set_option linter.unusedSimpArgs false
set_option linter.unusedVariables false
theorem eqTm_fn : ∀ t : Tm, wtL t.enc ≤ 9000000 → Gives Tryz.prog 32 [.agg t.enc, .agg t.enc] (.d (.bool true)) := by
 intro t
 induction t using Tm.ind' with
 | h t ih =>
  intro hw
  have hmx : maxLen = 9223372036854775807 := rfl
  have hl : t.args.length ≤ 9000000 := by
   have h1 : wtR (t.args.map Tm.enc) ≤ 9000000 := by simp only [Tm.enc_eq t, wtL, D.wt] at hw; omega
   have := sumW_le (t.args.map Tm.enc) 0; simp [sumW] at this; omega
  rw [Tm.enc_eq t]
  refine eq32 _ _ _ _ (eq12 _ (by rw [List.length_map]; omega) (fun x hx => ?_))
  obtain ⟨y, hy, rfl⟩ := List.mem_map.1 hx
  exact ⟨Tm.enc_len y, ih y hy (by have := wt_args hy; omega)⟩
theorem eqGl_fn : ∀ t : Gl, wtL t.enc ≤ 9000000 → Gives Tryz.prog 10 [.agg t.enc, .agg t.enc] (.d (.bool true)) := by
 intro t
 induction t using Gl.ind' with
 | h t ih =>
  intro hw
  have hmx : maxLen = 9223372036854775807 := rfl
  have hl1 : t.terms.length ≤ 9000000 := by
   have h1 : wtR (t.terms.map Tm.enc) ≤ 9000000 := by simp only [Gl.enc_eq t, wtL, D.wt] at hw; omega
   have := sumW_le (t.terms.map Tm.enc) 0; simp [sumW] at this; omega
  have hl2 : t.goals.length ≤ 9000000 := by
   have h1 : wtR (t.goals.map Gl.enc) ≤ 9000000 := by simp only [Gl.enc_eq t, wtL, D.wt] at hw; omega
   have := sumW_le (t.goals.map Gl.enc) 0; simp [sumW] at this; omega
  rw [Gl.enc_eq t]
  refine eq10 _ _ _ _ (eq12 _ (by rw [List.length_map]; omega) (fun x hx => ?_)) (eq30 _ (by rw [List.length_map]; omega) (fun x hx => ?_))
  ·obtain ⟨y, hy, rfl⟩ := List.mem_map.1 hx
   exact ⟨Tm.enc_len y, eqTm_fn y (by have := Gl.wt_terms hy; omega)⟩
  ·obtain ⟨y, hy, rfl⟩ := List.mem_map.1 hx
   exact ⟨Gl.enc_len y, ih y hy (by have := Gl.wt_goals hy; omega)⟩
theorem Rl.mrks_at : ∀ (l : List Rl) (k : Int) (i : Nat) (x : Rl), l[i]? = some x → (Rl.mrks k l)[i]? = some (x.mrk (k + Rl.mcnts (l.take i)))
 | [], k, i, x, h => by simp at h
 | t :: r, k, 0, x, h => by simp at h; subst h; simp [Rl.mrks, Rl.mcnts]
 | t :: r, k, i + 1, x, h => by
  simp only [List.getElem?_cons_succ] at h
  simp only [Rl.mrks, List.getElem?_cons_succ, List.take_succ_cons, Rl.mcnts]
  rw [Rl.mrks_at r _ i x h]
  rw [show k + (t.mcnt : Int) + (Rl.mcnts (r.take i) : Int) = k + ((t.mcnt + Rl.mcnts (r.take i) : Nat) : Int) by omega]
end Go.Proofs.YtgkahnlbgkoplaaGreat
