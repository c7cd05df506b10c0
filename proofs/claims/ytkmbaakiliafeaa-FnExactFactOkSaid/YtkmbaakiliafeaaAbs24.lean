/- The plain-data layer, part 24: a struct among the arguments, read as plain data. -/
import Derived.Test.YtkmbaakiliafeaaAbs23
namespace Go.Abs

theorem arg_agg {H : Type} {enc : TypeId × Value → H} {P : Program} {W : World} {base : Nat} {sp : Nat → Bool} {held : Bool} {r : Reach} {b0 : Nat} {t : TypeId} {v : Value} {d : DataW H} {ps : List MemPlace} {ls : List Lf} {L : List TypeId}
    (hst : tAgg P t = some true) (hv : Value.okWide P W r b0 t v) (hd : DataW.Trod enc P W base sp held t v d ps) (hcl : closedB P L = true) (hls : leaves P 6 t = some ls) (hin : inL L ls = true) :
    ∃ x, Sh P t x ∧ RdD W (fun b _ => b < W.heap.size) (.agg x) v := by
  obtain ⟨cs, rfl⟩ : ∃ cs, v = .agg cs := by
    unfold tAgg at hst
    unfold Value.okWide at hv
    split at hv
    · obtain ⟨cs, h, _⟩ := hv; exact ⟨cs, h⟩
    · obtain ⟨cs, h, _⟩ := hv; exact ⟨cs, h⟩
    · rename_i h1 h2
      cases hu : P.underlying t with
      | none => rw [hu] at hst; simp at hst
      | some u => cases u <;> simp_all
  obtain ⟨fuel, hf⟩ := hd
  obtain ⟨ds, h1, h2, h3⟩ := read hcl fuel 6 t _ _ ls hf hls hin
  simp only [Value.cells, Array.length_toList] at h2
  have key : ∀ (i : Nat) c (v : Value), ds[i]? = some c → cs[i]? = some v → ∃ l, ls[i]? = some l ∧ Good P W c v l := by
    intro i c v hc hv
    have hi : i < ls.length := by have := (List.getElem?_eq_some_iff.1 hc).1; omega
    exact ⟨ls[i], List.getElem?_eq_getElem hi, h3 i c v _ hc (by simpa [Value.cells] using hv) (List.getElem?_eq_getElem hi)⟩
  refine ⟨ds, ⟨ls, hls, h1, fun i l c hl hc => ?_⟩, .agg _ _ (by omega) (fun i v hv => ?_) (fun i c v hc hv => ?_)⟩
  · have hi : i < cs.size := by have := (List.getElem?_eq_some_iff.1 hl).1; omega
    obtain ⟨l', e1, e2⟩ := key i c _ hc (Array.getElem?_eq_getElem hi)
    rw [hl] at e1; cases e1
    exact e2.2.2
  · have hi : i < ds.length := by have := (Array.getElem?_eq_some_iff.1 hv).1; omega
    obtain ⟨l, _, e⟩ := key i _ v (List.getElem?_eq_getElem hi) hv
    exact e.2.1
  · obtain ⟨l, _, e⟩ := key i c v hc hv
    exact e.1

end Go.Abs
