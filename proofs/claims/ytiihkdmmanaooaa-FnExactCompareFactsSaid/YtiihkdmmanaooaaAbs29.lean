/- The plain-data layer, part 29: an argument of one cell, read as plain data. -/
import Derived.Test.YtiihkdmmanaooaaAbs28
namespace Go.Abs

theorem not_agg {P : Program} {W : World} {r : Reach} {b0 : Nat} {t : TypeId} {cs : Array Value} {l : Lf} (hl : leaves P 6 t = some [l]) (hst : tAgg P t = some false) (hv : Value.okWide P W r b0 t (.agg cs)) : False := by
  unfold tAgg at hst
  unfold leaves at hl
  unfold Value.okWide at hv
  cases hu : P.underlying t with
  | none => rw [hu] at hst; simp at hst
  | some u =>
    rw [hu] at hst hl hv
    cases u <;> simp at hst hl <;> simp [Cell.okWide, Cell.ok, hu] at hv

theorem arg_one {H : Type} {enc : TypeId × Value → H} {P : Program} {W : World} {base : Nat} {sp : Nat → Bool} {held : Bool} {r : Reach} {b0 : Nat} {t : TypeId} {v : Value} {d : DataW H} {ps : List MemPlace} {l : Lf} {L : List TypeId}
    (hst : tAgg P t = some false) (hv : Value.okWide P W r b0 t v) (hd : DataW.Trod enc P W base sp held t v d ps) (hcl : closedB P L = true) (hls : leaves P 6 t = some [l]) (hin : inL L [l] = true) :
    ∃ x, Sh P t [x] ∧ RdD W (fun b _ => b < W.heap.size) x v := by
  obtain ⟨fuel, hf⟩ := hd
  obtain ⟨ds, h1, h2, h3⟩ := read hcl fuel 6 t _ _ [l] hf hls hin
  have hvc : v.cells = #[v] := by
    cases v <;> first | rfl | exact (not_agg hls hst hv).elim
  match ds, h1 with
  | [x], _ =>
    have hg := h3 0 x v l rfl (by simp [hvc]) rfl
    refine ⟨x, ⟨[l], hls, rfl, fun i l' c hl hc => ?_⟩, hg.1⟩
    match i with
    | 0 => simp at hl hc; subst hl hc; exact hg.2.2
    | i + 1 => simp at hl

/-! ### Shapes of one cell -/
theorem sh_int {P : Program} {t : TypeId} {x : D} (hl : leaves P 6 t = some [.int .i64]) (h : Sh P t [x]) : ∃ n, x = .int .i64 n := by
  obtain ⟨n, h⟩ := I_of hl _ h
  exact ⟨n, by simpa [encI] using h⟩
theorem sh_bool {P : Program} {t : TypeId} {x : D} (hl : leaves P 6 t = some [.bool]) (h : Sh P t [x]) : ∃ n, x = .bool n := by
  obtain ⟨ls, h1, h2, h3⟩ := h
  rw [hl] at h1
  cases h1
  obtain ⟨b, hb, _⟩ := (h3 0 _ x rfl rfl).bool_inv
  exact ⟨b, hb⟩
theorem sh_str {P : Program} {t : TypeId} {x : D} (hl : leaves P 6 t = some [.str]) (h : Sh P t [x]) : ∃ s, x = .str s ∧ s.length ≤ maxLen := by
  obtain ⟨ls, h1, h2, h3⟩ := h
  rw [hl] at h1
  cases h1
  exact (h3 0 _ x rfl rfl).str_inv
theorem shL {α : Type} {P : Program} {t e : TypeId} {enc : α → List D} {x : D} (hl : leaves P 6 t = some [.sl e]) (h' : ∀ x, Sh P e x → ∃ t, x = enc t) (h : Sh P t [x]) : ∃ l : List α, x = .sl (l.map enc) := by
  obtain ⟨n, h⟩ := L_of hl h' _ h
  exact ⟨n, by simpa [encL] using h⟩
theorem shS {P : Program} {t e : TypeId} {xs : List (List D)} (hl : leaves P 6 t = some [.sl e]) (h : Sh P t [.sl xs]) : xs.length ≤ maxLen ∧ ∀ x, x ∈ xs → Sh P e x := by
  obtain ⟨ls, h1, h2, h3⟩ := h
  rw [hl] at h1
  cases h1
  obtain ⟨b, hb, q⟩ := (h3 0 _ _ rfl rfl).elems
  cases hb
  exact q
end Go.Abs
