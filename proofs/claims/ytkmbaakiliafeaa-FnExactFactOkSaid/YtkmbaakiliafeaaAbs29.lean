/- The plain-data layer, part 29: an argument of one cell, read as plain data. -/
import Derived.Test.YtkmbaakiliafeaaAbs28
set_option linter.unusedVariables false
set_option linter.unusedSimpArgs false
namespace Go.Abs

theorem not_agg {P : Program} {W : World} {r : Reach} {b0 : Nat} {t : TypeId} {cs : Array Value} {l : Lf} (hl : leaves P 6 t = some [l]) (hst : tAgg P t = some false) (hv : Value.okWide P W r b0 t (.agg cs)) : False := by
  unfold tAgg at hst
  unfold leaves at hl
  unfold Value.okWide at hv
  cases hu : P.underlying t with
  | none => rw [hu] at hst; simp at hst
  | some u =>
    rw [hu] at hst hl hv
    cases u <;> simp at hst hl <;> simp [Cell.okWide, Cell.ok, hu] at hv

theorem arg_one {H : Type} {enc : TypeId × Value → H} {P : Program} {W : World} {base : Nat} {sp : Nat → Bool} {held : Bool} {r : Reach} {b0 : Nat} {t : TypeId} {v : Value} {d : DataW H} {ps : List MemPlace} {l : Lf} {L : List TypeId}
    (hst : tAgg P t = some false) (hv : Value.okWide P W r b0 t v) (hd : DataW.Trod enc P W base sp held t v d ps) (hcl : closedB P L = true) (hls : leaves P 6 t = some [l]) (hin : inL L [l] = true) :
    ∃ x, Sh P t [x] ∧ RdD W (fun b _ => b < W.heap.size) x v := by
  obtain ⟨fuel, hf⟩ := hd
  obtain ⟨ds, h1, h2, h3⟩ := read hcl fuel 6 t _ _ [l] hf hls hin
  have hvc : v.cells = #[v] := by
    cases v <;> first | rfl | exact (not_agg hls hst hv).elim
  match ds, h1 with
  | [x], _ =>
    have hg := h3 0 x v l rfl (by simp [hvc]) rfl
    refine ⟨x, ⟨[l], hls, rfl, fun i l' c hl hc => ?_⟩, hg.1⟩
    match i with
    | 0 => simp at hl hc; subst hl hc; exact hg.2.2
    | i + 1 => simp at hl

theorem row_step1 {xs : List (List D)} {z : List D} {c : D} {i : Nat} (h : xs[i]? = some [c]) (hz : z.length = 1) :
    (xs.take i ++ List.replicate (xs.length - i) z).set i (c :: List.drop 1 ((xs.take i ++ List.replicate (xs.length - i) z)[i]?.getD [])) = xs.take (i + 1) ++ List.replicate (xs.length - (i + 1)) z :=
  row_step (k := 1) h hz

/-! ### Shapes of one cell -/
theorem sh_int {P : Program} {t : TypeId} {x : D} (hl : leaves P 6 t = some [.int .i64]) (h : Sh P t [x]) : ∃ n, x = .int .i64 n := by
  obtain ⟨n, h⟩ := I_of hl _ h
  exact ⟨n, by simpa [encI] using h⟩
theorem sh_bool {P : Program} {t : TypeId} {x : D} (hl : leaves P 6 t = some [.bool]) (h : Sh P t [x]) : ∃ n, x = .bool n := by
  obtain ⟨ls, h1, h2, h3⟩ := h
  rw [hl] at h1
  cases h1
  obtain ⟨b, hb, _⟩ := (h3 0 _ x rfl rfl).bool_inv
  exact ⟨b, hb⟩
theorem sh_str {P : Program} {t : TypeId} {x : D} (hl : leaves P 6 t = some [.str]) (h : Sh P t [x]) : ∃ s, x = .str s ∧ s.length ≤ maxLen := by
  obtain ⟨ls, h1, h2, h3⟩ := h
  rw [hl] at h1
  cases h1
  exact (h3 0 _ x rfl rfl).str_inv
theorem shL {α : Type} {P : Program} {t e : TypeId} {enc : α → List D} {x : D} (hl : leaves P 6 t = some [.sl e]) (h' : ∀ x, Sh P e x → ∃ t, x = enc t) (h : Sh P t [x]) : ∃ l : List α, x = .sl (l.map enc) := by
  obtain ⟨n, h⟩ := L_of hl h' _ h
  exact ⟨n, by simpa [encL] using h⟩
theorem ShC.sl_of {P : Program} {e : TypeId} {xs : List (List D)} {ls : List Lf} (hl : leaves P 6 e = some ls) (hm : xs.length ≤ maxLen) (h : ∀ x, x ∈ xs → Sh P e x) : ShC P (.sl e) (.sl xs) := by
  refine .sl e xs ls hl hm (fun x hx => ?_) (fun x hx i l c h1 h2 => ?_)
  · obtain ⟨ls', e1, e2, _⟩ := h x hx
    rw [hl] at e1; cases e1; exact e2
  · obtain ⟨ls', e1, _, e3⟩ := h x hx
    rw [hl] at e1; cases e1; exact e3 i l c h1 h2
theorem sh_L {P : Program} {e e' : TypeId} (hl : leaves P 6 e = some [.sl e']) {x : List D} (h : Sh P e x) : ∃ y, x = [.sl y] ∧ y.length ≤ maxLen ∧ ∀ z, z ∈ y → Sh P e' z := by
  obtain ⟨ls, h1, h2, h3⟩ := h
  rw [hl] at h1
  cases h1
  match x, h2, h3 with
  | [c0], _, h3 =>
    obtain ⟨b0, rfl, q0⟩ := (h3 0 _ _ rfl rfl).elems
    exact ⟨b0, rfl, q0⟩
theorem shS {P : Program} {t e : TypeId} {xs : List (List D)} (hl : leaves P 6 t = some [.sl e]) (h : Sh P t [.sl xs]) : xs.length ≤ maxLen ∧ ∀ x, x ∈ xs → Sh P e x := by
  obtain ⟨ls, h1, h2, h3⟩ := h
  rw [hl] at h1
  cases h1
  obtain ⟨b, hb, q⟩ := (h3 0 _ _ rfl rfl).elems
  cases hb
  exact q
end Go.Abs
