/- The plain-data layer, part 9: append. -/
import Derived.Test.YtkmbaakiliafeaaAbs8
namespace Go.Abs

section
variable {P : Program} {E E' : Env}

/-- The values L, z to an element, read as the elements xs. -/
structure Cells (w : World) (S : Nat → Nat → Prop) (z : Nat) (xs : List (List D)) (L : List Value) : Prop where
  len : L.length = xs.length * z
  each : ∀ x, x ∈ xs → x.length = z
  rd : ∀ (i j : Nat) (x : List D) (c : D), xs[i]? = some x → x[j]? = some c → ∃ (u : Value), L[i * z + j]? = some u ∧ u.oneCell' = true ∧ RdD w S c u
  one : ∀ u, u ∈ L → u.oneCell' = true

theorem Cells.mono {w w' : World} {S S' : Nat → Nat → Prop} {z : Nat} {xs : List (List D)} {L : List Value} (h : Cells w S z xs L)
    (hS : ∀ b i, S b i → S' b i) (hc : ∀ b i, S b i → w'.cell? ⟨b, i, none⟩ = w.cell? ⟨b, i, none⟩) : Cells w' S' z xs L :=
  ⟨h.len, h.each, fun i j x c hi hj => let ⟨u, h1, h2, h3⟩ := h.rd i j x c hi hj; ⟨u, h1, h2, h3.mono hS hc⟩, h.one⟩

theorem Cells.nil (w : World) (S : Nat → Nat → Prop) (z : Nat) : Cells w S z [] [] :=
  ⟨by simp, by simp, fun i j x c hi => by simp at hi, by simp⟩

theorem Cells.append {w : World} {S : Nat → Nat → Prop} {z : Nat} {xs ys : List (List D)} {A B : List Value} (h : Cells w S z xs A) (k : Cells w S z ys B) : Cells w S z (xs ++ ys) (A ++ B) := by
  refine ⟨by simp [h.len, k.len, Nat.add_mul], fun x hx => ?_, fun i j x c hi hj => ?_, fun u hu => ?_⟩
  · rcases List.mem_append.1 hx with hx | hx
    · exact h.each x hx
    · exact k.each x hx
  · by_cases hlt : i < xs.length
    · rw [List.getElem?_append_left hlt] at hi
      obtain ⟨u, h1, h2, h3⟩ := h.rd i j x c hi hj
      refine ⟨u, ?_, h2, h3⟩
      rw [List.getElem?_append_left (List.getElem?_eq_some_iff.1 h1).1]; exact h1
    · rw [List.getElem?_append_right (by omega)] at hi
      obtain ⟨u, h1, h2, h3⟩ := k.rd _ j x c hi hj
      refine ⟨u, ?_, h2, h3⟩
      have e : i * z + j = A.length + ((i - xs.length) * z + j) := by
        have : (i - xs.length + xs.length) * z = (i - xs.length) * z + xs.length * z := Nat.add_mul _ _ _
        rw [Nat.sub_add_cancel (by omega)] at this
        rw [h.len]; omega
      rw [e, List.getElem?_append_right (by omega), Nat.add_sub_cancel_left]; exact h1
  · rcases List.mem_append.1 hu with hu | hu
    · exact h.one u hu
    · exact k.one u hu

/-- The cells of a slice that reads as data. -/
theorem cells_of_rdD {w : World} {S : Nat → Nat → Prop} {xs : List (List D)} {v : Value} {z : Nat} (hz : ∀ x, x ∈ xs → x.length = z) (h : RdD w S (.sl xs) v) :
    ∃ L, Cells w S z xs L ∧ ∃ ad cap, v = .slice ad xs.length cap ∧
      ∀ w' : World, (∀ b i, S b i → w'.cell? ⟨b, i, none⟩ = w.cell? ⟨b, i, none⟩) → (Builtin.firstCells z xs.length v).run P w' = .ok L.toArray w' := by
  cases h with
  | nil a cap =>
    refine ⟨[], Cells.nil _ _ _, a, cap, rfl, fun w' _ => ?_⟩
    cases a with
    | none => simp [Builtin.firstCells]
    | some a => simp [Builtin.firstCells, loadCells, loadCellsFrom]
  | sl b off cap z' _ val hne hcap hmax hzz hc hr =>
    have hzz' : z' = z := by
      cases xs with
      | nil => exact absurd rfl hne
      | cons x r => rw [← hzz x (by simp), hz x (by simp)]
    subst hzz'
    have hdiv : ∀ k, k < xs.length * z' → k / z' < xs.length ∧ k % z' < z' ∧ k / z' * z' + k % z' = k := fun k hk => by
      have hz0 : 0 < z' := by
        rcases Nat.eq_zero_or_pos z' with h0 | h0
        · subst h0; simp at hk
        · exact h0
      exact ⟨(Nat.div_lt_iff_lt_mul hz0).2 hk, Nat.mod_lt _ hz0, Nat.div_add_mod' k z'⟩
    refine ⟨(List.range (xs.length * z')).map fun k => val (k / z') (k % z'), ⟨by simp, hz, fun i j x c hi hj => ?_, fun u hu => ?_⟩, _, cap, rfl, fun w' hw' => ?_⟩
    · have hxi := (List.getElem?_eq_some_iff.1 hi).1
      have hx := hz x (List.mem_of_getElem? hi)
      have hjz : j < z' := by rw [← hx]; exact (List.getElem?_eq_some_iff.1 hj).1
      have hlt : i * z' + j < xs.length * z' := by
        have : (i + 1) * z' ≤ xs.length * z' := Nat.mul_le_mul_right _ hxi
        rw [Nat.add_mul] at this; omega
      refine ⟨val i j, ?_, (hc i j hxi hjz).2.2, hr i j x c hi hj⟩
      rw [List.getElem?_map, List.getElem?_range hlt]
      simp only [Option.map_some, Option.some.injEq]
      have h1 : (i * z' + j) / z' = i := by
        rw [Nat.mul_comm, Nat.mul_add_div (by omega), Nat.div_eq_of_lt hjz, Nat.add_zero]
      have h2 : (i * z' + j) % z' = j := by
        rw [Nat.mul_comm, Nat.mul_add_mod, Nat.mod_eq_of_lt hjz]
      rw [h1, h2]
    · simp only [List.mem_map, List.mem_range] at hu
      obtain ⟨k, hk, rfl⟩ := hu
      obtain ⟨h1, h2, _⟩ := hdiv k hk
      exact (hc _ _ h1 h2).2.2
    · simp only [Builtin.firstCells]
      refine run_loadCells w' _ _ _ (fun k hk => ?_)
      obtain ⟨h1, h2, h3⟩ := hdiv k hk
      obtain ⟨h4, h5, _⟩ := hc _ _ h1 h2
      rw [Addr.add_mk]
      rw [show off + k / z' * z' + k % z' = off + k by omega] at h4 h5
      rw [hw' _ _ h4]; exact h5

/-- The second operand of append is a slice or a string. -/
def Plain (P : Program) (u : TypeId) : Prop := (∃ e, P.underlying u = some (.slice e)) ∨ P.underlying u = some .string

theorem run_append_new {t u ty e : TypeId} {i : TypeInfo} {zv : Value} (ht : P.underlying t = some (.slice e)) (hu : Plain P u) (hi : P.info? e = some i) (hz : i.zero = some zv)
    (w : World) {base : Option Addr} {sLen sCap m : Nat} {x : Value} {olds news : Array Value}
    (hold : (Builtin.firstCells i.size sLen (.slice base sLen sCap)).run P w.drew = .ok olds w.drew)
    (hlen : (Builtin.lenOf x).run P w = .ok m w) (hnew : (Builtin.firstCells i.size m x).run P w.drew = .ok news w.drew)
    (hg : sCap < sLen + m) (h63 : sLen + m ≤ maxLen) (hb : (sLen + m) * i.bytes ≤ 140737488355328) :
    (Builtin.append_ #[t, u] ty #[.slice base sLen sCap, x]).run P w =
      .ok (.slice (some ⟨w.heap.size, 0, none⟩) (sLen + m) (grownCap w (sLen + m) sCap e))
        (w.drew.alloc (.cells (olds ++ news ++ Builtin.zeroCells zv.cells (grownCap w (sLen + m) sCap e - (sLen + m))) e)) := by
  have hn : ¬ (sLen + m ≤ sCap) := by omega
  have h63' : ¬ (9223372036854775807 < ((sLen : Int) + (m : Int))) := by simp only [maxLen] at h63; omega
  have h48' : ¬ (281474976710656 < Builtin.nextslicecap (sLen + m) sCap * i.bytes) := by
    have := growslice_fits hg hb
    omega
  unfold Builtin.append_
  rcases hu with ⟨e', hu⟩ | hu <;>
    simp [run_underlying ht, run_underlying hu, sizeOf, typeInfo, hi, hlen, hn, h63', h48', Question.forced, hold, hnew, zeroValue, hz, newRow, grownCap]

theorem run_append_in {t u ty e : TypeId} {i : TypeInfo} (ht : P.underlying t = some (.slice e)) (hu : Plain P u) (hi : P.info? e = some i)
    (w : World) {base : Option Addr} {sLen sCap m : Nat} {x : Value} {news : Array Value}
    (hlen : (Builtin.lenOf x).run P w = .ok m w) (hnew : (Builtin.firstCells i.size m x).run P w = .ok news w)
    (hg : sLen + m ≤ sCap) {w' : World} (hst : ∀ a, base = some a → (storeCells (a.add (sLen * i.size)) news.toList).run P w = .ok () w') (hno : base = none → w' = w) :
    (Builtin.append_ #[t, u] ty #[.slice base sLen sCap, x]).run P w = .ok (.slice base (sLen + m) sCap) w' := by
  unfold Builtin.append_
  cases base with
  | none =>
    obtain rfl := hno rfl
    rcases hu with ⟨e', hu⟩ | hu <;>
      simp [run_underlying ht, run_underlying hu, sizeOf, typeInfo, hi, hlen, hg, hnew]
  | some a =>
    have hst := hst a rfl
    rcases hu with ⟨e', hu⟩ | hu <;>
      simp [run_underlying ht, run_underlying hu, sizeOf, typeInfo, hi, hlen, hg, hnew, hst]

end
end Go.Abs
