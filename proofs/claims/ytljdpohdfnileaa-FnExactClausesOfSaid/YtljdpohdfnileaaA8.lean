/- The layer, part A8. -/
import Derived.Test.YtljdpohdfnileaaA7
/- The plain-data layer, part 44: an own slice that is only read from now on. -/
namespace Go.Abs
section
variable {P : Program} {f : FuncId} {n n0 : Nat} {R : C → List O → Prop}

theorem AW.readG {k : List Item} {s : St} (t r : Nat) {q z e : Nat} {xs : List (List D)} (ht : get s.σ t = .own r q) (hr : s.H[r]? = some (.grow q z e xs))
    (h : AW P f n n0 R k ⟨(t, .d (.sl xs)) :: s.σ, s.H⟩) : AW P f n n0 R k s := by
  refine AW.recast (s' := ⟨(t, .d (.sl xs)) :: s.σ, s.H⟩) (fun h0 E a hst => ?_)
  have hv := hst.slot t
  rw [ht] at hv
  have ho := hst.heap.obj r _ hr
  have hval : a.tmps.getD t undef = (E.τ r).2 := by
    generalize a.tmps.getD t undef = v at hv
    cases hv with
    | own _ _ _ _ _ _ hv => exact hv ho.1.symm
  refine ⟨E, rfl, Le.refl E, ⟨hst.size, hst.defers, hst.heap, fun t' => ?_⟩, h⟩
  simp only [get]
  split
  · rename_i e; subst e
    rw [hval]; exact .d _ _ (rdD_grow ho)
  · exact hst.slot t'

theorem AW.nilG {k : List Item} {s : St} (t : Nat) (ht : get s.σ t = .nil0)
    (h : AW P f n n0 R k ⟨(t, .d (.sl [])) :: s.σ, s.H⟩) : AW P f n n0 R k s := by
  refine AW.recast (s' := ⟨(t, .d (.sl [])) :: s.σ, s.H⟩) (fun h0 E a hst => ?_)
  have hv := hst.slot t
  rw [ht] at hv
  refine ⟨E, rfl, Le.refl E, ⟨hst.size, hst.defers, hst.heap, fun t' => ?_⟩, h⟩
  simp only [get]
  split
  · rename_i e; subst e
    generalize a.tmps.getD t undef = v at hv
    cases hv with
    | nil0 a => exact .d _ _ (.nil a 0)
  · exact hst.slot t'
end
end Go.Abs

/- The plain-data layer, part 45: a variable that holds an own slice, read as data by a callee. -/
namespace Go.Abs
set_option linter.unusedVariables false

theorem RepH.readB {E : Env} {H : List O} (h : RepH E H) {rb j r q z e : Nat} {cs : List C} {xs : List (List D)} (hb : H[rb]? = some (.box cs)) (hj : cs[j]? = some (.own r q)) (hr : H[r]? = some (.grow q z e xs)) :
    RepH E (H.set rb (.box (cs.set j (.d (.sl xs))))) := by
  have hlen : rb < H.length := (List.getElem?_eq_some_iff.1 hb).1
  have at0 : ∀ (r' : Nat) (o : O), (H.set rb (.box (cs.set j (.d (.sl xs)))))[r']? = some o → (r' = rb ∧ o = .box (cs.set j (.d (.sl xs)))) ∨ H[r']? = some o := by
    intro r' o ho
    by_cases e : r' = rb
    · subst e
      rw [List.getElem?_set_self hlen] at ho
      exact .inl ⟨rfl, (Option.some.inj ho).symm⟩
    · rw [List.getElem?_set_ne (fun e' => e e'.symm)] at ho
      exact .inr ho
  have old : ∀ (r' : Nat) (o : O), (H.set rb (.box (cs.set j (.d (.sl xs)))))[r']? = some o → ∃ o', H[r']? = some o' ∧ o'.block E r' = o.block E r' := by
    intro r' o ho
    rcases at0 r' o ho with ⟨rfl, rfl⟩ | ho
    · exact ⟨_, hb, rfl⟩
    · exact ⟨o, ho, rfl⟩
  have hg := h.obj r _ hr
  refine ⟨by rw [List.length_set]; exact h.N, fun r' o ho => ?_, fun r' o b ho hk => ?_, fun r' o b ho hk => ?_, fun r1 r2 o1 o2 b h1 h2 k1 k2 => ?_, h.Slt⟩
  · rcases at0 r' o ho with ⟨rfl, rfl⟩ | ho
    · obtain ⟨arr, ty, a1, a2, a3, a4⟩ := h.obj _ _ hb
      refine ⟨arr, ty, a1, by simpa using a2, fun i c v hc hv => ?_, a4⟩
      by_cases hij : i = j
      · subst hij
        have hjl := (List.getElem?_eq_some_iff.1 hj).1
        rw [List.getElem?_set_self hjl] at hc
        obtain ⟨k1, k2⟩ := a3 i _ v hj hv
        refine ⟨?_, k2⟩
        rw [← Option.some.inj hc]
        cases k1 with
        | own _ _ _ _ _ _ hvv => rw [hvv hg.1.symm]; exact .d _ _ (rdD_grow hg)
      · rw [List.getElem?_set_ne (fun e' => hij e'.symm)] at hc
        exact a3 i c v hc hv
    · exact h.obj r' o ho
  · obtain ⟨o', h1, h2⟩ := old r' o ho
    exact h.pv r' o' b h1 (by rw [h2]; exact hk)
  · obtain ⟨o', h1, h2⟩ := old r' o ho
    exact h.lt r' o' b h1 (by rw [h2]; exact hk)
  · obtain ⟨o1', g1, e1⟩ := old r1 o1 h1
    obtain ⟨o2', g2, e2⟩ := old r2 o2 h2
    exact h.apart r1 r2 o1' o2' b g1 g2 (by rw [e1]; exact k1) (by rw [e2]; exact k2)

/-- The callee may read as data what a variable holds. -/
theorem ACalls.readB {P : Program} {f : FuncId} {args : List C} {H : List O} {K : C → List O → Prop} {rb j r q z e : Nat} {cs : List C} {xs : List (List D)} (hb : H[rb]? = some (.box cs)) (hj : cs[j]? = some (.own r q)) (hr : H[r]? = some (.grow q z e xs))
    (h : ACalls P f args (H.set rb (.box (cs.set j (.d (.sl xs))))) K) : ACalls P f args H K := by
  intro E vs hH hs ha
  refine (h E vs (hH.readB hb hj hr) hs ha).mono ?_
  rintro e w' ⟨v, r', E', H', h1, h2, h3, h4, h5, h6, h7⟩
  exact ⟨v, r', E', H', h1, h2, h3, h4, h5, by rw [h6, List.length_set], h7⟩
end Go.Abs
