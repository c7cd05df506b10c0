/- The plain-data layer, part 16: an operation's answer hangs on its operands and on the objects alone. -/
import Derived.Test.YtkmbaakiliafeaaAbs15
namespace Go.Abs

section
variable {P : Program}

theorem norm1_congr {s s' : St} (h : s.H = s'.H) : norm1 s = norm1 s' := by funext c; unfold norm1; rw [h]
theorem norm_congr {s s' : St} (h : s.H = s'.H) : norm s = norm s' := by funext c; unfold norm; rw [norm1_congr h]
theorem dataCells_congr {s s' : St} (h : s.H = s'.H) : dataCells s = dataCells s' := by funext c; unfold dataCells; rw [norm1_congr h]

theorem fillA_congr {places : List (Nat × Nat)} {s s' : St} {K : List C → Prop} : ∀ (ps : List (Nat × Operand)) (cs : List C), (∀ p, p ∈ ps → ev s p.2 = ev s' p.2) →
    fillA places s K ps cs → fillA places s' K ps cs
  | [], cs, _, h => h
  | (i, x) :: r, cs, he, h => by
    unfold fillA at h ⊢
    have e := he (i, x) (by simp)
    dsimp only at e
    rw [e] at h
    split at h
    · rename_i o n hp
      exact ⟨h.1, h.2.1, h.2.2.1, h.2.2.2.1, fillA_congr r _ (fun p hp => he p (by simp [hp])) h.2.2.2.2⟩
    · exact h.elim

theorem vcElems_congr {s s' : St} (hH : s.H = s'.H) {z : Nat} : ∀ (ps : List (Nat × Operand)) (k : Nat) (K : List (List D) → Prop), (∀ p, p ∈ ps → ev s p.2 = ev s' p.2) →
    vcElems s z K ps k → vcElems s' z K ps k
  | [], k, K, _, h => h
  | (i, x) :: r, k, K, he, h => by
    unfold vcElems at h ⊢
    have e := he (i, x) (by simp)
    dsimp only at e
    rw [e, dataCells_congr hH] at h
    refine ⟨h.1, h.2.1, h.2.2.1, ?_⟩
    have h4 := h.2.2.2
    split at h4
    · exact ⟨h4.1, vcElems_congr hH r _ _ (fun p hp => he p (by simp [hp])) h4.2⟩
    · exact h4.elim

theorem vcPure_congr {s s' : St} {op : Op} {K : C → Prop} (hH : s.H = s'.H) (he : ∀ x, x ∈ op.operands → ev s x = ev s' x) (h : vcPure P s op K) : vcPure P s' op K := by
  have n1 := norm1_congr hH
  have n2 := norm_congr hH
  unfold vcPure at h ⊢
  split at h
  · rw [he _ (by simp [Op.operands])] at h; exact h
  · rw [he _ (by simp [Op.operands])] at h; exact h
  · rename_i c x y
    rw [he c (by simp [Op.operands]), he x (by simp [Op.operands]), he y (by simp [Op.operands])] at h; exact h
  · unfold vcLoad at h ⊢
    rw [he _ (by simp [Op.operands]), hH] at h; exact h
  · rw [he _ (by simp [Op.operands])] at h; exact h
  · rw [he _ (by simp [Op.operands])] at h; exact h
  · unfold vcField at h ⊢
    rw [he _ (by simp [Op.operands]), n2] at h; exact h
  · rename_i t x i
    unfold vcIndexAddr at h ⊢
    rw [he x (by simp [Op.operands]), he i (by simp [Op.operands]), n1] at h; exact h
  · rename_i t x i
    rw [he x (by simp [Op.operands]), he i (by simp [Op.operands])] at h; exact h
  · rename_i op t x y u
    unfold vcBin at h ⊢
    rw [he x (by simp [Op.operands]), he y (by simp [Op.operands]), n1] at h; exact h
  · rw [he _ (by simp [Op.operands])] at h; exact h
  · rename_i t x lo hi
    unfold vcSlice at h ⊢
    have e1 : lo.map (ev s) = lo.map (ev s') := by cases lo with | none => rfl | some y => simp [he y (by simp [Op.operands])]
    have e2 : hi.map (ev s) = hi.map (ev s') := by cases hi with | none => rfl | some y => simp [he y (by simp [Op.operands])]
    rw [he x (by simp [Op.operands]), e1, e2, n1] at h; exact h
  · rename_i t x i ok
    unfold vcLookup at h ⊢
    rw [he x (by simp [Op.operands]), he i (by simp [Op.operands]), n1, hH] at h; exact h
  · unfold vcEntry at h ⊢
    rw [he _ (by simp [Op.operands]), hH] at h; exact h
  · rw [he _ (by simp [Op.operands])] at h; exact h
  · rename_i f first cap
    have e1 : cap.toList.map (ev s) = cap.toList.map (ev s') := List.map_congr_left fun x hx => he x (by simp [Op.operands]; exact .inr (by simpa using hx))
    rw [e1] at h; exact h
  · rw [he _ (by simp [Op.operands]), n1] at h; exact h
  · rename_i t ps
    split at h
    · exact fillA_congr _ _ (fun p hp => he p.2 (by simp only [Op.operands, List.mem_toArray, List.mem_map]; exact ⟨p, hp, rfl⟩)) h
    · exact h.elim
  · rename_i c
    obtain ⟨callee, args, argTypes⟩ := c
    dsimp only at h ⊢
    have hargs : ∀ x, x ∈ args.toList → ev s x = ev s' x := fun x hx => he x (by
      simp only [Op.operands, Call.operands, Array.mem_append]; exact .inr (by simpa using hx))
    split at h
    · split at h
      · rename_i x t hl _
        unfold vcLen at h ⊢
        rw [hargs x (by rw [hl]; simp), n1, hH] at h; exact h
      · exact h.elim
    · split at h
      · rename_i x y hl
        rw [hargs x (by rw [hl]; simp), hargs y (by rw [hl]; simp)] at h; exact h
      · exact h.elim
    · split at h
      · rename_i x y hl
        rw [hargs x (by rw [hl]; simp), hargs y (by rw [hl]; simp)] at h; exact h
      · exact h.elim
    · exact h.elim
  · exact h.elim

theorem vcEff_congr {s s' : St} {o : Oper} {K : C → List O → Prop} (hH : s.H = s'.H) (he : ∀ x, x ∈ o.op.operands → ev s x = ev s' x) (h : vcEff P s o K) : vcEff P s' o K := by
  have n1 := norm1_congr hH
  have n2 := norm_congr hH
  have n3 := dataCells_congr hH
  unfold vcEff at h ⊢
  split at h
  · rename_i t x ho
    rw [he x (by simp [ho, Op.operands]), hH] at h; exact h
  · rw [hH] at h; exact h
  · rename_i t p x ho
    unfold vcStore at h ⊢
    rw [he p (by simp [ho, Op.operands]), he x (by simp [ho, Op.operands]), hH, n3] at h; exact h
  · rename_i t n ps ho
    split at h
    · rw [hH] at h
      exact ⟨h.1, h.2.1, vcElems_congr hH _ _ _ (fun p hp => he p.2 (by rw [ho]; simp only [Op.operands, List.mem_toArray, List.mem_map]; exact ⟨p, hp, rfl⟩)) h.2.2⟩
    · exact h.elim
  · rename_i t x y ho
    unfold vcMake at h ⊢
    rw [he x (by simp [ho, Op.operands]), hH] at h; exact h
  · rw [hH] at h; exact h
  · rename_i t m k v ho
    unfold vcInsert at h ⊢
    rw [he m (by simp [ho, Op.operands]), he k (by simp [ho, Op.operands]), he v (by simp [ho, Op.operands]), hH, n1] at h; exact h
  · rename_i t m k v ho
    unfold vcInsert at h ⊢
    rw [he m (by simp [ho, Op.operands]), he k (by simp [ho, Op.operands]), he v (by simp [ho, Op.operands]), hH, n1] at h; exact h
  · rename_i t x ho
    unfold vcRange at h ⊢
    rw [he x (by simp [ho, Op.operands]), hH] at h; exact h
  · rename_i x ho
    unfold vcNext at h ⊢
    rw [he x (by simp [ho, Op.operands]), hH] at h; exact h
  · rename_i c ho
    obtain ⟨callee, args, argTypes⟩ := c
    dsimp only at h ⊢
    have hargs : ∀ x, x ∈ args.toList → ev s x = ev s' x := fun x hx => he x (by
      rw [ho]; simp only [Op.operands, Call.operands, Array.mem_append]; exact .inr (by simpa using hx))
    split at h
    · split at h
      · rename_i x y t u hl _
        unfold vcAppend at h ⊢
        rw [hargs x (by rw [hl]; simp), hargs y (by rw [hl]; simp), hH, n1] at h; exact h
      · exact h.elim
    · rename_i f
      have e1 : args.toList.map (fun x => norm s (ev s x)) = args.toList.map (fun x => norm s' (ev s' x)) := List.map_congr_left fun x hx => by rw [hargs x hx, n2]
      rw [he f (by rw [ho]; simp [Op.operands, Call.operands]), e1, hH] at h; exact h
    · rw [hH] at h
      exact vcPure_congr hH he h
  · rw [hH] at h
    exact vcPure_congr hH he h


theorem fillA_det {places : List (Nat × Nat)} {s : St} {K : List C → Prop} : ∀ (ps : List (Nat × Operand)) (cs : List C), fillA places s K ps cs → ∃ c, fillA places s (· = c) ps cs ∧ K c
  | [], cs, h => ⟨cs, rfl, h⟩
  | (i, x) :: r, cs, h => by
    unfold fillA at h
    split at h
    · rename_i o n hp
      obtain ⟨h1, h2, h3, h4, h5⟩ := h
      obtain ⟨c, h6, h7⟩ := fillA_det r _ h5
      refine ⟨c, ?_, h7⟩
      unfold fillA
      rw [hp]
      exact ⟨h1, h2, h3, h4, h6⟩
    · exact h.elim

theorem vcElems_det {s : St} {z : Nat} : ∀ (ps : List (Nat × Operand)) (k : Nat) (K : List (List D) → Prop), vcElems s z K ps k → ∃ c, vcElems s z (· = c) ps k ∧ K c
  | [], k, K, h => ⟨[], rfl, h⟩
  | (i, x) :: r, k, K, h => by
    unfold vcElems at h
    obtain ⟨h1, h2, h3, h4⟩ := h
    split at h4
    · rename_i ds hds
      obtain ⟨c, h5, h6⟩ := vcElems_det r _ _ h4.2
      refine ⟨ds :: c, ?_, h6⟩
      unfold vcElems
      refine ⟨h1, h2, h3, ?_⟩
      rw [hds]
      refine ⟨h4.1, ?_⟩
      have gen : ∀ (r : List (Nat × Operand)) (k : Nat) (K K' : List (List D) → Prop), (∀ l, K l → K' l) → vcElems s z K r k → vcElems s z K' r k := by
        intro r
        induction r with
        | nil => intro k K K' hk h; exact hk _ h
        | cons p r ih =>
          intro k K K' hk h
          obtain ⟨i, x⟩ := p
          unfold vcElems at h ⊢
          refine ⟨h.1, h.2.1, h.2.2.1, ?_⟩
          have h4 := h.2.2.2
          split at h4
          · exact ⟨h4.1, ih _ _ _ (fun l hl => hk _ hl) h4.2⟩
          · exact h4.elim
      exact gen _ _ _ _ (fun l hl => by rw [hl]; rfl) h5
    · exact h4.elim

theorem vcPart_det {cs : List C} {o : Nat} {u : TypeId} {K : C → Prop} (h : vcPart P cs o u K) : ∃ c, vcPart P cs o u (· = c) ∧ K c := by
  unfold vcPart at h ⊢
  split at h <;> first | exact h.elim | exact ⟨_, ⟨h.1, rfl⟩, h.2⟩

theorem vcPartD_det {cs : List D} {o : Nat} {u : TypeId} {K : C → Prop} (h : vcPartD P cs o u K) : ∃ c, vcPartD P cs o u (· = c) ∧ K c := by
  unfold vcPartD at h ⊢
  split at h <;> first | exact h.elim | exact ⟨_, ⟨h.1, rfl⟩, h.2⟩

theorem vcPure_det {s : St} {op : Op} {K : C → Prop} (h : vcPure P s op K) : ∃ c, vcPure P s op (· = c) ∧ K c := by
  unfold vcPure at h ⊢
  split at h
  · exact ⟨_, ⟨h.1, rfl⟩, h.2⟩
  · exact ⟨_, ⟨h.1, rfl⟩, h.2⟩
  · obtain ⟨h1, h2, h3, h4⟩ := h
    split at h4
    · exact ⟨_, ⟨h1, h2, h3, by simp [*]⟩, h4⟩
    · exact h4.elim
  · obtain ⟨h1, h⟩ := h
    unfold vcLoad at h ⊢
    split at h
    · split at h
      · exact ⟨_, ⟨h1, by simp_all⟩, h.2⟩
      · exact ⟨_, ⟨h1, by simp_all⟩, h.2⟩
      · exact h.elim
    · split at h
      · obtain ⟨c, h2, h3⟩ := vcPart_det h
        exact ⟨c, ⟨h1, by simp_all⟩, h3⟩
      · exact h.elim
    · split at h
      · obtain ⟨h2, h3, h4⟩ := h
        obtain ⟨c, h5, h6⟩ := vcPartD_det h4
        exact ⟨c, ⟨h1, by simp_all⟩, h6⟩
      · exact h.elim
    · exact h.elim
  · obtain ⟨h1, h⟩ := h
    split at h <;> first | exact h.elim | exact ⟨_, ⟨h1, by simp_all⟩, h⟩
  · obtain ⟨h1, h⟩ := h
    unfold vcFieldAddr at h ⊢
    split at h
    · split at h
      · obtain ⟨h2, h⟩ := h
        split at h
        · exact ⟨_, ⟨h1, by simp_all⟩, h.2⟩
        · exact ⟨_, ⟨h1, by simp_all⟩, h⟩
        · exact ⟨_, ⟨h1, by simp_all⟩, h⟩
        · exact h.elim
      · exact h.elim
    · exact h.elim
  · obtain ⟨h1, h⟩ := h
    unfold vcField at h ⊢
    split at h
    · split at h
      · obtain ⟨c, h5, h6⟩ := vcPartD_det h
        exact ⟨c, ⟨h1, by simp_all⟩, h6⟩
      · obtain ⟨c, h5, h6⟩ := vcPart_det h
        exact ⟨c, ⟨h1, by simp_all⟩, h6⟩
      · exact h.elim
    · exact h.elim
  · obtain ⟨h1, h2, h⟩ := h
    unfold vcIndexAddr at h ⊢
    split at h
    · split at h
      · split at h
        · obtain ⟨h3, h4, h5⟩ := h
          obtain ⟨h6, h7⟩ := h5 _ (List.getElem?_eq_getElem (by omega))
          refine ⟨_, ⟨h1, h2, ?_⟩, h7⟩
          simp only [*]
          refine ⟨trivial, trivial, fun x hx => ?_⟩
          rw [List.getElem?_eq_getElem (by omega), Option.some.injEq] at hx
          subst hx
          exact ⟨h6, rfl⟩
        · exact ⟨_, ⟨h1, h2, by simp_all⟩, h.2.2⟩
        · exact h.elim
      · exact h.elim
    · exact h.elim
  · obtain ⟨h1, h2, h⟩ := h
    split at h
    · exact ⟨_, ⟨h1, h2, by simp_all⟩, h.2.2.2⟩
    · exact h.elim
  · rename_i op t x y u
    obtain ⟨h1, h2, h⟩ := h
    unfold vcBin at h ⊢
    split at h
    · obtain ⟨h3, h⟩ := h
      cases op <;> simp only at h <;> first
        | exact h.elim
        | exact ⟨_, ⟨h1, h2, by simp_all⟩, h.2⟩
        | exact ⟨_, ⟨h1, h2, by simp_all⟩, h⟩
    · cases op <;> simp only at h <;> first
        | exact h.elim
        | exact ⟨_, ⟨h1, h2, by simp_all⟩, h.2⟩
        | exact ⟨_, ⟨h1, h2, by simp_all⟩, h⟩
    · cases op <;> simp only at h <;> first
        | exact h.elim
        | exact ⟨_, ⟨h1, h2, by simp_all⟩, h.2⟩
        | exact ⟨_, ⟨h1, h2, by simp_all⟩, h⟩
    · exact h.elim
  · obtain ⟨h1, h⟩ := h
    split at h <;> first | exact h.elim | exact ⟨_, ⟨h1, by simp_all⟩, h⟩
  · obtain ⟨h1, h2, h3, h⟩ := h
    unfold vcSlice at h ⊢
    split at h
    · exact ⟨_, ⟨h1, h2, h3, by simp_all⟩, h.2.2.2.2⟩
    · exact ⟨_, ⟨h1, h2, h3, by simp_all⟩, h.2.2.2⟩
    · exact ⟨_, ⟨h1, h2, h3, by simp_all⟩, h.2.2.2⟩
    · exact ⟨_, ⟨h1, h2, h3, by simp_all⟩, h.2.2.2.2⟩
    · exact ⟨_, ⟨h1, h2, h3, by simp_all⟩, h.2.2.2⟩
    · exact ⟨_, ⟨h1, h2, h3, by simp_all⟩, h.2.2.2⟩
    · exact h.elim
  · obtain ⟨h1, h2, h⟩ := h
    unfold vcLookup at h ⊢
    split at h
    · split at h
      · obtain ⟨h3, h4, h⟩ := h
        split at h
        · exact ⟨_, ⟨h1, h2, by simp_all⟩, h⟩
        · exact ⟨_, ⟨h1, h2, by simp_all⟩, h⟩
      · exact h.elim
    · exact h.elim
  · obtain ⟨h1, h⟩ := h
    unfold vcEntry at h ⊢
    split at h
    · split at h
      · split at h
        · obtain ⟨h2, h3, h4⟩ := h
          refine ⟨_, ⟨h1, ?_⟩, h3 _ (List.getElem?_eq_getElem h4)⟩
          simp only [*]
          refine ⟨trivial, fun x hx => ?_, trivial⟩
          rw [List.getElem?_eq_getElem h4, Option.some.injEq] at hx
          subst hx; rfl
        · exact h.elim
      · exact h.elim
    · exact h.elim
  · obtain ⟨h1, h⟩ := h
    split at h
    · exact ⟨_, ⟨h1, by simp_all⟩, h.2⟩
    · exact h.elim
  · exact ⟨_, ⟨h.1, h.2.1, rfl⟩, h.2.2⟩
  · obtain ⟨h1, h⟩ := h
    split at h
    · split at h
      · exact ⟨_, ⟨h1, by simp_all⟩, h.2⟩
      · exact h.elim
    · split at h
      · exact ⟨_, ⟨h1, by simp_all⟩, h.2.2⟩
      · exact h.elim
    · exact h.elim
  · split at h
    · obtain ⟨c, h1, h2⟩ := fillA_det _ _ h
      refine ⟨_, ?_, h2⟩
      have gen : ∀ (places : List (Nat × Nat)) (ps : List (Nat × Operand)) (cs : List C) (K K' : List C → Prop), (∀ l, K l → K' l) → fillA places s K ps cs → fillA places s K' ps cs := by
        intro places ps
        induction ps with
        | nil => intro cs K K' hk h; exact hk _ h
        | cons p r ih =>
          intro cs K K' hk h
          obtain ⟨i, x⟩ := p
          unfold fillA at h ⊢
          split at h
          · exact ⟨h.1, h.2.1, h.2.2.1, h.2.2.2.1, ih _ _ _ hk h.2.2.2.2⟩
          · exact h.elim
      exact gen _ _ _ _ _ (fun l hl => by rw [hl]; rfl) h1
    · exact h.elim
  · rename_i c
    obtain ⟨callee, args, argTypes⟩ := c
    dsimp only at h ⊢
    split at h
    · split at h
      · obtain ⟨h1, h⟩ := h
        unfold vcLen at h ⊢
        split at h
        · exact ⟨_, ⟨h1, by simp_all⟩, h.2⟩
        · exact ⟨_, ⟨h1, by simp_all⟩, h.2⟩
        · exact ⟨_, ⟨h1, by simp_all⟩, h.2⟩
        · split at h
          · exact ⟨_, ⟨h1, by simp_all⟩, h.2⟩
          · exact h.elim
        · exact h.elim
      · exact h.elim
    · split at h
      · obtain ⟨h1, h2, h⟩ := h
        split at h
        · exact ⟨_, ⟨h1, h2, by simp_all⟩, h.2⟩
        · exact h.elim
      · exact h.elim
    · split at h
      · obtain ⟨h1, h2, h⟩ := h
        split at h
        · exact ⟨_, ⟨h1, h2, by simp_all⟩, h.2⟩
        · exact h.elim
      · exact h.elim
    · exact h.elim
  · exact h.elim

end
end Go.Abs
