/- The plain-data layer, part 30: a call over some objects is a call over these and more. -/
import Derived.Test.YtkmbaakiliafeaaAbs29
namespace Go.Abs

section
variable {E E' : Env}

theorem Rd.ext (hw : E'.w = E.w) (hS : E'.S = E.S) (hN : E.N ≤ E'.N) (hβ : ∀ r, r < E.N → E'.β r = E.β r) (hτ : ∀ r, r < E.N → E'.τ r = E.τ r) {c : C} {v : Value} (h : Rd E c v) : Rd E' c v := by
  induction h with
  | top v => exact .top v
  | d x v hd => exact .d x v (by rw [hw, hS]; exact hd)
  | nil0 a => exact .nil0 a
  | cptr b off cs val hc hr => exact .cptr b off cs val (fun j hj => by rw [hw, hS]; exact hc j hj) (fun j c hj => by rw [hw, hS]; exact hr j c hj)
  | ptr r off hr => rw [← hβ r hr]; exact .ptr r off (Nat.lt_of_lt_of_le hr hN)
  | nilp => exact .nilp
  | own r q v hr h1 hq hv => exact .own r q v (Nat.lt_of_lt_of_le hr hN) h1 (by rw [hτ r hr]; exact hq) (by rw [hτ r hr]; exact hv)
  | rsl r n hr => rw [← hβ r hr]; exact .rsl r n (Nat.lt_of_lt_of_le hr hN)
  | eptr r z i off hr => rw [← hβ r hr]; exact .eptr r z i off (Nat.lt_of_lt_of_le hr hN)
  | map r hr => rw [← hβ r hr]; exact .map r (Nat.lt_of_lt_of_le hr hN)
  | fn f caps vs hl hr ih => exact .fn f caps vs hl ih
  | agg cs vs hl h1 hr ih => exact .agg cs vs hl h1 ih
  | tup cs vs hl hr ih => exact .tup cs vs hl ih

theorem RepO.ext (hw : E'.w = E.w) (hS : E'.S = E.S) (hN : E.N ≤ E'.N) (hβ : ∀ r, r < E.N → E'.β r = E.β r) (hτ : ∀ r, r < E.N → E'.τ r = E.τ r) {r : Nat} {o : O} (hr : r < E.N) (h : RepO E r o) : RepO E' r o := by
  cases o with
  | box cs =>
    obtain ⟨arr, e, h1, h2, h3, h4⟩ := h
    exact ⟨arr, e, by rw [hw, hβ r hr]; exact h1, h2, fun i c v hc hv => ⟨(h3 i c v hc hv).1.ext hw hS hN hβ hτ, (h3 i c v hc hv).2⟩, by rw [hS, hβ r hr]; exact h4⟩
  | grow q z e xs => simp only [RepO] at h ⊢; rw [hτ r hr, hw, hS]; exact h
  | row z e xs => simp only [RepO] at h ⊢; rw [hw, hS, hβ r hr]; exact h
  | map sk es => simp only [RepO] at h ⊢; rw [hw, hS, hβ r hr]; exact h
  | iter m since c0 seen =>
    simp only [RepO] at h ⊢
    rw [hw, hS, hβ r hr, hβ m (Nat.lt_trans h.1 hr)]; exact h
  | buf q z e xs => simp only [RepO] at h ⊢; rw [hτ r hr, hw, hS]; exact h
  | dead => trivial

theorem ACalls.frame {P : Program} {f : FuncId} {args : List C} {H X : List O} {R : C → List O → Prop} (h : ACalls P f args H R)
    (ha : args.all (C.refsLtT H.length) = true) (hf : H.all (O.refsLt H.length) = true)
    {K : C → List O → Prop} (hk : ∀ c H', R c H' → H'.length = H.length → K c (H' ++ X)) : ACalls P f args (H ++ X) K := by
  intro E vs hE hs hargs
  have hEN : E.N = H.length + X.length := by rw [hE.N, List.length_append]
  have hget : ∀ {r : Nat} {o : O}, H[r]? = some o → (H ++ X)[r]? = some o := fun ho => by
    rw [List.getElem?_append_left (List.getElem?_eq_some_iff.1 ho).1]; exact ho
  have hlen : ∀ {r : Nat} {o : O}, H[r]? = some o → r < H.length := fun ho => (List.getElem?_eq_some_iff.1 ho).1
  let E0 : Env := { E with N := H.length, pv := fun b => ∃ (r : Nat) (o : O), H[r]? = some o ∧ o.block E r = some b }
  have hT : (H ++ X).take H.length = H := by simp
  have hT1 := hE.trunc (m := H.length) (by simp) (by rw [hT]; exact hf)
  rw [hT] at hT1
  have hb0 : ∀ (r : Nat) (o : O), o.block E0 r = o.block E r := fun r o => by cases o <;> rfl
  have hpv0 : ∀ b, E0.pv b → E.pv b := fun b ⟨r, o, ho, hb⟩ => hE.pv r o b (hget ho) hb
  have hE0 : RepH E0 H := by
    refine ⟨rfl, fun r o ho => ?_, fun r o b ho hb => ⟨r, o, ho, by rw [← hb0]; exact hb⟩, fun r o b ho hb => hE.lt r o b (hget ho) (by rw [← hb0]; exact hb), fun r r' o o' b ho ho' hb hb' => hE.apart r r' o o' b (hget ho) (hget ho') (by rw [← hb0]; exact hb) (by rw [← hb0]; exact hb'), hE.Slt⟩
    exact RepO.ext (E := Abs.trunc E H.length) (E' := E0) rfl rfl (Nat.le_refl _) (fun _ _ => rfl) (fun _ _ => rfl) (hlen ho) (hT1.obj r o ho)
  simp only [List.all_eq_true] at ha
  refine (h E0 vs hE0 hs (fun i c v hc hv => ?_)).mono ?_
  · exact Rd.ext (E := Abs.trunc E H.length) (E' := E0) rfl rfl (Nat.le_refl _) (fun _ _ => rfl) (fun _ _ => rfl) ((hargs i c v hc hv).truncT (ha c (List.mem_of_getElem? hc)))
  · rintro e w' ⟨v, c, E', H', rfl, rfl, h3, h4, h5, h6, h7⟩
    have hN' : E'.N = H.length := by rw [h3.N, h6]
    let E2 : Env := { E with w := E'.w, S := E'.S, τ := fun x => if x < H.length then E'.τ x else E.τ x, pv := fun b => E.pv b ∨ E'.pv b }
    have hτ1 : ∀ x, x < H.length → E2.τ x = E'.τ x := fun x hx => if_pos hx
    have hτ2 : ∀ x, ¬ x < H.length → E2.τ x = E.τ x := fun x hx => if_neg hx
    have hβ1 : ∀ x, x < H.length → E2.β x = E'.β x := fun x hx => (h4.β x hx).symm
    have hx1 : ∀ r, r < E'.N → E2.β r = E'.β r := fun r hr => hβ1 r (by rw [hN'] at hr; exact hr)
    have hx2 : ∀ r, r < E'.N → E2.τ r = E'.τ r := fun r hr => hτ1 r (by rw [hN'] at hr; exact hr)
    have hx3 : E'.N ≤ E2.N := by rw [hN']; show H.length ≤ E.N; omega
    have hl : Le E E2 := by
      refine ⟨h4.os, h4.tape, h4.output, h4.size, Nat.le_refl _, fun _ _ => rfl, fun x hx => ?_, h4.S, h4.cell, fun b hb hp => h4.blk b hb (fun hp' => hp (hpv0 b hp')), fun b i hs => ?_, fun b hp => ?_⟩
      · by_cases e : x < H.length
        · rw [hτ1 x e]; exact h4.τ x e
        · rw [hτ2 x e]; exact ⟨Nat.le_refl _, fun _ => rfl⟩
      · rcases h4.newS b i hs with h' | h' | h'
        · exact .inl h'
        · exact .inr (.inl h')
        · exact .inr (.inr (hpv0 b h'))
      · rcases hp with hp | hp
        · exact .inl hp
        · rcases h4.newP b hp with h' | h'
          · exact .inl (hpv0 b h')
          · exact .inr h'
    have hlow : ∀ {r : Nat} {o : O}, (H' ++ X)[r]? = some o → r < H.length → H'[r]? = some o := fun ho hr => by
      rw [List.getElem?_append_left (by omega)] at ho; exact ho
    have hhigh : ∀ {r : Nat} {o : O}, (H' ++ X)[r]? = some o → ¬ r < H.length → (H ++ X)[r]? = some o := fun ho hr => by
      rw [List.getElem?_append_right (by omega)] at ho ⊢; rw [h6] at ho; exact ho
    have hrN : ∀ {r : Nat} {o : O}, (H ++ X)[r]? = some o → r < E.N := fun ho => by rw [hE.N]; exact (List.getElem?_eq_some_iff.1 ho).1
    have hbl : ∀ (r : Nat) (o : O), r < H.length → o.block E2 r = o.block E' r := fun r o hr => O.block_same (hβ1 r hr) (hτ1 r hr)
    have hbh : ∀ (r : Nat) (o : O), ¬ r < H.length → o.block E2 r = o.block E r := fun r o hr => O.block_same rfl (hτ2 r hr)
    have far : ∀ (r : Nat) (o : O) (b : Nat), ¬ r < H.length → (H ++ X)[r]? = some o → o.block E r = some b → ¬ E0.pv b := by
      rintro r o b hr ho hb ⟨r1, o1, ho1, hb1⟩
      exact hr ((hE.apart r r1 o o1 b ho (hget ho1) hb hb1) ▸ hlen ho1)
    have far' : ∀ (r : Nat) (o : O) (b : Nat), ¬ r < H.length → (H ++ X)[r]? = some o → o.block E r = some b → ¬ E'.pv b := by
      intro r o b hr ho hb hp
      rcases h4.newP b hp with h' | h'
      · exact far r o b hr ho hb h'
      · have := hE.lt r o b ho hb; exact absurd h' (by show ¬ E.w.heap.size ≤ b; omega)
    have hH2 : RepH E2 (H' ++ X) := by
      refine ⟨by rw [List.length_append, h6]; exact hEN, fun r o ho => ?_, fun r o b ho hb => ?_, fun r o b ho hb => ?_, fun r r' o o' b ho ho' hb hb' => ?_, h3.Slt⟩
      · by_cases hr : r < H.length
        · exact RepO.ext (E := E') (E' := E2) rfl rfl hx3 hx1 hx2 (by rw [hN']; exact hr) (h3.obj r o (hlow ho hr))
        · have ho' := hhigh ho hr
          refine (hE.obj r o ho').keep hl (hrN ho') (hτ2 r hr) (fun b hb => ⟨h4.blk b (hE.lt r o b ho' hb) (far r o b hr ho' hb), fun i hs => ?_⟩)
          rcases h4.newS b i hs with h' | h' | h'
          · exact h'
          · have := hE.lt r o b ho' hb; exact absurd h' (by show ¬ E.w.heap.size ≤ b; omega)
          · exact absurd h' (far r o b hr ho' hb)
      · by_cases hr : r < H.length
        · rw [hbl r o hr] at hb; exact .inr (h3.pv r o b (hlow ho hr) hb)
        · rw [hbh r o hr] at hb; exact .inl (hE.pv r o b (hhigh ho hr) hb)
      · by_cases hr : r < H.length
        · rw [hbl r o hr] at hb; exact h3.lt r o b (hlow ho hr) hb
        · rw [hbh r o hr] at hb; exact Nat.lt_of_lt_of_le (hE.lt r o b (hhigh ho hr) hb) h4.size
      · by_cases hr : r < H.length <;> by_cases hr' : r' < H.length
        · rw [hbl r o hr] at hb
          rw [hbl r' o' hr'] at hb'
          exact h3.apart r r' o o' b (hlow ho hr) (hlow ho' hr') hb hb'
        · rw [hbl r o hr] at hb
          rw [hbh r' o' hr'] at hb'
          exact absurd (h3.pv r o b (hlow ho hr) hb) (far' r' o' b hr' (hhigh ho' hr') hb')
        · rw [hbh r o hr] at hb
          rw [hbl r' o' hr'] at hb'
          exact absurd (h3.pv r' o' b (hlow ho' hr') hb') (far' r o b hr (hhigh ho hr) hb)
        · rw [hbh r o hr] at hb
          rw [hbh r' o' hr'] at hb'
          exact hE.apart r r' o o' b (hhigh ho hr) (hhigh ho' hr') hb hb'
    exact ⟨v, c, E2, H' ++ X, rfl, rfl, hH2, hl, Rd.ext (E := E') (E' := E2) rfl rfl hx3 hx1 hx2 h5, by rw [List.length_append, List.length_append, h6], hk c H' h7 h6⟩

end
end Go.Abs
