/- The plain-data layer, part 23: a call that is handed one of the caller's objects. -/
import Derived.Test.YtkmbaakiliafeaaAbs22
namespace Go.Abs

/-- Plain data, or a word for nothing. -/
def C.still : C → Bool
  | .d _ | .nil0 | .nilp => true
  | _ => false

/-- An object that names no other. -/
def O.still : O → Bool
  | .box cs => cs.all C.still
  | .iter .. => false
  | _ => true

/-- What may be handed on or back: plain data, or a word that names object 0. -/
def C.one : C → Bool
  | .d _ | .nil0 | .nilp => true
  | .ptr r _ => r == 0
  | .own r _ => r == 0
  | .rsl r _ => r == 0
  | .eptr r _ _ _ => r == 0
  | .map r => r == 0
  | _ => false

/-- Object 0 is the caller's object r. -/
def C.at1 (r : Nat) : C → C
  | .ptr _ o => .ptr r o
  | .own _ q => .own r q
  | .rsl _ n => .rsl r n
  | .eptr _ z i o => .eptr r z i o
  | .map _ => .map r
  | c => c

theorem Rd.still {E E' : Env} (hw : E.w = E'.w) (hS : E.S = E'.S) {c : C} (hc : c.still = true) {v : Value} (h : Rd E c v) : Rd E' c v := by
  cases h with
  | d x _ hd => exact .d _ _ (by rw [← hw, ← hS]; exact hd)
  | nil0 a => exact .nil0 a
  | nilp => exact .nilp
  | _ => simp [C.still] at hc

theorem RepO.ren {E E' : Env} {r r' : Nat} {o : O} (hw : E.w = E'.w) (hS : E.S = E'.S) (hβ : E.β r = E'.β r') (hτ : E.τ r = E'.τ r') (ho : o.still = true) (h : RepO E r o) : RepO E' r' o := by
  cases o with
  | box cs =>
    obtain ⟨arr, e, h1, h2, h3, h4⟩ := h
    simp only [O.still, List.all_eq_true] at ho
    exact ⟨arr, e, by rw [← hw, ← hβ]; exact h1, h2, fun i c v hc hv => ⟨(h3 i c v hc hv).1.still hw hS (ho c (List.mem_of_getElem? hc)), (h3 i c v hc hv).2⟩, by rw [← hS, ← hβ]; exact h4⟩
  | grow q z e xs => simp only [RepO] at h ⊢; rw [← hτ, ← hw, ← hS]; exact h
  | row z e xs => simp only [RepO] at h ⊢; rw [← hw, ← hS, ← hβ]; exact h
  | map sk es => simp only [RepO] at h ⊢; rw [← hw, ← hS, ← hβ]; exact h
  | iter => simp [O.still] at ho
  | buf q z e xs => simp only [RepO] at h ⊢; rw [← hτ, ← hw, ← hS]; exact h
  | dead => trivial

theorem O.block_ren {E E' : Env} {r r' : Nat} {o : O} (hβ : E.β r = E'.β r') (hτ : E.τ r = E'.τ r') : o.block E r = o.block E' r' := by
  cases o <;> simp [O.block, hβ, hτ]

theorem ACalls.at1 {P : Program} {f : FuncId} {args : List C} {o : O} {R : C → List O → Prop} (h : ACalls P f args [o] R) (hf : args.all C.one = true) (r : Nat) {H : List O} (hr : H[r]? = some o) (ho : o.still = true)
    {K : C → List O → Prop} (hk : ∀ c o', R c [o'] → c.one = true ∧ o'.still = true ∧ K (c.at1 r) (H.set r o')) : ACalls P f (args.map (C.at1 r)) H K := by
  intro E vs hH hs ha
  have hrN : r < E.N := by rw [hH.N]; exact (List.getElem?_eq_some_iff.1 hr).1
  let E0 : Env := { E with N := 1, β := fun _ => E.β r, τ := fun _ => E.τ r, pv := fun b => o.block E r = some b }
  have hb0 : o.block E0 0 = o.block E r := O.block_ren rfl rfl
  have at0 : ∀ (i : Nat) (o' : O), [o][i]? = some o' → i = 0 ∧ o' = o := by
    intro i o' h
    match i with
    | 0 => simp at h; exact ⟨rfl, h.symm⟩
    | i + 1 => simp at h
  have hE0 : RepH E0 [o] := by
    refine ⟨rfl, fun i o' ho' => ?_, fun i o' b ho' hb => ?_, fun i o' b ho' hb => ?_, fun i i' o1 o2 b ho1 ho2 _ _ => ?_, hH.Slt⟩
    · obtain ⟨rfl, rfl⟩ := at0 i o' ho'
      exact RepO.ren (E := E) (E' := E0) (r := r) (r' := 0) rfl rfl rfl rfl ho (hH.obj r _ hr)
    · obtain ⟨rfl, rfl⟩ := at0 i o' ho'
      rw [hb0] at hb; exact hb
    · obtain ⟨rfl, rfl⟩ := at0 i o' ho'
      rw [hb0] at hb; exact hH.lt r _ b hr hb
    · rw [(at0 i _ ho1).1, (at0 i' _ ho2).1]
  simp only [List.all_eq_true] at hf
  refine (h E0 vs hE0 (by simpa using hs) (fun i c v hc hv => ?_)).mono ?_
  · have hcc := ha i (c.at1 r) v (by simp [hc]) hv
    have h1 := hf c (List.mem_of_getElem? hc)
    cases c with
    | d x => cases hcc with | d _ _ hd => exact .d _ _ hd
    | nil0 => cases hcc with | nil0 a => exact .nil0 a
    | nilp => cases hcc with | nilp => exact .nilp
    | ptr r' off => cases hcc with | ptr _ _ _ => simp only [C.one, beq_iff_eq] at h1; subst h1; exact Rd.ptr (E := E0) 0 off Nat.zero_lt_one
    | own r' q => cases hcc with | own _ _ _ _ g1 g2 g3 => simp only [C.one, beq_iff_eq] at h1; subst h1; exact Rd.own (E := E0) 0 q v Nat.zero_lt_one g1 g2 g3
    | rsl r' n => cases hcc with | rsl _ _ _ => simp only [C.one, beq_iff_eq] at h1; subst h1; exact Rd.rsl (E := E0) 0 n Nat.zero_lt_one
    | eptr r' z i' off => cases hcc with | eptr _ _ _ _ _ => simp only [C.one, beq_iff_eq] at h1; subst h1; exact Rd.eptr (E := E0) 0 z i' off Nat.zero_lt_one
    | map r' => cases hcc with | map _ _ => simp only [C.one, beq_iff_eq] at h1; subst h1; exact Rd.map (E := E0) 0 Nat.zero_lt_one
    | _ => simp [C.one] at h1
  · rintro e w' ⟨v, c, E', H', rfl, rfl, h3, h4, h5, h6, h7⟩
    obtain ⟨o', rfl⟩ : ∃ o', H' = [o'] := by
      match H', h6 with
      | [o'], _ => exact ⟨o', rfl⟩
    obtain ⟨k1, k2, k3⟩ := hk c o' h7
    have hβ : E'.β 0 = E.β r := h4.β 0 Nat.zero_lt_one
    let E2 : Env := { E with w := E'.w, S := E'.S, τ := fun x => if x = r then E'.τ 0 else E.τ x, pv := fun b => E.pv b ∨ E'.pv b }
    have hτr : E2.τ r = E'.τ 0 := if_pos rfl
    have hτn : ∀ x, x ≠ r → E2.τ x = E.τ x := fun x hx => if_neg hx
    have hpv0 : ∀ b, E0.pv b → E.pv b := fun b hb => hH.pv r o b hr hb
    have hl : Le E E2 := by
      refine ⟨h4.os, h4.tape, h4.output, h4.size, Nat.le_refl _, fun _ _ => rfl, fun x hx => ?_, h4.S, h4.cell, fun b hb hp => h4.blk b hb (fun hp' => hp (hpv0 b hp')), fun b i hs => ?_, fun b hp => ?_⟩
      · by_cases e : x = r
        · subst e; rw [hτr]; exact h4.τ 0 Nat.zero_lt_one
        · rw [hτn x e]; exact ⟨Nat.le_refl _, fun _ => rfl⟩
      · rcases h4.newS b i hs with h' | h' | h'
        · exact .inl h'
        · exact .inr (.inl h')
        · exact .inr (.inr (hpv0 b h'))
      · rcases hp with hp | hp
        · exact .inl hp
        · rcases h4.newP b hp with h' | h'
          · exact .inl (hpv0 b h')
          · exact .inr h'
    have hb2 : o'.block E2 r = o'.block E' 0 := O.block_ren (by rw [hβ]) hτr
    have far : ∀ (x : Nat) (ox : O) (b : Nat), x ≠ r → H[x]? = some ox → ox.block E x = some b → ¬ E0.pv b := fun x ox b hx hox hb hp => hx (hH.apart x r ox o b hox hr hb hp)
    have hH2 : RepH E2 (H.set r o') := by
      refine hH.turn (r0 := r) (o0 := o') hl (by show E.N = _; rw [List.length_set, hH.N]) (fun x hx => by rw [List.getElem?_set_ne (Ne.symm hx)]) (fun ox hox => ?_) (fun x hx _ => hτn x hx) (fun x ox b hx hox hb => ?_) (fun b hb => .inl hb) h3.Slt ?_ (fun b hb => ?_)
      · rw [List.getElem?_set_self (by rw [← hH.N]; exact hrN)] at hox; cases hox; rfl
      · refine ⟨h4.blk b (hH.lt x ox b hox hb) (far x ox b hx hox hb), fun i hs => ?_⟩
        rcases h4.newS b i hs with h' | h' | h'
        · exact h'
        · have := hH.lt x ox b hox hb; exact absurd h' (by show ¬ E.w.heap.size ≤ b; omega)
        · exact absurd h' (far x ox b hx hox hb)
      · exact RepO.ren (E := E') (E' := E2) (r := 0) (r' := r) rfl rfl hβ hτr.symm k2 (h3.obj 0 o' rfl)
      · rw [hb2] at hb
        refine ⟨.inr (h3.pv 0 o' b rfl hb), h3.lt 0 o' b rfl hb, fun x ox hx hox hbx => ?_⟩
        rcases h4.newP b (h3.pv 0 o' b rfl hb) with h' | h'
        · exact far x ox b hx hox hbx h'
        · have := hH.lt x ox b hox hbx; exact absurd h' (by show ¬ E.w.heap.size ≤ b; omega)
    have h5' : Rd E2 (c.at1 r) v := by
      cases h5 with
      | d x _ hd => exact .d _ _ hd
      | nil0 a => exact .nil0 a
      | nilp => exact .nilp
      | ptr r' off _ => simp only [C.one, beq_iff_eq] at k1; subst k1; rw [hβ]; exact Rd.ptr (E := E2) r off hrN
      | own r' q _ _ g1 g2 g3 => simp only [C.one, beq_iff_eq] at k1; subst k1; exact Rd.own (E := E2) r q v hrN g1 (by rw [hτr]; exact g2) (by rw [hτr]; exact g3)
      | rsl r' n _ => simp only [C.one, beq_iff_eq] at k1; subst k1; rw [hβ]; exact Rd.rsl (E := E2) r n hrN
      | eptr r' z i off _ => simp only [C.one, beq_iff_eq] at k1; subst k1; rw [hβ]; exact Rd.eptr (E := E2) r z i off hrN
      | map r' _ => simp only [C.one, beq_iff_eq] at k1; subst k1; rw [hβ]; exact Rd.map (E := E2) r hrN
      | _ => simp [C.one] at k1
    exact ⟨v, c.at1 r, E2, H.set r o', rfl, rfl, hH2, hl, h5', by rw [List.length_set], k3⟩

end Go.Abs
