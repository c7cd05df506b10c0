/- The plain-data layer, part 6: slicing, struct literals, and part 3's operations together. -/
import Derived.Test.YtkmbaakiliafeaaAbs5
namespace Go.Abs

section
variable {P : Program} {E : Env}

theorem run_slice_str {t : TypeId} (hu : P.underlying t = some .string) (w : World) (l : List UInt8) (a b : Nat) (h1 : a ≤ b) (h2 : b ≤ l.length) (k k' : IntKind) :
    (Instr.sliceAt t (.string ⟨l.toArray⟩) (some (.int k a)) (some (.int k' b)) none).run P w = .ok (.string ⟨((l.take b).drop a).toArray⟩) w ∧
    (Instr.sliceAt t (.string ⟨l.toArray⟩) (some (.int k a)) none none).run P w = .ok (.string ⟨(l.drop a).toArray⟩) w ∧
    (Instr.sliceAt t (.string ⟨l.toArray⟩) none (some (.int k' b)) none).run P w = .ok (.string ⟨(l.take b).toArray⟩) w := by
  have hx : ∀ a b, (⟨l.toArray⟩ : ByteArray).extract a b = ⟨((l.take b).drop a).toArray⟩ := by
    intro a b
    have : ((⟨l.toArray⟩ : ByteArray).extract a b).data = ((l.take b).drop a).toArray := by
      rw [ByteArray.data_extract]
      apply Array.ext'
      simp [List.drop_take]
    cases h : (⟨l.toArray⟩ : ByteArray).extract a b
    rw [h] at this
    simp only at this
    rw [this]
  have hs : (⟨l.toArray⟩ : ByteArray).size = l.length := by simp [ByteArray.size]
  refine ⟨?_, ?_, ?_⟩
  · simp [Instr.sliceAt, run_underlying hu, Instr.slice, Instr.sliceBounds, Instr.sliceBound, asIntOf, hs, hx, h1, h2]
  · have : a ≤ l.length := by omega
    simp [Instr.sliceAt, run_underlying hu, Instr.slice, Instr.sliceBounds, Instr.sliceBound, asIntOf, hs, hx, this]
  · simp [Instr.sliceAt, run_underlying hu, Instr.slice, Instr.sliceBounds, Instr.sliceBound, asIntOf, hs, hx, h2]

theorem run_slice_sl {t e : TypeId} {z : Nat} (hu : P.underlying t = some (.slice e)) (hz : tSize P e = some z) (w : World) (ad : Option Addr) (len cap : Nat) (a b : Nat) (h1 : a ≤ b) (h2 : b ≤ len) (h3 : len ≤ cap) (k k' : IntKind) :
    (Instr.sliceAt t (.slice ad len cap) (some (.int k a)) (some (.int k' b)) none).run P w = .ok (.slice (if cap = a then ad else ad.map (·.add (a * z))) (b - a) (cap - a)) w ∧
    (Instr.sliceAt t (.slice ad len cap) (some (.int k a)) none none).run P w = .ok (.slice (if cap = a then ad else ad.map (·.add (a * z))) (len - a) (cap - a)) w ∧
    (Instr.sliceAt t (.slice ad len cap) none (some (.int k' b)) none).run P w = .ok (.slice (if cap = 0 then ad else ad.map (·.add (0 * z))) (b - 0) (cap - 0)) w := by
  have hb : b ≤ cap := by omega
  refine ⟨?_, ?_, ?_⟩
  · simp [Instr.sliceAt, run_underlying hu, Instr.slice, Instr.sliceBounds, Instr.sliceBound, asIntOf, run_sizeOf hz, h1, hb]
  · have : a ≤ len := by omega
    simp [Instr.sliceAt, run_underlying hu, Instr.slice, Instr.sliceBounds, Instr.sliceBound, asIntOf, run_sizeOf hz, this]
  · simp [Instr.sliceAt, run_underlying hu, Instr.slice, Instr.sliceBounds, Instr.sliceBound, asIntOf, run_sizeOf hz, hb]

/-- A part of a slice reads as the part of the list. -/
theorem rdD_sub {w : World} {S : Nat → Nat → Prop} {l : List (List D)} {z : Nat} (hz : ∀ x, x ∈ l → x.length = z) {ad : Option Addr} {len cap a b : Nat} (h1 : a ≤ b) (h2 : b ≤ l.length)
    (h : RdD w S (.sl l) (.slice ad len cap)) : len = l.length ∧ l.length ≤ cap + l.length ∧ (len ≤ cap ∨ l = []) ∧ RdD w S (.sl ((l.take b).drop a)) (.slice (if cap = a then ad else ad.map (·.add (a * z))) (b - a) (cap - a)) := by
  cases h with
  | nil =>
    simp at h2
    refine ⟨rfl, by omega, .inr rfl, ?_⟩
    have : b - a = 0 := by omega
    simp only [List.take_nil, List.drop_nil, this]
    exact .nil _ _
  | sl b0 off _ z' _ val hne hcap hmax hzz hc hr =>
    have hzz' : z' = z := by
      cases l with
      | nil => exact absurd rfl hne
      | cons x r => rw [← hzz x (by simp), hz x (by simp)]
    subst hzz'
    refine ⟨rfl, by omega, .inl hcap, ?_⟩
    by_cases he : a = b
    · subst he
      have e1 : (l.take a).drop a = [] := List.drop_eq_nil_of_le (by simp; omega)
      rw [e1, Nat.sub_self]
      exact .nil _ _
    · have hlt : a < b := by omega
      have hlen : ((l.take b).drop a).length = b - a := by simp; omega
      have hca : ¬ cap = a := by omega
      rw [if_neg hca, Option.map_some, Addr.add_mk, ← hlen]
      have hgx : ∀ (i : Nat) (x : List D), ((l.take b).drop a)[i]? = some x → l[a + i]? = some x := by
        intro i x hi
        rw [List.getElem?_drop, List.getElem?_take] at hi
        split at hi
        · exact hi
        · simp at hi
      refine .sl b0 (off + a * z') (cap - a) z' _ (fun i j => val (a + i) j) (fun e => ?_) (by rw [hlen]; omega) (by omega) (fun x hx => ?_) (fun i j hi hj => ?_) (fun i j x c hi hj => ?_)
      · rw [e] at hlen; simp at hlen; omega
      · obtain ⟨i, hi⟩ := List.mem_iff_getElem?.1 hx
        exact hz x (List.mem_of_getElem? (hgx i x hi))
      · rw [hlen] at hi
        have := hc (a + i) j (by omega) hj
        rw [Nat.add_mul] at this
        rw [show off + a * z' + i * z' + j = off + (a * z' + i * z') + j by omega]
        exact this
      · exact hr (a + i) j x c (hgx i x hi) hj

theorem slice_sound {s : St} {t : TypeId} {x : Operand} {lo hi : Option Operand} {K : C → Prop} (hx : okOperand x = true) (hlo : lo.all okOperand = true) (hhi : hi.all okOperand = true)
    (h : vcSlice P s t (ev s x) (lo.map (ev s)) (hi.map (ev s)) K) : Sound P s K fun a => Instr.sliceAt t (a.eval x) (lo.map a.eval) (hi.map a.eval) none := by
  have isStr : tIsStr P t = true → P.underlying t = some .string := fun ht => by
    unfold tIsStr at ht
    split at ht
    · assumption
    · simp at ht
  have opd : ∀ {E : Env} {n : Nat} {a : Act} {y : Option Operand} {k : IntKind} {m : Int}, RepSt E n s a → y.all okOperand = true → y.map (ev s) = some (.d (.int k m)) → y.map a.eval = some (.int k m) := by
    intro E n a y k m hst hy he
    cases y with
    | none => simp at he
    | some y =>
      have := rd_ev hst y (by simpa using hy)
      simp only [Option.map_some, Option.some.injEq] at he ⊢
      rw [he] at this
      generalize a.eval y = v at this
      cases this with
      | d _ _ hd => cases hd; rfl
  have opn : ∀ {a : Act} {y : Option Operand}, y.map (ev s) = none → y.map a.eval = none := by
    intro a y he
    cases y with
    | none => rfl
    | some y => simp at he
  unfold vcSlice at h
  split at h
  · rename_i l k a k' b hp hlo' hhi'
    obtain ⟨ht, h0, h1, h2, hk⟩ := h
    refine ⟨_, hk, fun E n ac hst => ?_⟩
    have hv := rd_norm1 hst (rd_ev hst x hx)
    rw [hp] at hv
    dsimp only
    rw [opd hst hlo hlo', opd hst hhi hhi']
    generalize ac.eval x = v at hv ⊢
    cases hv with
    | d _ _ hd =>
      cases hd
      have := (run_slice_str (isStr ht) E.w l a.toNat b.toNat (by omega) (by omega) k k').1
      rw [Int.toNat_of_nonneg h0, Int.toNat_of_nonneg (by omega)] at this
      exact ⟨_, this, .d _ _ (.str _)⟩
  · rename_i l k a hp hlo' hhi'
    obtain ⟨ht, h0, h1, hk⟩ := h
    refine ⟨_, hk, fun E n ac hst => ?_⟩
    have hv := rd_norm1 hst (rd_ev hst x hx)
    rw [hp] at hv
    dsimp only
    rw [opd hst hlo hlo', opn hhi']
    generalize ac.eval x = v at hv ⊢
    cases hv with
    | d _ _ hd =>
      cases hd
      have := (run_slice_str (isStr ht) E.w l a.toNat l.length (by omega) (by omega) k k).2.1
      rw [Int.toNat_of_nonneg h0] at this
      exact ⟨_, this, .d _ _ (.str _)⟩
  · rename_i l k b hp hlo' hhi'
    obtain ⟨ht, h0, h1, hk⟩ := h
    refine ⟨_, hk, fun E n ac hst => ?_⟩
    have hv := rd_norm1 hst (rd_ev hst x hx)
    rw [hp] at hv
    dsimp only
    rw [opn hlo', opd hst hhi hhi']
    generalize ac.eval x = v at hv ⊢
    cases hv with
    | d _ _ hd =>
      cases hd
      have := (run_slice_str (isStr ht) E.w l 0 b.toNat (by omega) (by omega) k k).2.2
      rw [Int.toNat_of_nonneg h0] at this
      exact ⟨_, this, .d _ _ (.str _)⟩
  · rename_i l k a k' b hp hlo' hhi'
    obtain ⟨hel, h0, h1, h2, hk⟩ := h
    obtain ⟨e, z, he, hz, hlz⟩ := hel.out
    refine ⟨_, hk, fun E n ac hst => ?_⟩
    have hv := rd_norm1 hst (rd_ev hst x hx)
    rw [hp] at hv
    dsimp only
    rw [opd hst hlo hlo', opd hst hhi hhi']
    generalize ac.eval x = v at hv ⊢
    cases hv with
    | d _ _ hd =>
      obtain ⟨ad, len, cap, rfl⟩ : ∃ ad len cap, v = .slice ad len cap := by cases hd <;> exact ⟨_, _, _, rfl⟩
      obtain ⟨h3, _, h4, h5⟩ := rdD_sub hlz (a := a.toNat) (b := b.toNat) (by omega) (by omega) hd
      subst h3
      have hcl : l.length ≤ cap := by
        rcases h4 with h4 | rfl
        · exact h4
        · simp
      have := (run_slice_sl (und_of_tElem he) hz E.w ad l.length cap a.toNat b.toNat (by omega) (by omega) hcl k k').1
      rw [Int.toNat_of_nonneg h0, Int.toNat_of_nonneg (by omega)] at this
      exact ⟨_, this, .d _ _ h5⟩
  · rename_i l k a hp hlo' hhi'
    obtain ⟨hel, h0, h1, hk⟩ := h
    obtain ⟨e, z, he, hz, hlz⟩ := hel.out
    refine ⟨_, hk, fun E n ac hst => ?_⟩
    have hv := rd_norm1 hst (rd_ev hst x hx)
    rw [hp] at hv
    dsimp only
    rw [opd hst hlo hlo', opn hhi']
    generalize ac.eval x = v at hv ⊢
    cases hv with
    | d _ _ hd =>
      obtain ⟨ad, len, cap, rfl⟩ : ∃ ad len cap, v = .slice ad len cap := by cases hd <;> exact ⟨_, _, _, rfl⟩
      obtain ⟨h3, _, h4, h5⟩ := rdD_sub hlz (a := a.toNat) (b := l.length) (by omega) (by omega) hd
      subst h3
      have hcl : l.length ≤ cap := by
        rcases h4 with h4 | rfl
        · exact h4
        · simp
      have := (run_slice_sl (und_of_tElem he) hz E.w ad l.length cap a.toNat l.length (by omega) (by omega) hcl k k).2.1
      rw [Int.toNat_of_nonneg h0] at this
      rw [List.take_of_length_le (Nat.le_refl _)] at h5
      exact ⟨_, this, .d _ _ h5⟩
  · rename_i l k b hp hlo' hhi'
    obtain ⟨hel, h0, h1, hk⟩ := h
    obtain ⟨e, z, he, hz, hlz⟩ := hel.out
    refine ⟨_, hk, fun E n ac hst => ?_⟩
    have hv := rd_norm1 hst (rd_ev hst x hx)
    rw [hp] at hv
    dsimp only
    rw [opn hlo', opd hst hhi hhi']
    generalize ac.eval x = v at hv ⊢
    cases hv with
    | d _ _ hd =>
      obtain ⟨ad, len, cap, rfl⟩ : ∃ ad len cap, v = .slice ad len cap := by cases hd <;> exact ⟨_, _, _, rfl⟩
      obtain ⟨h3, _, h4, h5⟩ := rdD_sub hlz (a := 0) (b := b.toNat) (by omega) (by omega) hd
      subst h3
      have hcl : l.length ≤ cap := by
        rcases h4 with h4 | rfl
        · exact h4
        · simp
      have := (run_slice_sl (und_of_tElem he) hz E.w ad l.length cap 0 b.toNat (by omega) (by omega) hcl k k).2.2
      rw [Int.toNat_of_nonneg h0] at this
      exact ⟨_, this, .d _ _ h5⟩
  · exact h.elim

end
end Go.Abs
