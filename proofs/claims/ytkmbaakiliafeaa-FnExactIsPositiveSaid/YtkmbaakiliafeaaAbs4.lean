/- The plain-data layer, part 4: the operations of part 3 yield what part 3 says. -/
import Derived.Test.YtkmbaakiliafeaaAbs3
namespace Go.Abs

section
variable {P : Program} {E : Env}

theorem run_load_cptr {b off n : Nat} {cs : List D} {val : Nat → Value} (hn : cs.length = n)
    (hc : ∀ j, j < cs.length → E.S b (off + j) ∧ E.w.cell? ⟨b, off + j, none⟩ = some (val j) ∧ (val j).oneCell' = true)
    (hr : ∀ j c, cs[j]? = some c → RdD E.w E.S c (val j)) :
    ∃ vs : Array Value, (loadCells ⟨b, off, none⟩ n).run P E.w = .ok vs E.w ∧ RdD E.w E.S (.agg cs) (.agg vs) := by
  refine ⟨((List.range n).map val).toArray, run_loadCells E.w _ n val (fun j hj => ?_), .agg _ _ (by simp [hn]) (fun i v hv => ?_) (fun i c v hc' hv => ?_)⟩
  · rw [Addr.add_mk]; exact (hc j (by omega)).2.1
  · simp only [List.getElem?_toArray, List.getElem?_map] at hv
    by_cases hi : i < n
    · rw [List.getElem?_range hi] at hv
      simp only [Option.map_some, Option.some.injEq] at hv
      subst hv; exact (hc i (by omega)).2.2
    · rw [List.getElem?_eq_none (by simpa using hi)] at hv; simp at hv
  · simp only [List.getElem?_toArray, List.getElem?_map] at hv
    by_cases hi : i < n
    · rw [List.getElem?_range hi] at hv
      simp only [Option.map_some, Option.some.injEq] at hv
      subst hv; exact hr i c hc'
    · rw [List.getElem?_eq_none (by simpa using hi)] at hv; simp at hv

theorem run_load_block {b off n : Nat} {arr : Array Value} {e : TypeId} {fz : Nat × Nat} (hb : E.w.heap[b]? = some (.cells arr e fz)) (hn : off + n ≤ arr.size) :
    (loadCells ⟨b, off, none⟩ n).run P E.w = .ok ((List.range n).map fun j => arr.getD (off + j) undef).toArray E.w :=
  run_loadCells E.w _ n _ (fun j hj => by
    rw [Addr.add_mk, cell_of_row _ _ _ _ _ _ hb, Array.getD_eq_getD_getElem?, Array.getElem?_eq_getElem (by omega)]; rfl)

theorem loadVar_agg {t : TypeId} {n : Nat} (h1 : tAgg P t = some true) (h2 : tSize P t = some n) {ad : Addr} {vs : Array Value} (h : (loadCells ad n).run P E.w = .ok vs E.w) :
    (loadVar t ad).run P E.w = .ok (.agg vs) E.w := by
  unfold loadVar
  simp [run_isAgg h1, run_sizeOf h2, h]

theorem loadVar_one {t : TypeId} (h1 : tAgg P t = some false) {ad : Addr} {v : Value} (h : E.w.cell? ad = some v) :
    (loadVar t ad).run P E.w = .ok v E.w := by
  unfold loadVar
  simp [run_isAgg h1, h]



/-- 'K' is met by one form, which the run yields in every world that fits. -/
def Sound (P : Program) (s : St) (K : C → Prop) (run : Act → Sem Value) : Prop :=
  ∃ c, K c ∧ ∀ E n a, RepSt E n s a → ∃ u, (run a).run P E.w = .ok u E.w ∧ Rd E c u

theorem cells_get {cs : List C} {arr : Array Value} {off i : Nat} {c : C} {v : Value}
    (hr : ∀ (i : Nat) (c : C) (v : Value), cs[i]? = some c → arr[i]? = some v → Rd E c v ∧ v.oneCell' = true) (h1 : cs[off + i]? = some c) (h2 : arr[off + i]? = some v) : Rd E c v ∧ v.oneCell' = true := hr _ _ _ h1 h2

theorem rd_agg_part {cs : List C} {arr : Array Value} {off n : Nat}
    (hr : ∀ (i : Nat) (c : C) (v : Value), cs[i]? = some c → arr[i]? = some v → Rd E c v ∧ v.oneCell' = true) (hs : arr.size = cs.length) (hn : off + n ≤ cs.length) :
    Rd E (.agg ((cs.drop off).take n)) (.agg ((List.range n).map fun j => arr.getD (off + j) undef).toArray) := by
  have hget : ∀ i, i < n → arr[off + i]? = some (arr.getD (off + i) undef) := fun i hi => by
    rw [Array.getD_eq_getD_getElem?, Array.getElem?_eq_getElem (by omega)]; rfl
  refine .agg _ _ (by simp; omega) (fun i v hv => ?_) (fun i c v hc hv => ?_)
  · simp only [List.getElem?_toArray, List.getElem?_map] at hv
    by_cases hi : i < n
    · rw [List.getElem?_range hi] at hv
      simp only [Option.map_some, Option.some.injEq] at hv
      subst hv
      exact (hr (off + i) (cs[off + i]'(by omega)) _ (List.getElem?_eq_getElem _) (hget i hi)).2
    · rw [List.getElem?_eq_none (by simpa using hi)] at hv; simp at hv
  · simp only [List.getElem?_toArray, List.getElem?_map] at hv
    by_cases hi : i < n
    · rw [List.getElem?_range hi] at hv
      simp only [Option.map_some, Option.some.injEq] at hv
      subst hv
      rw [List.getElem?_take, if_pos hi, List.getElem?_drop] at hc
      exact (hr (off + i) c _ hc (hget i hi)).1
    · rw [List.getElem?_eq_none (by simpa using hi)] at hv; simp at hv

theorem load_box {t : TypeId} {cs : List C} {off : Nat} {K : C → Prop} (h : vcPart P cs off t K) :
    ∃ c, K c ∧ ∀ (E : Env) (b : Nat) (arr : Array Value) (e : TypeId), E.w.heap[b]? = some (.cells arr e (0, 0)) → arr.size = cs.length →
      (∀ (i : Nat) (c : C) (v : Value), cs[i]? = some c → arr[i]? = some v → Rd E c v ∧ v.oneCell' = true) →
      ∃ u, (loadVar t ⟨b, off, none⟩).run P E.w = .ok u E.w ∧ Rd E c u := by
  unfold vcPart at h
  split at h
  · rename_i n h1 h2
    obtain ⟨hn, hk⟩ := h
    exact ⟨_, hk, fun E b arr e hb hs hr => ⟨_, loadVar_agg h1 h2 (run_load_block hb (by omega)), rd_agg_part hr hs hn⟩⟩
  · rename_i n h1 h2
    obtain ⟨hn, hk⟩ := h
    refine ⟨_, hk, fun E b arr e hb hs hr => ⟨arr.getD off undef, loadVar_one h1 ?_, ?_⟩⟩
    · rw [cell_of_row _ _ _ _ _ _ hb, Array.getD_eq_getD_getElem?, Array.getElem?_eq_getElem (by omega)]; rfl
    · refine (hr off _ _ (by rw [List.getD_eq_getElem?_getD, List.getElem?_eq_getElem hn]; rfl) ?_).1
      rw [Array.getD_eq_getD_getElem?, Array.getElem?_eq_getElem (by omega)]; rfl
  · exact h.elim

theorem load_row {t : TypeId} {cs : List D} {off : Nat} {K : C → Prop} (h : vcPartD P cs off t K) :
    ∃ c, K c ∧ ∀ (E : Env) (b o : Nat) (arr : Array Value) (e : TypeId), E.w.heap[b]? = some (.cells arr e (0, 0)) →
      (∀ (j : Nat) (c : D), cs[j]? = some c → ∃ (v : Value), arr[o + j]? = some v ∧ v.oneCell' = true ∧ RdD E.w E.S c v) →
      ∃ u, (loadVar t ⟨b, o + off, none⟩).run P E.w = .ok u E.w ∧ Rd E c u := by
  have hbd : ∀ {E : Env} {o : Nat} {arr : Array Value} {n : Nat}, (∀ (j : Nat) (c : D), cs[j]? = some c → ∃ (v : Value), arr[o + j]? = some v ∧ v.oneCell' = true ∧ RdD E.w E.S c v) → off + n ≤ cs.length → n ≠ 0 → o + off + n ≤ arr.size := by
    intro E o arr n hr hn h0
    obtain ⟨v, hv, _⟩ := hr (off + n - 1) (cs[off + n - 1]'(by omega)) (List.getElem?_eq_getElem _)
    have := (Array.getElem?_eq_some_iff.1 hv).1
    omega
  unfold vcPartD at h
  split at h
  · rename_i n h1 h2
    obtain ⟨hn, hk⟩ := h
    refine ⟨_, hk, fun E b o arr e hb hr => ?_⟩
    by_cases h0 : n = 0
    · subst h0
      refine ⟨_, loadVar_agg h1 h2 (run_loadCells E.w _ 0 (fun _ => undef) (fun j hj => by omega)), .d _ _ (.agg _ _ (by simp) (fun i v hv => by simp at hv) (fun i c v hc hv => by simp at hv))⟩
    · have hsz := hbd hr hn h0
      refine ⟨_, loadVar_agg h1 h2 (run_load_block hb hsz), .d _ _ (.agg _ _ (by simp; omega) (fun i v hv => ?_) (fun i c v hc hv => ?_))⟩
      · simp only [List.getElem?_toArray, List.getElem?_map] at hv
        by_cases hi : i < n
        · rw [List.getElem?_range hi] at hv
          simp only [Option.map_some, Option.some.injEq] at hv
          subst hv
          obtain ⟨v, hv, h1, h2⟩ := hr (off + i) (cs[off + i]'(by omega)) (List.getElem?_eq_getElem _)
          rw [Array.getD_eq_getD_getElem?, show o + off + i = o + (off + i) by omega, hv]; exact h1
        · rw [List.getElem?_eq_none (by simpa using hi)] at hv; simp at hv
      · simp only [List.getElem?_toArray, List.getElem?_map] at hv
        by_cases hi : i < n
        · rw [List.getElem?_range hi] at hv
          simp only [Option.map_some, Option.some.injEq] at hv
          subst hv
          rw [List.getElem?_take, if_pos hi, List.getElem?_drop] at hc
          obtain ⟨v, hv, h1, h2⟩ := hr (off + i) c hc
          rw [Array.getD_eq_getD_getElem?, show o + off + i = o + (off + i) by omega, hv]; exact h2
        · rw [List.getElem?_eq_none (by simpa using hi)] at hv; simp at hv
  · rename_i n h1 h2
    obtain ⟨hn, hk⟩ := h
    refine ⟨_, hk, fun E b o arr e hb hr => ?_⟩
    obtain ⟨v, hv, h3, h4⟩ := hr off (cs[off]'hn) (List.getElem?_eq_getElem _)
    refine ⟨v, loadVar_one h1 (by rw [cell_of_row _ _ _ _ _ _ hb, hv]), .d _ _ ?_⟩
    rw [List.getD_eq_getElem?_getD, List.getElem?_eq_getElem hn]; exact h4
  · exact h.elim

theorem load_sound {s : St} {t : TypeId} {x : Operand} {K : C → Prop} (hx : okOperand x = true) (h : vcLoad P s t (ev s x) K) :
    Sound P s K fun a => Instr.loadAt t (a.eval x) := by
  unfold vcLoad at h
  split at h
  · rename_i cs hp
    split at h
    · rename_i n h1 h2
      obtain ⟨hn, hk⟩ := h
      refine ⟨_, hk, fun E n' a hst => ?_⟩
      have hv := rd_ev hst x hx
      rw [hp] at hv
      dsimp only
      generalize a.eval x = v at hv ⊢
      cases hv with
      | cptr b off cs val hc hr =>
        obtain ⟨vs, h3, h4⟩ := run_load_cptr (P := P) hn hc hr
        exact ⟨_, by simp [Instr.loadAt, Instr.sureAddr, loadVar_agg h1 h2 h3], .d _ _ h4⟩
    · rename_i n h1 h2
      obtain ⟨hn, hk⟩ := h
      refine ⟨_, hk, fun E n' a hst => ?_⟩
      have hv := rd_ev hst x hx
      rw [hp] at hv
      dsimp only
      generalize a.eval x = v at hv ⊢
      cases hv with
      | cptr b off cs val hc hr =>
        obtain ⟨_, h3, h4⟩ := hc 0 (by omega)
        refine ⟨val 0, by simp only [Instr.loadAt, Instr.sureAddr, Sem.run_bind, Sem.run_pure, Result.andThen_ok]; exact loadVar_one h1 (by simpa using h3), .d _ _ (hr 0 _ ?_)⟩
        rw [List.getD_eq_getElem?_getD, List.getElem?_eq_getElem (by omega)]; rfl
    · exact h.elim
  · rename_i r off hp
    split at h
    · rename_i cs ho
      obtain ⟨c, hk, hall⟩ := load_box h
      refine ⟨c, hk, fun E n' a hst => ?_⟩
      have hv := rd_ev hst x hx
      rw [hp] at hv
      dsimp only
      generalize a.eval x = v at hv ⊢
      cases hv with
      | ptr r off hr =>
        obtain ⟨arr, e, h1, h2, h3, _⟩ := hst.heap.obj _ _ ho
        obtain ⟨u, h4, h5⟩ := hall E _ arr e h1 h2 h3
        exact ⟨u, by simpa [Instr.loadAt, Instr.sureAddr] using h4, h5⟩
    · exact h.elim
  · rename_i r z i off hp
    split at h
    · rename_i z' e xs ho
      obtain ⟨rfl, hi, h⟩ := h
      obtain ⟨c, hk, hall⟩ := load_row h
      refine ⟨c, hk, fun E n' a hst => ?_⟩
      have hv := rd_ev hst x hx
      rw [hp] at hv
      dsimp only
      generalize a.eval x = v at hv ⊢
      cases hv with
      | eptr _ _ _ _ hr =>
        obtain ⟨arr, h1, h2, h3, h3', h4, _⟩ := hst.heap.obj _ _ ho
        obtain ⟨u, h5, h6⟩ := hall E _ (i * z) arr e h1 (fun j c hj => h4 i j _ c (by rw [List.getD_eq_getElem?_getD, List.getElem?_eq_getElem hi]; rfl) hj)
        exact ⟨u, by simpa [Instr.loadAt, Instr.sureAddr] using h5, h6⟩
    · exact h.elim
  · exact h.elim

theorem fieldAddr_sound {s : St} {t : TypeId} {f : Nat} {x : Operand} {K : C → Prop} (hx : okOperand x = true) (h : vcFieldAddr P t f (ev s x) K) :
    Sound P s K fun a => Instr.fieldAt t (a.eval x) f := by
  unfold vcFieldAddr at h
  split at h
  · rename_i o u hf
    obtain ⟨fs, fd, hu, hfs, rfl, rfl⟩ := und_of_tField hf
    split at h
    · rename_i n hn
      obtain ⟨h0, h⟩ := h
      have hrun : ∀ (w : World) (b off : Nat), (Instr.fieldAt t (.pointer (some ⟨b, off, none⟩)) f).run P w = .ok (.pointer (some ⟨b, off + fd.offset, none⟩)) w := by
        intro w b off
        simp [Instr.fieldAt, run_underlying hu, hfs, Instr.sureAddr, fieldPlace, run_sizeOf hn, h0, Addr.add_mk]
      split at h
      · rename_i cs hp
        obtain ⟨hle, hk⟩ := h
        refine ⟨_, hk, fun E n' a hst => ?_⟩
        have hv := rd_ev hst x hx
        rw [hp] at hv
        dsimp only
        generalize a.eval x = v at hv ⊢
        cases hv with
        | cptr b off cs val hc hr =>
          refine ⟨_, hrun _ _ _, .cptr b (off + fd.offset) _ (fun j => val (fd.offset + j)) (fun j hj => ?_) (fun j c hj => ?_)⟩
          · simp at hj
            rw [Nat.add_assoc]; exact hc _ (by omega)
          · rw [List.getElem?_take] at hj
            split at hj
            · rw [List.getElem?_drop] at hj; exact hr _ _ hj
            · simp at hj
      · rename_i r off hp
        refine ⟨_, h, fun E n' a hst => ?_⟩
        have hv := rd_ev hst x hx
        rw [hp] at hv
        dsimp only
        generalize a.eval x = v at hv ⊢
        cases hv with
        | ptr r off hr => exact ⟨_, hrun _ _ _, .ptr _ _ hr⟩
      · rename_i r z i off hp
        refine ⟨_, h, fun E n' a hst => ?_⟩
        have hv := rd_ev hst x hx
        rw [hp] at hv
        dsimp only
        generalize a.eval x = v at hv ⊢
        cases hv with
        | eptr _ _ _ _ hr =>
          refine ⟨_, hrun _ _ _, ?_⟩
          rw [Nat.add_assoc]; exact .eptr _ _ _ _ hr
      · exact h.elim
    · exact h.elim
  · exact h.elim

theorem part_sound {cs : List C} {o : Nat} {u : TypeId} {K : C → Prop} (h : vcPart P cs o u K) :
    ∃ c, K c ∧ ∀ (E : Env) (vs : Array Value), vs.size = cs.length → (∀ (i : Nat) (v : Value), vs[i]? = some v → v.oneCell' = true) → (∀ (i : Nat) (c : C) (v : Value), cs[i]? = some c → vs[i]? = some v → Rd E c v) →
      ∃ x, (part u vs o).run P E.w = .ok x E.w ∧ Rd E c x := by
  unfold vcPart at h
  split at h
  · rename_i n h1 h2
    obtain ⟨hn, hk⟩ := h
    refine ⟨_, hk, fun E vs hl h3 hr => ⟨.agg (vs.extract o (o + n)), by simp [part, run_isAgg h1, run_sizeOf h2], .agg _ _ (by simp; omega) (fun i v hv => ?_) (fun i c v hc hv => ?_)⟩⟩
    · rw [Array.getElem?_extract] at hv
      split at hv
      · exact h3 _ _ hv
      · simp at hv
    · rw [Array.getElem?_extract] at hv
      split at hv
      · rw [List.getElem?_take] at hc
        split at hc
        · rw [List.getElem?_drop] at hc; exact hr _ _ _ hc hv
        · simp at hc
      · simp at hv
  · rename_i n h1 h2
    obtain ⟨hn, hk⟩ := h
    refine ⟨_, hk, fun E vs hl h3 hr => ?_⟩
    have hv : vs[o]? = some (vs[o]'(by omega)) := Array.getElem?_eq_getElem _
    refine ⟨vs[o]'(by omega), by simp [part, run_isAgg h1, hv], hr o _ _ ?_ hv⟩
    rw [List.getD_eq_getElem?_getD, List.getElem?_eq_getElem hn]; rfl
  · exact h.elim

theorem partD_sound {cs : List D} {o : Nat} {u : TypeId} {K : C → Prop} (h : vcPartD P cs o u K) :
    ∃ c, K c ∧ ∀ (E : Env) (vs : Array Value), vs.size = cs.length → (∀ (i : Nat) (v : Value), vs[i]? = some v → v.oneCell' = true) → (∀ (i : Nat) (c : D) (v : Value), cs[i]? = some c → vs[i]? = some v → RdD E.w E.S c v) →
      ∃ x, (part u vs o).run P E.w = .ok x E.w ∧ Rd E c x := by
  unfold vcPartD at h
  split at h
  · rename_i n h1 h2
    obtain ⟨hn, hk⟩ := h
    refine ⟨_, hk, fun E vs hl h3 hr => ⟨.agg (vs.extract o (o + n)), by simp [part, run_isAgg h1, run_sizeOf h2], .d _ _ (.agg _ _ (by simp; omega) (fun i v hv => ?_) (fun i c v hc hv => ?_))⟩⟩
    · rw [Array.getElem?_extract] at hv
      split at hv
      · exact h3 _ _ hv
      · simp at hv
    · rw [Array.getElem?_extract] at hv
      split at hv
      · rw [List.getElem?_take] at hc
        split at hc
        · rw [List.getElem?_drop] at hc; exact hr _ _ _ hc hv
        · simp at hc
      · simp at hv
  · rename_i n h1 h2
    obtain ⟨hn, hk⟩ := h
    refine ⟨_, hk, fun E vs hl h3 hr => ?_⟩
    have hv : vs[o]? = some (vs[o]'(by omega)) := Array.getElem?_eq_getElem _
    refine ⟨vs[o]'(by omega), by simp [part, run_isAgg h1, hv], .d _ _ (hr o _ _ ?_ hv)⟩
    rw [List.getD_eq_getElem?_getD, List.getElem?_eq_getElem hn]; rfl
  · exact h.elim

theorem field_sound {s : St} {t : TypeId} {f : Nat} {x : Operand} {K : C → Prop} (hx : okOperand x = true) (h : vcField P s t f (ev s x) K) :
    Sound P s K fun a => Instr.field t (a.eval x) f := by
  unfold vcField at h
  split at h
  · rename_i o u hf
    obtain ⟨fs, fd, hu, hfs, rfl, rfl⟩ := und_of_tField hf
    split at h
    · rename_i cs hp
      obtain ⟨c, hk, hall⟩ := partD_sound h
      refine ⟨c, hk, fun E n' a hst => ?_⟩
      have hv := rd_norm hst (rd_ev hst x hx)
      rw [hp] at hv
      dsimp only
      generalize a.eval x = v at hv ⊢
      cases hv with
      | d _ _ hd =>
        cases hd with
        | agg _ vs hl h1 hr =>
          obtain ⟨y, h2, h3⟩ := hall E vs hl h1 hr
          exact ⟨y, by simp [Instr.field, run_underlying hu, hfs, asAgg, h2], h3⟩
    · rename_i cs hp
      obtain ⟨c, hk, hall⟩ := part_sound h
      refine ⟨c, hk, fun E n' a hst => ?_⟩
      have hv := rd_norm hst (rd_ev hst x hx)
      rw [hp] at hv
      dsimp only
      generalize a.eval x = v at hv ⊢
      cases hv with
      | agg _ vs hl h1 hr =>
        obtain ⟨y, h2, h3⟩ := hall E vs hl h1 hr
        exact ⟨y, by simp [Instr.field, run_underlying hu, hfs, asAgg, h2], h3⟩
    · exact h.elim
  · exact h.elim

end
end Go.Abs
