/- The plain-data layer, part 14: append and calls; part 11's operations together. -/
import Derived.Test.YtkmbaakiliafeaaAbsN
namespace Go.Abs

section
variable {P : Program}

/-- An own slice that is still empty: a name for nothing. -/
def Env.ghost (E : Env) (a : Option Addr) : Env := { E with N := E.N + 1, τ := fun r => if r = E.N then (0, .slice a 0 0) else E.τ r }

theorem rep_ghost {E : Env} {H : List O} (h : RepH E H) (a : Option Addr) {z : Nat} (e : TypeId) (hz : 0 < z) :
    Le E (E.ghost a) ∧ RepH (E.ghost a) (H ++ [.grow 0 z e []]) := by
  have hl : Le E (E.ghost a) := by
    refine ⟨rfl, rfl, rfl, Nat.le_refl _, by simp [Env.ghost], fun _ _ => rfl, fun r hr => ?_, fun _ _ hs => hs, fun _ _ _ => rfl, fun _ _ _ => rfl, fun _ _ hs => .inl hs, fun _ hp => .inl hp⟩
    simp only [Env.ghost]
    rw [if_neg (by omega)]
    exact ⟨Nat.le_refl _, fun _ => rfl⟩
  refine ⟨hl, h.turn (r0 := H.length) (o0 := .grow 0 z e []) hl (by simp [Env.ghost, h.N]) (fun r hr => ?_) (fun o ho => ?_) (fun r hr hr' => ?_) (fun r o b hr ho hb => ⟨rfl, fun i hs => hs⟩) (fun b hb => hb) (fun b i hs => h.Slt b i hs) ?_ (fun b hb => ?_)⟩
  · by_cases hlt : r < H.length
    · rw [List.getElem?_append_left hlt]
    · rw [List.getElem?_eq_none (by simp; omega), List.getElem?_eq_none (by omega)]
  · simpa using ho.symm
  · simp only [Env.ghost]; rw [if_neg (by omega)]
  · exact ⟨by simp [Env.ghost, h.N], by simp, hz, .inl ⟨a, by simp [Env.ghost, h.N], rfl⟩⟩
  · simp only [O.block, Env.ghost, h.N, if_pos, ownB] at hb
    cases a <;> simp at hb

theorem plain_of {u : TypeId} (h : tIsSlice P u = true) : Plain P u := by
  unfold tIsSlice at h
  split at h
  · exact .inl ⟨_, by assumption⟩
  · simp at h

theorem plain_of_str {u : TypeId} (h : tIsStr P u = true) : Plain P u := by
  unfold tIsStr at h
  split at h
  · exact .inr (by assumption)
  · simp at h

theorem str_cells (E : Env) (l : List UInt8) : Cells E.w E.S 1 (l.map fun b => [D.int .u8 b.toNat]) (l.map fun b => Value.int .u8 b.toNat) := by
  refine ⟨by simp, fun x hx => ?_, fun i j x c hi hj => ?_, fun u hu => ?_⟩
  · obtain ⟨b, _, rfl⟩ := List.mem_map.1 hx; rfl
  · simp only [List.getElem?_map, Option.map_eq_some_iff] at hi
    obtain ⟨b, hb, rfl⟩ := hi
    have hj0 : j = 0 := by
      have := (List.getElem?_eq_some_iff.1 hj).1
      simp at this; exact this
    subst hj0
    simp only [List.getElem?_cons_zero, Option.some.injEq] at hj
    subst hj
    exact ⟨.int .u8 b.toNat, by simp [hb], rfl, .int _ _⟩
  · obtain ⟨b, _, rfl⟩ := List.mem_map.1 hu; rfl

/-- The two ways that append's source comes: what is needed of it. -/
structure Src (P : Program) (E : Env) (z : Nat) (u : TypeId) (ys : List (List D)) (x : Value) : Prop where
  plain : Plain P u
  cells : ∃ L, Cells E.w E.S z ys L ∧ ∀ w' : World, (∀ b i, E.S b i → w'.cell? ⟨b, i, none⟩ = E.w.cell? ⟨b, i, none⟩) → (Builtin.firstCells z ys.length x).run P w' = .ok L.toArray w'
  len : ∀ w, (Builtin.lenOf x).run P w = .ok ys.length w

theorem src_sl {E : Env} {z : Nat} {u : TypeId} {ys : List (List D)} {x : Value} (hu : tIsSlice P u = true) (hz : ∀ y, y ∈ ys → y.length = z) (h : RdD E.w E.S (.sl ys) x) : Src P E z u ys x := by
  obtain ⟨L, h1, ad, cap, rfl, h2⟩ := cells_of_rdD (P := P) hz h
  exact ⟨plain_of hu, ⟨L, h1, h2⟩, fun w => by simp [Builtin.lenOf]⟩

theorem src_str {E : Env} {u : TypeId} {l : List UInt8} (hu : tIsStr P u = true) : Src P E 1 u (l.map fun b => [D.int .u8 b.toNat]) (.string ⟨l.toArray⟩) := by
  refine ⟨plain_of_str hu, ⟨_, str_cells E l, fun w' _ => ?_⟩, fun w => by simp [Builtin.lenOf, ByteArray.size]⟩
  simp only [Builtin.firstCells, Sem.run_pure, List.length_map]
  congr 1
  have : ((⟨l.toArray⟩ : ByteArray).extract 0 l.length).data = l.toArray := by
    rw [ByteArray.data_extract]
    simp
  rw [this]
  simp

theorem append_both {s : St} {o : Oper} {K : C → List O → Prop} {x y : Operand} {t u e : TypeId} {z by_ : Nat} (ho : o.op = .call { callee := .builtin .append, args := #[x, y], argTypes := #[t, u] })
    (hx : okOperand x = true) (ht : tSlice P t = some (e, z, by_)) {ys : List (List D)} (hsrc : ∀ E n a, RepSt E n s a → Src P E z u ys (a.eval y))
    (h : match ev s x with
      | .nil0 => ys.length ≤ maxLen ∧ ys.length * by_ ≤ 140737488355328 ∧ K (.own s.H.length 1) (s.H ++ [.grow 1 z e ys])
      | .own r q =>
        (match s.H[r]? with
        | some (.grow q' z' e' xs) => q = q' ∧ z = z' ∧ e = e' ∧ xs.length + ys.length ≤ maxLen ∧ (xs.length + ys.length) * by_ ≤ 140737488355328 ∧
            K (.own r (q + 1)) (s.H.set r (.grow (q + 1) z e (xs ++ ys)))
        | some (.buf q' z' e' xs) => q = q' ∧ z = z' ∧ e = e' ∧ xs.length + ys.length ≤ maxLen ∧ (xs.length + ys.length) * by_ ≤ 140737488355328 ∧
            K (.own r (q + 1)) (s.H.set r (.buf (q + 1) z e (xs ++ ys)))
        | _ => False)
      | _ => False) : EffOk P s o K := by
  have hz : 0 < z := (of_tSlice ht).2.1
  intro E ns a hst
  have hs := hsrc E ns a hst
  obtain ⟨L, hL, hfx⟩ := hs.cells
  have hvx := rd_ev hst x hx
  have fin : ∀ (r : Nat) (v' : Value) (E' : Env) (H' : List O) (q : Nat), (Builtin.append_ #[t, u] o.type #[a.eval x, a.eval y]).run P E.w = .ok v' E'.w → Le E E' → RepH E' H' → E'.τ r = (q, v') → v'.oneCell' = true → r < E'.N → K (.own r q) H' →
      o.wp P a E.w (fun a' w' => ∃ v E' c H', a' = a.put o.dst v ∧ E'.w = w' ∧ Rd E' c v ∧ RepH E' H' ∧ Le E E' ∧ K c H') (fun _ _ _ => False) := by
    intro r v' E' H' q hrun hl hH hτ h1 hN hk
    unfold Oper.wp execOp
    simp only [ho, resolve, invoke, builtin, Sem.run_bind, Sem.run_pure, Result.andThen_ok, List.map_toArray, List.map_cons, List.map_nil, hrun, Oper.upon]
    exact ⟨v', E', _, H', rfl, rfl, .own r q v' hN h1 (by rw [hτ]; exact Nat.le_refl _) (fun _ => by rw [hτ]), hH, hl, hk⟩
  split at h
  · rename_i hev
    obtain ⟨h1, h2, hk⟩ := h
    rw [hev] at hvx
    generalize hg : a.eval x = v at hvx
    cases hvx with
    | nil0 ad =>
      obtain ⟨hl0, hH0⟩ := rep_ghost hst.heap ad e hz
      have hr : (s.H ++ [O.grow 0 z e []])[s.H.length]? = some (.grow 0 z e []) := by simp
      have hτ0 : ((E.ghost ad).τ s.H.length).2 = .slice ad 0 0 := by simp [Env.ghost, hst.heap.N]
      obtain ⟨v', E', k1, k2, k3, k4, k5⟩ := append_own (P := P) (ty := o.type) hH0 ht hs.plain hr (x := a.eval y) hL hs.len hfx (by simpa using h1) (by simpa using h2)
      rw [hτ0] at k1
      refine fin s.H.length v' E' _ 1 (by rw [hg]; exact k1) (hl0.trans k2) k3 k4 k5 ?_ (by simpa using hk)
      rw [k3.N]; simp
  · rename_i r q hev
    split at h
    · rename_i q' z' e' xs hr
      obtain ⟨rfl, rfl, rfl, h1, h2, hk⟩ := h
      rw [hev] at hvx
      generalize hg : a.eval x = v at hvx
      cases hvx with
      | own _ _ _ hN hone hq hv =>
        have hobj := hst.heap.obj r _ hr
        have hv := hv hobj.1.symm
        obtain ⟨v', E', k1, k2, k3, k4, k5⟩ := append_own (P := P) (ty := o.type) hst.heap ht hs.plain hr (x := a.eval y) hL hs.len hfx h1 h2
        refine fin r v' E' _ (q + 1) (by rw [hg, hv]; exact k1) k2 k3 k4 k5 ?_ hk
        exact Nat.lt_of_lt_of_le hN k2.N
    · rename_i q' z' e' xs hr
      obtain ⟨rfl, rfl, rfl, h1, h2, hk⟩ := h
      rw [hev] at hvx
      generalize hg : a.eval x = v at hvx
      cases hvx with
      | own _ _ _ hN hone hq hv =>
        have hobj := hst.heap.obj r _ hr
        have hv := hv hobj.1.symm
        obtain ⟨v', E', k1, k2, k3, k4, k5⟩ := append_buf (P := P) (ty := o.type) hst.heap ht hs.plain hr (x := a.eval y) hL hs.len hfx h1 h2
        refine fin r v' E' _ (q + 1) (by rw [hg, hv]; exact k1) k2 k3 k4 k5 ?_ hk
        exact Nat.lt_of_lt_of_le hN k2.N
    · exact h.elim
  · exact h.elim

theorem effOk_append {s : St} {o : Oper} {K : C → List O → Prop} {x y : Operand} {t u : TypeId} (ho : o.op = .call { callee := .builtin .append, args := #[x, y], argTypes := #[t, u] })
    (hx : okOperand x = true) (hy : okOperand y = true) (h : vcAppend P s t u (ev s x) (ev s y) K) : EffOk P s o K := by
  unfold vcAppend at h
  split at h
  · rename_i e z by_ ht
    split at h
    · rename_i ys hys
      obtain ⟨_, hu, hyz, h⟩ := h
      refine append_both ho hx ht (ys := ys) (fun E n a hst => ?_) h
      have hv := rd_norm1 hst (rd_ev hst y hy)
      rw [hys] at hv
      generalize a.eval y = v at hv ⊢
      cases hv with
      | d _ _ hd => exact src_sl hu hyz hd
    · rename_i l hys
      obtain ⟨hu, rfl, h⟩ := h
      refine append_both ho hx ht (ys := l.map fun b => [D.int .u8 b.toNat]) (fun E n a hst => ?_) (by simp only [List.length_map]; exact h)
      have hv := rd_norm1 hst (rd_ev hst y hy)
      rw [hys] at hv
      generalize a.eval y = v at hv ⊢
      cases hv with
      | d _ _ hd => cases hd; exact src_str hu
    · exact h.elim
  · exact h.elim

theorem effOk_call {s : St} {o : Oper} {K : C → List O → Prop} {c : Call} {f : Operand} (ho : o.op = .call c) (hcal : c.callee = .value f) (hf : okOperand f = true) (ha : c.args.all okOperand = true)
    (h : match ev s f with
      | .fn g caps => isGo P g = true ∧ ACalls P g (c.args.toList.map (fun x => norm s (ev s x)) ++ caps) s.H K
      | _ => False) : EffOk P s o K := by
  split at h
  · rename_i g caps hev
    obtain ⟨hgo, hcall⟩ := h
    intro E ns a hst
    have hvf := rd_ev hst f hf
    rw [hev] at hvf
    generalize hg : a.eval f = v at hvf
    cases hvf with
    | fn _ _ vs hl hr =>
      unfold isGo at hgo
      split at hgo
      · rename_i fn hfn
        simp only [Bool.and_eq_true, Bool.not_eq_true'] at hgo
        obtain ⟨hb, hname⟩ := hgo
        have hnone : ¬ fn.body = none := fun hbb => by simp [hbb] at hb
        have hname' : ¬ fn.name = "runtime.NumGoroutine" := by simpa using hname
        have hc := hcall E (c.args.map a.eval ++ vs) hst.heap (by simp [hl]) (fun i cc vv hi hv => by
          by_cases hlt : i < c.args.size
          · rw [List.getElem?_append_left (by simpa using hlt)] at hi
            rw [Array.getElem?_append_left (by simpa using hlt)] at hv
            simp only [List.getElem?_map, Array.getElem?_toList, Option.map_eq_some_iff] at hi
            obtain ⟨x, hx, rfl⟩ := hi
            simp only [Array.getElem?_map, hx, Option.map_some, Option.some.injEq] at hv
            subst hv
            refine rd_norm hst (rd_ev hst x ?_)
            simp only [Array.all_eq_true] at ha
            obtain ⟨hlt', rfl⟩ := Array.getElem?_eq_some_iff.1 hx
            exact ha i hlt'
          · rw [List.getElem?_append_right (by simp; omega)] at hi
            rw [Array.getElem?_append_right (by simp; omega)] at hv
            simp only [List.length_map, Array.length_toList] at hi
            simp only [Array.size_map] at hv
            exact hr _ cc vv hi hv)
        unfold Oper.wp execOp
        simp only [ho, resolve, hcal, hg, Deferred.ofValue]
        simp [invoke, callFunc, hfn, hname', hnone, Oper.upon]
        refine hc.mono ?_
        rintro e w' ⟨v, r, E', H', rfl, h2, h3, h4, h5, h6, h7⟩
        exact ⟨v, rfl, E', h2, r, h5, H', h3, h4, h7⟩
      · simp at hgo
  · exact h.elim

theorem vcEff_sound {s : St} {o : Oper} {K : C → List O → Prop} (h : vcEff P s o K) : EffOk P s o K := by
  unfold vcEff at h
  split at h
  · rename_i t x ho
    exact effOk_box ho h.1 h.2.1 h.2.2
  · rename_i t ho
    exact effOk_alloc ho h
  · rename_i t p x ho
    exact effOk_store ho h.1 h.2.1 h.2.2
  · rename_i t n ps ho
    exact effOk_buildSlice ho h
  · rename_i t x y ho
    obtain ⟨rfl, h1, h2⟩ := h
    exact effOk_make ho h1 h2
  · rename_i t ho
    exact effOk_makeMap ho h
  · rename_i t m k v ho
    exact effOk_insert (.inl ho) h.1 h.2.1 h.2.2.1 h.2.2.2
  · rename_i t m k v ho
    exact effOk_insert (.inr ho) h.1 h.2.1 h.2.2.1 h.2.2.2
  · rename_i t x ho
    exact effOk_range ho h.1 h.2.1 h.2.2
  · rename_i x ho
    exact effOk_next ho h.1 h.2
  · rename_i c ho
    obtain ⟨callee, args, argTypes⟩ := c
    dsimp only at h
    split at h
    · split at h
      · rename_i x y t u hargs hts
        have e1 : args = #[x, y] := Array.toList_inj.1 (by simpa using hargs)
        have e2 : argTypes = #[t, u] := Array.toList_inj.1 (by simpa using hts)
        subst e1 e2
        exact effOk_append ho h.1 h.2.1 h.2.2
      · exact h.elim
    · rename_i f
      exact effOk_call ho rfl h.1 h.2.1 h.2.2
    · exact effOk_of_pure h
  · exact effOk_of_pure h

end
end Go.Abs
