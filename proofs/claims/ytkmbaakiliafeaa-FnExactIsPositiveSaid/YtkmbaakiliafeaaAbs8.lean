/- The plain-data layer, part 8: objects that come, turn, or stay. -/
import Derived.Test.YtkmbaakiliafeaaAbs7
namespace Go.Abs

section
variable {P : Program} {E E' : Env}

theorem O.block_same {r : Nat} {o : O} (hβ : E'.β r = E.β r) (hτ : E'.τ r = E.τ r) : o.block E' r = o.block E r := by
  cases o <;> simp [O.block, hβ, hτ]

/-- An object whose block stays as it is. -/
theorem RepO.keep {r : Nat} {o : O} (hl : Le E E') (hr : r < E.N) (hτ : E'.τ r = E.τ r)
    (hb : ∀ b, o.block E r = some b → E'.w.heap[b]? = E.w.heap[b]? ∧ ∀ i, E'.S b i → E.S b i) (h : RepO E r o) : RepO E' r o := by
  have hβ := hl.β r hr
  cases o with
  | box cs =>
    obtain ⟨arr, e, h1, h2, h3, h4⟩ := h
    obtain ⟨k1, k2⟩ := hb _ rfl
    refine ⟨arr, e, by rw [hβ, k1]; exact h1, h2, fun i c v hc hv => ?_, fun i hs => h4 i (k2 i (by rwa [hβ] at hs))⟩
    obtain ⟨a1, a2⟩ := h3 i c v hc hv
    exact ⟨a1.le hl, a2⟩
  | grow q z e xs =>
    obtain ⟨h0, hz, hz0, h⟩ := h
    refine ⟨by rw [hτ]; exact h0, hz, hz0, ?_⟩
    rcases h with h | ⟨b, cap, arr, h1, h2, h0', h3, h4, h5, h6, h7⟩
    · left; rw [hτ]; exact h
    · right
      obtain ⟨k1, k2⟩ := hb b (by simp [O.block, h1, ownB]; omega)
      refine ⟨b, cap, arr, by rw [hτ]; exact h1, by rw [k1]; exact h2, h0', h3, h4, h5, fun i j x c hi hj => ?_, fun i hi hs => h7 i hi (k2 i hs)⟩
      obtain ⟨a1, v, a2, a3, a4⟩ := h6 i j x c hi hj
      exact ⟨hl.S _ _ a1, v, a2, a3, a4.le hl⟩
  | row z e xs =>
    obtain ⟨arr, h1, h2, h3, h3', h4, h5⟩ := h
    obtain ⟨k1, k2⟩ := hb _ rfl
    refine ⟨arr, by rw [hβ, k1]; exact h1, h2, h3, h3', fun i j x c hi hj => ?_, fun i hs => h5 i (k2 i (by rwa [hβ] at hs))⟩
    obtain ⟨v, a2, a3, a4⟩ := h4 i j x c hi hj
    exact ⟨v, a2, a3, a4.le hl⟩
  | map sk es =>
    obtain ⟨arr, h1, h2, h3, h4⟩ := h
    obtain ⟨k1, k2⟩ := hb _ rfl
    refine ⟨arr, by rw [hβ, k1]; exact h1, h2, fun i x m hx hm => ?_, fun i hs => h4 i (k2 i (by rwa [hβ] at hs))⟩
    obtain ⟨a0, a1, a2, a3⟩ := h3 i x m hx hm
    exact ⟨a0, a1.le hl, a2.le hl, a3⟩
  | iter m since c0 seen =>
    obtain ⟨h0, h1, h2⟩ := h
    obtain ⟨k1, k2⟩ := hb _ rfl
    exact ⟨h0, by rw [hβ, k1, hl.β m (Nat.lt_trans h0 hr)]; exact h1, fun i hs => h2 i (k2 i (by rwa [hβ] at hs))⟩
  | buf q z e xs =>
    obtain ⟨h0, hz, hz0, h⟩ := h
    refine ⟨by rw [hτ]; exact h0, hz, hz0, ?_⟩
    rcases h with h | ⟨b, cap, arr, h1, h2, h0', h3, h4, h5, h6, h7⟩
    · left; rw [hτ]; exact h
    · right
      obtain ⟨k1, k2⟩ := hb b (by simp [O.block, h1, ownB]; omega)
      refine ⟨b, cap, arr, by rw [hτ]; exact h1, by rw [k1]; exact h2, h0', h3, h4, h5, fun i j x c hi hj => ?_, fun i hs => h7 i (k2 i hs)⟩
      obtain ⟨v, a2, a3, a4⟩ := h6 i j x c hi hj
      exact ⟨v, a2, a3, a4.le hl⟩
  | dead => trivial

/-- All objects stay, the world has only grown. -/
theorem RepH.keep {H : List O} (h : RepH E H) (hl : Le E E') (hN : E'.N = E.N) (hτ : ∀ r, r < E.N → E'.τ r = E.τ r)
    (hb : ∀ (r : Nat) (o : O) (b : Nat), H[r]? = some o → o.block E r = some b → E'.w.heap[b]? = E.w.heap[b]? ∧ ∀ i, E'.S b i → E.S b i)
    (hpv : ∀ b, E.pv b → E'.pv b) (hS : ∀ b i, E'.S b i → b < E'.w.heap.size) : RepH E' H := by
  have hlt : ∀ {r : Nat} {o : O}, H[r]? = some o → r < E.N := fun ho => by rw [h.N]; exact (List.getElem?_eq_some_iff.1 ho).1
  have hblk : ∀ {r : Nat} {o : O}, H[r]? = some o → o.block E' r = o.block E r := fun ho => O.block_same (hl.β _ (hlt ho)) (hτ _ (hlt ho))
  refine ⟨by rw [hN, h.N], fun r o ho => ?_, fun r o b ho hbk => ?_, fun r o b ho hbk => ?_, fun r r' o o' b ho ho' hbk hbk' => ?_, hS⟩
  · exact (h.obj r o ho).keep hl (hlt ho) (hτ _ (hlt ho)) (fun b hbk => hb r o b ho hbk)
  · rw [hblk ho] at hbk; exact hpv b (h.pv r o b ho hbk)
  · rw [hblk ho] at hbk; exact Nat.lt_of_lt_of_le (h.lt r o b ho hbk) hl.size
  · rw [hblk ho] at hbk
    rw [hblk ho'] at hbk'
    exact h.apart r r' o o' b ho ho' hbk hbk'

/-- One object turns (or comes anew at the list's end). -/
theorem RepH.turn {H H' : List O} {r0 : Nat} {o0 : O} (h : RepH E H) (hl : Le E E') (hN : E'.N = H'.length)
    (hH : ∀ (r : Nat), r ≠ r0 → H'[r]? = H[r]?) (h0 : ∀ o, H'[r0]? = some o → o = o0)
    (hτ : ∀ r, r ≠ r0 → r < E.N → E'.τ r = E.τ r)
    (hb : ∀ (r : Nat) (o : O) (b : Nat), r ≠ r0 → H[r]? = some o → o.block E r = some b → E'.w.heap[b]? = E.w.heap[b]? ∧ ∀ i, E'.S b i → E.S b i)
    (hpv : ∀ b, E.pv b → E'.pv b) (hS : ∀ b i, E'.S b i → b < E'.w.heap.size)
    (ho0 : RepO E' r0 o0) (hblk0 : ∀ b, o0.block E' r0 = some b → E'.pv b ∧ b < E'.w.heap.size ∧
      ∀ (r : Nat) (o : O), r ≠ r0 → H[r]? = some o → o.block E r ≠ some b) : RepH E' H' := by
  have hlt : ∀ {r : Nat} {o : O}, H[r]? = some o → r < E.N := fun ho => by rw [h.N]; exact (List.getElem?_eq_some_iff.1 ho).1
  have hblk : ∀ {r : Nat} {o : O}, r ≠ r0 → H[r]? = some o → o.block E' r = o.block E r := fun hne ho => O.block_same (hl.β _ (hlt ho)) (hτ _ hne (hlt ho))
  refine ⟨hN, fun r o ho => ?_, fun r o b ho hbk => ?_, fun r o b ho hbk => ?_, fun r r' o o' b ho ho' hbk hbk' => ?_, hS⟩
  · by_cases e : r = r0
    · subst e; rw [h0 o ho]; exact ho0
    · rw [hH r e] at ho
      exact (h.obj r o ho).keep hl (hlt ho) (hτ _ e (hlt ho)) (fun b hbk => hb r o b e ho hbk)
  · by_cases e : r = r0
    · subst e; rw [h0 o ho] at hbk; exact (hblk0 b hbk).1
    · rw [hH r e] at ho; rw [hblk e ho] at hbk; exact hpv b (h.pv r o b ho hbk)
  · by_cases e : r = r0
    · subst e; rw [h0 o ho] at hbk; exact (hblk0 b hbk).2.1
    · rw [hH r e] at ho; rw [hblk e ho] at hbk; exact Nat.lt_of_lt_of_le (h.lt r o b ho hbk) hl.size
  · by_cases e : r = r0
    · subst e
      rw [h0 o ho] at hbk
      by_cases e' : r' = r
      · exact e'.symm
      · rw [hH r' e'] at ho'
        rw [hblk e' ho'] at hbk'
        exact absurd hbk' ((hblk0 b hbk).2.2 r' o' e' ho')
    · rw [hH r e] at ho
      rw [hblk e ho] at hbk
      by_cases e' : r' = r0
      · subst e'
        rw [h0 o' ho'] at hbk'
        exact absurd hbk ((hblk0 b hbk').2.2 r o e ho)
      · rw [hH r' e'] at ho'
        rw [hblk e' ho'] at hbk'
        exact h.apart r r' o o' b ho ho' hbk hbk'

/-! ### A new block of cells -/

/-- The world after a new block; the block is a new object. -/
def Env.newObj (E : Env) (o : Obj) : Env :=
  { E with w := E.w.alloc o, N := E.N + 1, β := fun r => if r = E.N then E.w.heap.size else E.β r, pv := fun b => E.pv b ∨ b = E.w.heap.size }



theorem le_newObj {H : List O} (h : RepH E H) (o : Obj) : Le E (E.newObj o) where
  os := rfl
  tape := rfl
  output := rfl
  size := by simp [Env.newObj]
  N := by simp [Env.newObj]
  β r hr := by simp only [Env.newObj]; rw [if_neg (by omega)]
  τ r hr := ⟨Nat.le_refl _, fun _ => rfl⟩
  S b i hs := hs
  cell b i hs := World.cell?_alloc_lt E.w o _ (h.Slt b i hs)
  blk b hb hp := heap_alloc_old E.w o b hb
  newS b i hs := .inl hs
  newP b hp := by
    rcases hp with hp | rfl
    · exact .inl hp
    · exact .inr (Nat.le_refl _)

theorem rep_newBox {H : List O} (h : RepH E H) {cs : List C} {arr : Array Value} {e : TypeId} (hf : Fits E cs arr) : RepH (E.newObj (.cells arr e)) (H ++ [.box cs]) := by
  have hl := le_newObj h (.cells arr e)
  refine h.turn (r0 := H.length) (o0 := .box cs) hl (by simp [Env.newObj, h.N]) (fun r hr => ?_) (fun o ho => ?_) (fun r hr hr' => rfl) (fun r o b hr ho hb => ?_) (fun b hb => .inl hb) (fun b i hs => ?_) ?_ (fun b hb => ?_)
  · by_cases hlt : r < H.length
    · rw [List.getElem?_append_left hlt]
    · rw [List.getElem?_eq_none (by simp; omega), List.getElem?_eq_none (by omega)]
  · simpa using ho.symm
  · exact ⟨heap_alloc_old E.w _ b (h.lt r o b ho hb), fun i hs => hs⟩
  · have := h.Slt b i hs
    simp only [Env.newObj, World.size_alloc]; omega
  · have hβ : (E.newObj (.cells arr e)).β H.length = E.w.heap.size := by simp [Env.newObj, h.N]
    refine ⟨arr, e, by rw [hβ]; exact heap_alloc_new E.w _, hf.1, fun i c v hc hv => ?_, fun i hs => ?_⟩
    · obtain ⟨h1, h2⟩ := hf.2 i c v hc hv
      exact ⟨h1.le hl, h2⟩
    · rw [hβ] at hs
      have := h.Slt _ i hs
      omega
  · have hβ : (E.newObj (.cells arr e)).β H.length = E.w.heap.size := by simp [Env.newObj, h.N]
    simp only [O.block, hβ, Option.some.injEq] at hb
    subst hb
    refine ⟨.inr rfl, by simp [Env.newObj], fun r o hr ho hb => ?_⟩
    have := h.lt r o _ ho hb
    omega

theorem rep_newRow {H : List O} (h : RepH E H) {xs : List (List D)} {arr : Array Value} {z e : TypeId} (hs : arr.size = xs.length * z) (hz : ∀ x, x ∈ xs → x.length = z) (hm : xs.length ≤ maxLen)
    (hf : ∀ (i j : Nat) (x : List D) (c : D), xs[i]? = some x → x[j]? = some c → ∃ (v : Value), arr[i * z + j]? = some v ∧ v.oneCell' = true ∧ RdD E.w E.S c v) :
    RepH (E.newObj (.cells arr e)) (H ++ [.row z e xs]) := by
  have hl := le_newObj h (.cells arr e)
  refine h.turn (r0 := H.length) (o0 := .row z e xs) hl (by simp [Env.newObj, h.N]) (fun r hr => ?_) (fun o ho => ?_) (fun r hr hr' => rfl) (fun r o b hr ho hb => ?_) (fun b hb => .inl hb) (fun b i hs => ?_) ?_ (fun b hb => ?_)
  · by_cases hlt : r < H.length
    · rw [List.getElem?_append_left hlt]
    · rw [List.getElem?_eq_none (by simp; omega), List.getElem?_eq_none (by omega)]
  · simpa using ho.symm
  · exact ⟨heap_alloc_old E.w _ b (h.lt r o b ho hb), fun i hs => hs⟩
  · have := h.Slt b i hs
    simp only [Env.newObj, World.size_alloc]; omega
  · have hβ : (E.newObj (.cells arr e)).β H.length = E.w.heap.size := by simp [Env.newObj, h.N]
    refine ⟨arr, by rw [hβ]; exact heap_alloc_new E.w _, hs, hz, hm, fun i j x c hi hj => ?_, fun i hs => ?_⟩
    · obtain ⟨v, h1, h2, h3⟩ := hf i j x c hi hj
      exact ⟨v, h1, h2, h3.le hl⟩
    · rw [hβ] at hs
      have := h.Slt _ i hs
      omega
  · have hβ : (E.newObj (.cells arr e)).β H.length = E.w.heap.size := by simp [Env.newObj, h.N]
    simp only [O.block, hβ, Option.some.injEq] at hb
    subst hb
    refine ⟨.inr rfl, by simp [Env.newObj], fun r o hr ho hb => ?_⟩
    have := h.lt r o _ ho hb
    omega

/-- The world after a new block that nobody writes any more. -/
def Env.newData (E : Env) (o : Obj) : Env :=
  { E with w := E.w.alloc o, S := fun b i => E.S b i ∨ b = E.w.heap.size }

theorem le_newData {H : List O} (h : RepH E H) (o : Obj) : Le E (E.newData o) where
  os := rfl
  tape := rfl
  output := rfl
  size := by simp [Env.newData]
  N := Nat.le_refl _
  β r hr := rfl
  τ r hr := ⟨Nat.le_refl _, fun _ => rfl⟩
  S b i hs := .inl hs
  cell b i hs := World.cell?_alloc_lt E.w o _ (h.Slt b i hs)
  blk b hb hp := heap_alloc_old E.w o b hb
  newS b i hs := by
    rcases hs with hs | rfl
    · exact .inl hs
    · exact .inr (.inl (Nat.le_refl _))
  newP b hp := .inl hp

theorem rep_newData {H : List O} (h : RepH E H) (o : Obj) : RepH (E.newData o) H :=
  h.keep (le_newData h o) rfl (fun _ _ => rfl) (fun r o' b ho hb => ⟨heap_alloc_old E.w _ b (h.lt r o' b ho hb), fun i hs => by
    rcases hs with hs | rfl
    · exact hs
    · have := h.lt r o' _ ho hb; omega⟩) (fun b hb => hb) (fun b i hs => by
    simp only [Env.newData, World.size_alloc]
    rcases hs with hs | rfl
    · have := h.Slt b i hs; omega
    · omega)

/-- The world after a draw. -/
def Env.drew (E : Env) : Env := { E with w := E.w.drew }

theorem le_drew (E : Env) : Le E E.drew :=
  ⟨rfl, rfl, rfl, Nat.le_refl _, Nat.le_refl _, fun _ _ => rfl, fun _ _ => ⟨Nat.le_refl _, fun _ => rfl⟩, fun _ _ h => h, fun _ _ _ => rfl, fun _ _ _ => rfl, fun _ _ h => .inl h, fun _ h => .inl h⟩

theorem rep_drew {H : List O} (h : RepH E H) : RepH E.drew H :=
  h.keep (le_drew E) rfl (fun _ _ => rfl) (fun _ _ _ _ _ => ⟨rfl, fun _ hs => hs⟩) (fun _ hb => hb) (fun b i hs => h.Slt b i hs)

/-! ### A store -/

/-- The world after block b has been given new cells. -/
def Env.setRow (E : Env) (b : Nat) (arr : Array Value) : Env := { E with w := E.w.setRow b arr }

theorem le_setRow {b : Nat} {arr : Array Value} (hp : E.pv b) (hS : ∀ i, ¬ E.S b i) : Le E (E.setRow b arr) where
  os := rfl
  tape := rfl
  output := rfl
  size := by simp [Env.setRow]
  N := Nat.le_refl _
  β r hr := rfl
  τ r hr := ⟨Nat.le_refl _, fun _ => rfl⟩
  S b i hs := hs
  cell b' i hs := cell_setRow_other E.w b arr _ (fun e => hS i (by subst e; exact hs))
  blk b' hb hp' := setRow_other E.w b b' arr (fun e => hp' (by subst e; exact hp))
  newS b i hs := .inl hs
  newP b hp := .inl hp

/-- One object, at a block that is private as a whole, turns in place. -/
theorem rep_setRow {H : List O} (h : RepH E H) {r0 : Nat} {o o0 : O} {arr : Array Value} (ho : H[r0]? = some o) (hb0 : o.block E r0 = some (E.β r0)) (hb1 : ∀ E' : Env, o0.block E' r0 = some (E'.β r0))
    (hS : ∀ i, ¬ E.S (E.β r0) i) (hrep : RepO (E.setRow (E.β r0) arr) r0 o0) : Le E (E.setRow (E.β r0) arr) ∧ RepH (E.setRow (E.β r0) arr) (H.set r0 o0) := by
  have hl : Le E (E.setRow (E.β r0) arr) := le_setRow (h.pv r0 o _ ho hb0) hS
  refine ⟨hl, h.turn (r0 := r0) (o0 := o0) hl (by simp [Env.setRow, h.N]) (fun r hr => ?_) (fun o' ho' => ?_) (fun r hr hr' => rfl) (fun r o' b hr ho' hb => ?_) (fun b hb => hb) (fun b i hs => ?_) hrep (fun b hb => ?_)⟩
  · rw [List.getElem?_set_ne (fun e => hr e.symm)]
  · rw [List.getElem?_set_self (List.getElem?_eq_some_iff.1 ho).1] at ho'
    exact (Option.some.inj ho').symm
  · refine ⟨setRow_other E.w _ b arr (fun e => ?_), fun i hs => hs⟩
    subst e
    exact hr (h.apart r r0 o' o _ ho' ho hb hb0)
  · have := h.Slt b i hs
    simpa [Env.setRow] using this
  · rw [hb1] at hb
    simp only [Option.some.injEq] at hb
    subst hb
    refine ⟨h.pv r0 o _ ho hb0, by simpa [Env.setRow] using h.lt r0 o _ ho hb0, fun r o' hr ho' hb => hr (h.apart r r0 o' o _ ho' ho hb hb0)⟩

end
end Go.Abs
