/- The plain-data layer, part 10: append to an own slice. -/
import Derived.Test.YtkmbaakiliafeaaAbs9
namespace Go.Abs

section
variable {P : Program} {E : Env}

/-- The world after object r0 (a slice) has come to lie in a new block, of which the first cells are read from now on. -/
def Env.growNew (E : Env) (w' : World) (r0 q : Nat) (v : Value) (bound : Nat) : Env :=
  { E with w := w', S := fun b i => E.S b i ∨ (b = E.w.heap.size ∧ i < bound), τ := fun r => if r = r0 then (q, v) else E.τ r, pv := fun b => E.pv b ∨ b = E.w.heap.size }

/-- The world after object r0 has grown in its block b. -/
def Env.growIn (E : Env) (w' : World) (r0 q : Nat) (v : Value) (b0 bound : Nat) : Env :=
  { E with w := w', S := fun b i => E.S b i ∨ (b = b0 ∧ i < bound), τ := fun r => if r = r0 then (q, v) else E.τ r }

theorem grow_new {H : List O} (h : RepH E H) {r0 q q' z e : Nat} {xs xs' : List (List D)} (ho : H[r0]? = some (.grow q z e xs)) (hq : q < q') (hz : 0 < z)
    {L rest : List Value} (hL : Cells E.w E.S z xs' L) {cap : Nat} (hc : xs'.length ≤ cap) (hc0 : 0 < cap) (hm : cap ≤ maxLen) (hs : (L ++ rest).length = cap * z)
    (w1 : World) (hw1 : w1 = E.w.drew.alloc (.cells (L ++ rest).toArray e)) :
    Le E (E.growNew w1 r0 q' (.slice (some ⟨E.w.heap.size, 0, none⟩) xs'.length cap) (xs'.length * z)) ∧
    RepH (E.growNew w1 r0 q' (.slice (some ⟨E.w.heap.size, 0, none⟩) xs'.length cap) (xs'.length * z)) (H.set r0 (.grow q' z e xs')) := by
  subst hw1
  have hq0 : (E.τ r0).1 = q := (h.obj r0 _ ho).1
  have hN : r0 < E.N := by rw [h.N]; exact (List.getElem?_eq_some_iff.1 ho).1
  have hl : Le E (E.growNew (E.w.drew.alloc (.cells (L ++ rest).toArray e)) r0 q' (.slice (some ⟨E.w.heap.size, 0, none⟩) xs'.length cap) (xs'.length * z)) := by
    refine ⟨rfl, rfl, rfl, by simp [Env.growNew], Nat.le_refl _, fun _ _ => rfl, fun r hr => ?_, fun _ _ hs => .inl hs, fun b i hs => ?_, fun b hb hp => heap_alloc_old E.w.drew _ b hb, fun b i hs => ?_, fun b hp => ?_⟩
    · simp only [Env.growNew]
      by_cases er : r = r0
      · subst er
        rw [if_pos rfl]
        exact ⟨by simp only; omega, fun he => by simp only at he; omega⟩
      · rw [if_neg er]; exact ⟨Nat.le_refl _, fun _ => rfl⟩
    · exact World.cell?_alloc_lt E.w.drew _ _ (h.Slt b i hs)
    · rcases hs with hs | ⟨rfl, _⟩
      · exact .inl hs
      · exact .inr (.inl (Nat.le_refl _))
    · rcases hp with hp | rfl
      · exact .inl hp
      · exact .inr (Nat.le_refl _)
  refine ⟨hl, h.turn (r0 := r0) (o0 := .grow q' z e xs') hl (by simp [Env.growNew, h.N]) (fun r hr => ?_) (fun o' ho' => ?_) (fun r hr hr' => ?_) (fun r o' b hr ho' hb => ?_) (fun b hb => .inl hb) (fun b i hs => ?_) ?_ (fun b hb => ?_)⟩
  · rw [List.getElem?_set_ne (fun e => hr e.symm)]
  · rw [List.getElem?_set_self (List.getElem?_eq_some_iff.1 ho).1] at ho'
    exact (Option.some.inj ho').symm
  · simp only [Env.growNew]; rw [if_neg hr]
  · have hlt := h.lt r o' b ho' hb
    refine ⟨heap_alloc_old E.w.drew _ b hlt, fun i hs => ?_⟩
    rcases hs with hs | ⟨rfl, _⟩
    · exact hs
    · exact absurd hlt (Nat.lt_irrefl _)
  · simp only [Env.growNew, World.size_alloc, World.size_drew]
    rcases hs with hs | ⟨rfl, _⟩
    · have := h.Slt b i hs; omega
    · omega
  · refine ⟨by simp [Env.growNew], hL.each, hz, .inr ⟨E.w.heap.size, cap, (L ++ rest).toArray, by simp [Env.growNew], heap_alloc_new E.w.drew _, hc0, hc, hm, by simpa using hs, fun i j x c hi hj => ?_, fun i hi hS => ?_⟩⟩
    · obtain ⟨u, h1, h2, h3⟩ := hL.rd i j x c hi hj
      have hlt := (List.getElem?_eq_some_iff.1 h1).1
      refine ⟨.inr ⟨rfl, by rw [hL.len] at hlt; exact hlt⟩, u, ?_, h2, h3.le hl⟩
      rw [List.getElem?_toArray, List.getElem?_append_left hlt]; exact h1
    · rcases hS with hS | ⟨_, hlt⟩
      · have := h.Slt _ i hS; omega
      · omega
  · simp only [O.block, Env.growNew, if_pos, ownB] at hb
    rw [if_neg (by omega)] at hb
    simp only [Option.some.injEq] at hb
    subst hb
    refine ⟨.inr rfl, by simp [Env.growNew], fun r o' hr ho' hb => ?_⟩
    have := h.lt r o' _ ho' hb
    omega

theorem grow_in {H : List O} (h : RepH E H) {r0 q q' z e : Nat} {xs ys : List (List D)} (ho : H[r0]? = some (.grow q z e xs)) (hq : q < q') (hz : 0 < z)
    {L : List Value} {b0 cap : Nat} {arr : Array Value} (hv : (E.τ r0).2 = .slice (some ⟨b0, 0, none⟩) xs.length cap) (hb0 : E.w.heap[b0]? = some (.cells arr e (0, 0)))
    (hc0 : 0 < cap) (hm : cap ≤ maxLen) (hsz : arr.size = cap * z) (hS : ∀ i, xs.length * z ≤ i → ¬ E.S b0 i)
    (hX : ∀ (i j : Nat) (x : List D) (c : D), xs[i]? = some x → x[j]? = some c → E.S b0 (i * z + j) ∧ ∃ (v : Value), arr[i * z + j]? = some v ∧ v.oneCell' = true ∧ RdD E.w E.S c v)
    (hxz : ∀ x, x ∈ xs → x.length = z) (hL : Cells E.w E.S z ys L) (hc : xs.length + ys.length ≤ cap) :
    Le E (E.growIn (E.w.setRow b0 (arr.toList.take (xs.length * z) ++ L ++ arr.toList.drop (xs.length * z + L.length)).toArray) r0 q' (.slice (some ⟨b0, 0, none⟩) (xs ++ ys).length cap) b0 ((xs ++ ys).length * z)) ∧
    RepH (E.growIn (E.w.setRow b0 (arr.toList.take (xs.length * z) ++ L ++ arr.toList.drop (xs.length * z + L.length)).toArray) r0 q' (.slice (some ⟨b0, 0, none⟩) (xs ++ ys).length cap) b0 ((xs ++ ys).length * z)) (H.set r0 (.grow q' z e (xs ++ ys))) := by
  have hq0 : (E.τ r0).1 = q := (h.obj r0 _ ho).1
  have hN : r0 < E.N := by rw [h.N]; exact (List.getElem?_eq_some_iff.1 ho).1
  have hblk : (O.grow q z e xs).block E r0 = some b0 := by simp [O.block, hv, ownB]; omega
  have hpv := h.pv r0 _ _ ho hblk
  have hlb := h.lt r0 _ _ ho hblk
  have hcz : (xs.length + ys.length) * z ≤ cap * z := Nat.mul_le_mul_right _ hc
  have hLl := hL.len
  have hadd : (xs.length + ys.length) * z = xs.length * z + ys.length * z := Nat.add_mul _ _ _
  generalize hnew : (arr.toList.take (xs.length * z) ++ L ++ arr.toList.drop (xs.length * z + L.length)).toArray = arr'
  have hget : ∀ i, i < xs.length * z → arr'[i]? = arr[i]? := fun i hi => by
    subst hnew
    rw [List.getElem?_toArray, List.append_assoc, List.getElem?_append_left (by simp; omega), List.getElem?_take, if_pos hi, Array.getElem?_toList]
  have hgetL : ∀ i, i < L.length → arr'[xs.length * z + i]? = L[i]? := fun i hi => by
    subst hnew
    rw [List.getElem?_toArray, List.append_assoc, List.getElem?_append_right (by simp; omega), List.getElem?_append_left (by simp; omega)]
    congr 1
    simp; omega
  have hsz' : arr'.size = cap * z := by
    subst hnew
    simp; omega
  have hrow : (E.w.setRow b0 arr').heap[b0]? = some (.cells arr' e (0, 0)) := setRow_heap _ _ _ _ _ _ hb0
  have hl : Le E (E.growIn (E.w.setRow b0 arr') r0 q' (.slice (some ⟨b0, 0, none⟩) (xs ++ ys).length cap) b0 ((xs ++ ys).length * z)) := by
    refine ⟨rfl, rfl, rfl, by simp [Env.growIn], Nat.le_refl _, fun _ _ => rfl, fun r hr => ?_, fun _ _ hs => .inl hs, fun b i hs => ?_, fun b hb hp => setRow_other E.w b0 b _ (fun e => hp (by subst e; exact hpv)), fun b i hs => ?_, fun b hp => .inl hp⟩
    · simp only [Env.growIn]
      by_cases er : r = r0
      · subst er
        rw [if_pos rfl]
        exact ⟨by simp only; omega, fun he => by simp only at he; omega⟩
      · rw [if_neg er]; exact ⟨Nat.le_refl _, fun _ => rfl⟩
    · by_cases hbb : b = b0
      · subst hbb
        have hi : i < xs.length * z := by
          rcases Nat.lt_or_ge i (xs.length * z) with h' | h'
          · exact h'
          · exact absurd hs (hS i h')
        show (E.w.setRow b arr').cell? _ = _
        rw [cell_of_row _ _ _ _ _ _ hrow, cell_of_row _ _ _ _ _ _ hb0, hget i hi]
      · exact cell_setRow_other E.w b0 arr' _ hbb
    · rcases hs with hs | ⟨rfl, _⟩
      · exact .inl hs
      · exact .inr (.inr hpv)
  refine ⟨hl, h.turn (r0 := r0) (o0 := .grow q' z e (xs ++ ys)) hl (by simp [Env.growIn, h.N]) (fun r hr => ?_) (fun o' ho' => ?_) (fun r hr hr' => ?_) (fun r o' b hr ho' hb => ?_) (fun b hb => hb) (fun b i hs => ?_) ?_ (fun b hb => ?_)⟩
  · rw [List.getElem?_set_ne (fun e => hr e.symm)]
  · rw [List.getElem?_set_self (List.getElem?_eq_some_iff.1 ho).1] at ho'
    exact (Option.some.inj ho').symm
  · simp only [Env.growIn]; rw [if_neg hr]
  · have hne : b ≠ b0 := fun e => by subst e; exact hr (h.apart r r0 o' _ _ ho' ho hb hblk)
    refine ⟨setRow_other E.w b0 b _ hne, fun i hs => ?_⟩
    rcases hs with hs | ⟨rfl, _⟩
    · exact hs
    · exact absurd rfl hne
  · simp only [Env.growIn, size_setRow]
    rcases hs with hs | ⟨rfl, _⟩
    · exact h.Slt b i hs
    · exact hlb
  · refine ⟨by simp [Env.growIn], fun x hx => ?_, hz, .inr ⟨b0, cap, arr', by simp [Env.growIn], hrow, hc0, by simpa using hc, hm, hsz', fun i j x c hi hj => ?_, fun i hi hS' => ?_⟩⟩
    · rcases List.mem_append.1 hx with hx | hx
      · exact hxz x hx
      · exact hL.each x hx
    · by_cases hlt : i < xs.length
      · rw [List.getElem?_append_left hlt] at hi
        obtain ⟨h1, v, h2, h3, h4⟩ := hX i j x c hi hj
        have hjz : j < z := by rw [← hxz x (List.mem_of_getElem? hi)]; exact (List.getElem?_eq_some_iff.1 hj).1
        have hb : i * z + j < xs.length * z := by
          have : (i + 1) * z ≤ xs.length * z := Nat.mul_le_mul_right _ hlt
          rw [Nat.add_mul] at this; omega
        exact ⟨.inl h1, v, by rw [hget _ hb]; exact h2, h3, h4.le hl⟩
      · rw [List.getElem?_append_right (by omega)] at hi
        obtain ⟨u, h1, h2, h3⟩ := hL.rd _ j x c hi hj
        have hlt' := (List.getElem?_eq_some_iff.1 h1).1
        have e1 : i * z + j = xs.length * z + ((i - xs.length) * z + j) := by
          have : (i - xs.length + xs.length) * z = (i - xs.length) * z + xs.length * z := Nat.add_mul _ _ _
          rw [Nat.sub_add_cancel (by omega)] at this
          omega
        refine ⟨.inr ⟨rfl, by simp only [List.length_append]; omega⟩, u, by rw [e1, hgetL _ hlt']; exact h1, h2, h3.le hl⟩
    · rcases hS' with hS' | ⟨_, hlt⟩
      · exact hS i (by simp only [List.length_append] at hi; omega) hS'
      · omega
  · simp only [O.block, Env.growIn, if_pos, ownB] at hb
    rw [if_neg (by omega)] at hb
    simp only [Option.some.injEq] at hb
    subst hb
    exact ⟨hpv, by simpa [Env.growIn] using hlb, fun r o' hr ho' hb => hr (h.apart r r0 o' _ _ ho' ho hb hblk)⟩

/-- Nothing but the version moves on. -/
def Env.bump (E : Env) (r0 q : Nat) (v : Value) : Env := { E with τ := fun r => if r = r0 then (q, v) else E.τ r }

theorem rep_bump {H : List O} (h : RepH E H) {r0 q q' z e : Nat} {xs : List (List D)} (ho : H[r0]? = some (.grow q z e xs)) (hq : q < q') :
    Le E (E.bump r0 q' (E.τ r0).2) ∧ RepH (E.bump r0 q' (E.τ r0).2) (H.set r0 (.grow q' z e xs)) := by
  have hq0 : (E.τ r0).1 = q := (h.obj r0 _ ho).1
  have hl : Le E (E.bump r0 q' (E.τ r0).2) := by
    refine ⟨rfl, rfl, rfl, Nat.le_refl _, Nat.le_refl _, fun _ _ => rfl, fun r hr => ?_, fun _ _ hs => hs, fun b i hs => rfl, fun b hb hp => rfl, fun b i hs => .inl hs, fun b hp => .inl hp⟩
    simp only [Env.bump]
    by_cases er : r = r0
    · subst er
      rw [if_pos rfl]
      exact ⟨by simp only; omega, fun he => by simp only at he; omega⟩
    · rw [if_neg er]; exact ⟨Nat.le_refl _, fun _ => rfl⟩
  have hb' : (O.grow q' z e xs).block (E.bump r0 q' (E.τ r0).2) r0 = (O.grow q z e xs).block E r0 := by simp [O.block, Env.bump]
  refine ⟨hl, h.turn (r0 := r0) (o0 := .grow q' z e xs) hl (by simp [Env.bump, h.N]) (fun r hr => ?_) (fun o' ho' => ?_) (fun r hr hr' => ?_) (fun r o' b hr ho' hb => ⟨rfl, fun i hs => hs⟩) (fun b hb => hb) (fun b i hs => h.Slt b i hs) ?_ (fun b hb => ?_)⟩
  · rw [List.getElem?_set_ne (fun e => hr e.symm)]
  · rw [List.getElem?_set_self (List.getElem?_eq_some_iff.1 ho).1] at ho'
    exact (Option.some.inj ho').symm
  · simp only [Env.bump]; rw [if_neg hr]
  · obtain ⟨_, h2, h3, h4⟩ := h.obj r0 _ ho
    refine ⟨by simp [Env.bump], h2, h3, ?_⟩
    have e1 : ((E.bump r0 q' (E.τ r0).2).τ r0).2 = (E.τ r0).2 := by simp [Env.bump]
    rw [e1]
    rcases h4 with h4 | ⟨b, cap, arr, h5, h6, h7, h8, h9, h10, h11, h12⟩
    · exact .inl h4
    · exact .inr ⟨b, cap, arr, h5, h6, h7, h8, h9, h10, fun i j x c hi hj => by
        obtain ⟨k1, v, k2, k3, k4⟩ := h11 i j x c hi hj
        exact ⟨k1, v, k2, k3, k4.le hl⟩, h12⟩
  · rw [hb'] at hb
    exact ⟨h.pv r0 _ b ho hb, h.lt r0 _ b ho hb, fun r o' hr ho' hb2 => hr (h.apart r r0 o' _ b ho' ho hb2 hb)⟩

/-- append to an own slice. -/
theorem append_own {H : List O} (h : RepH E H) {r0 q z e by_ : Nat} {t u ty : TypeId} {xs ys : List (List D)} (ht : tSlice P t = some (e, z, by_)) (hu : Plain P u)
    (ho : H[r0]? = some (.grow q z e xs)) {x : Value} {L : List Value} (hL : Cells E.w E.S z ys L) (hlen : ∀ w, (Builtin.lenOf x).run P w = .ok ys.length w)
    (hx : ∀ w' : World, (∀ b i, E.S b i → w'.cell? ⟨b, i, none⟩ = E.w.cell? ⟨b, i, none⟩) → (Builtin.firstCells z ys.length x).run P w' = .ok L.toArray w')
    (hm : xs.length + ys.length ≤ maxLen) (hby : (xs.length + ys.length) * by_ ≤ 140737488355328) :
    ∃ v' E', (Builtin.append_ #[t, u] ty #[(E.τ r0).2, x]).run P E.w = .ok v' E'.w ∧ Le E E' ∧ RepH E' (H.set r0 (.grow (q + 1) z e (xs ++ ys))) ∧ E'.τ r0 = (q + 1, v') ∧ v'.oneCell' = true := by
  obtain ⟨hte, hz, i, zv, hi, hzv, hzs, hiz, hib⟩ := of_tSlice ht
  have hobj := h.obj r0 _ ho
  obtain ⟨hq, hxz, _, halt⟩ := hobj
  have hnewcase : ∀ (base : Option Addr) (cap : Nat) (Lx : List Value), Cells E.w E.S z xs Lx → (E.τ r0).2 = .slice base xs.length cap →
      (∀ w' : World, (∀ b i, E.S b i → w'.cell? ⟨b, i, none⟩ = E.w.cell? ⟨b, i, none⟩) → (Builtin.firstCells z xs.length (.slice base xs.length cap)).run P w' = .ok Lx.toArray w') → cap < xs.length + ys.length →
      ∃ v' E', (Builtin.append_ #[t, u] ty #[(E.τ r0).2, x]).run P E.w = .ok v' E'.w ∧ Le E E' ∧ RepH E' (H.set r0 (.grow (q + 1) z e (xs ++ ys))) ∧ E'.τ r0 = (q + 1, v') ∧ v'.oneCell' = true := by
    intro base cap Lx hLx hv hfx hg
    have hrun := run_append_new (ty := ty) hte hu hi hzv E.w (base := base) (sLen := xs.length) (sCap := cap) (m := ys.length) (x := x)
      (by rw [hiz]; exact hfx E.w.drew (fun _ _ _ => rfl)) (hlen _) (by rw [hiz]; exact hx E.w.drew (fun _ _ _ => rfl)) hg hm (by rw [hib]; exact hby)
    have hge := grownCap_ge E.w (xs.length + ys.length) cap e
    have hcm := grownCap_le_maxLen E.w (xs.length + ys.length) cap e hm
    have hAB := hLx.append hL
    obtain ⟨k1, k2⟩ := grow_new h (q' := q + 1) ho (by omega) hz hAB (rest := (Builtin.zeroCells zv.cells (grownCap E.w (xs.length + ys.length) cap e - (xs.length + ys.length))).toList)
      (cap := grownCap E.w (xs.length + ys.length) cap e) (by simpa using hge) (by omega) hcm (by
        have hzc : (Builtin.zeroCells zv.cells (grownCap E.w (xs.length + ys.length) cap e - (xs.length + ys.length))).toList.length = (grownCap E.w (xs.length + ys.length) cap e - (xs.length + ys.length)) * z := by
          rw [Array.length_toList, size_zeroCells, hzs]
        rw [List.length_append, hAB.len, hzc, List.length_append, ← Nat.add_mul]
        congr 1; omega) _ rfl
    refine ⟨.slice (some ⟨E.w.heap.size, 0, none⟩) (xs ++ ys).length (grownCap E.w (xs.length + ys.length) cap e), _, ?_, k1, k2, by simp [Env.growNew], rfl⟩
    rw [hv, hrun, List.length_append]
    simp only [Env.growNew]
    have hw : (Lx.toArray ++ L.toArray ++ Builtin.zeroCells zv.cells (grownCap E.w (xs.length + ys.length) cap e - (xs.length + ys.length))) = (Lx ++ L ++ (Builtin.zeroCells zv.cells (grownCap E.w (xs.length + ys.length) cap e - (xs.length + ys.length))).toList).toArray := by
      apply Array.ext'
      simp
    rw [hw]
  rcases halt with ⟨a, hv, rfl⟩ | ⟨b, cap, arr, hv, hb, hc0, hle, hcm, hsz, hX, hS⟩
  · by_cases h0 : ys.length = 0
    · have hy : ys = [] := List.eq_nil_of_length_eq_zero h0
      subst hy
      obtain ⟨k1, k2⟩ := rep_bump h (q' := q + 1) ho (by omega)
      have hL0 : L = [] := List.eq_nil_of_length_eq_zero (by rw [hL.len]; simp)
      subst hL0
      refine ⟨(E.τ r0).2, _, ?_, k1, k2, by simp [Env.bump], by rw [hv]; rfl⟩
      rw [hv]
      have := run_append_in (P := P) (t := t) (u := u) (ty := ty) hte hu hi E.w (base := a) (sLen := 0) (sCap := 0) (m := 0) (x := x) (news := #[]) (hlen _) (by rw [hiz]; exact hx E.w (fun _ _ _ => rfl)) (by omega) (w' := E.w) (fun _ _ => rfl) (fun _ => rfl)
      simpa [Env.bump] using this
    · refine hnewcase a 0 [] (Cells.nil _ _ _) hv (fun w' _ => ?_) (by simp; omega)
      cases a with
      | none => simp [Builtin.firstCells]
      | some a => simp [Builtin.firstCells, loadCells, loadCellsFrom]
  · by_cases hroom : xs.length + ys.length ≤ cap
    · obtain ⟨k1, k2⟩ := grow_in h (q' := q + 1) (ys := ys) ho (by omega) hz hv hb hc0 hcm hsz hS hX hxz hL hroom
      rw [hv]
      have hadd : (⟨b, 0, none⟩ : Addr).add (xs.length * i.size) = ⟨b, xs.length * z, none⟩ := by rw [Addr.add_mk, hiz, Nat.zero_add]
      have hLl := hL.len
      have hcz : (xs.length + ys.length) * z ≤ cap * z := Nat.mul_le_mul_right _ hroom
      rw [Nat.add_mul] at hcz
      have hst := run_storeCells_at P b (xs.length * z) e L 0 arr E.w hb (by simp; omega) hL.one
      simp only [Nat.add_zero] at hst
      refine ⟨_, _, run_append_in (P := P) (t := t) (u := u) (ty := ty) hte hu hi E.w (base := some ⟨b, 0, none⟩) (sLen := xs.length) (sCap := cap) (m := ys.length) (x := x) (news := L.toArray) (hlen _) (by rw [hiz]; exact hx E.w (fun _ _ _ => rfl)) hroom (fun a ha => ?_) (fun h' => by cases h'), k1, k2, by simp [Env.growIn], rfl⟩
      cases ha
      rw [hadd]
      exact hst
    · have hxs : RdD E.w E.S (.sl xs) (E.τ r0).2 := rdD_grow (h.obj r0 _ ho)
      obtain ⟨Lx, hLx, ad, cap', hv', hfx⟩ := cells_of_rdD (P := P) hxz hxs
      rw [hv] at hv'
      simp only [Value.slice.injEq] at hv'
      obtain ⟨rfl, _, rfl⟩ := hv'
      exact hnewcase _ cap Lx hLx hv (fun w' hw' => by rw [← hv]; exact hfx w' hw') (by omega)

end
end Go.Abs
