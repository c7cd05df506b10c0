/- The plain-data layer, part 31: own slices that the library sorts in place. -/
import Derived.Test.YtkmbaakiliafeaaAbs30
import Derived.Sort.OwnSortedInts
namespace Go.Abs

theorem rep_ghostB {E : Env} {H : List O} (h : RepH E H) (a : Option Addr) {z : Nat} (e : TypeId) (hz : 0 < z) :
    Le E (E.ghost a) ∧ RepH (E.ghost a) (H ++ [.buf 0 z e []]) := by
  have hl := (rep_ghost h a e hz).1
  refine ⟨hl, h.turn (r0 := H.length) (o0 := .buf 0 z e []) hl (by simp [Env.ghost, h.N]) (fun r hr => ?_) (fun o ho => ?_) (fun r hr hr' => ?_) (fun r o b hr ho hb => ⟨rfl, fun i hs => hs⟩) (fun b hb => hb) (fun b i hs => h.Slt b i hs) ?_ (fun b hb => ?_)⟩
  · by_cases hlt : r < H.length
    · rw [List.getElem?_append_left hlt]
    · rw [List.getElem?_eq_none (by simp; omega), List.getElem?_eq_none (by omega)]
  · simpa using ho.symm
  · simp only [Env.ghost]; rw [if_neg (by omega)]
  · exact ⟨by simp [Env.ghost, h.N], by simp, hz, .inl ⟨a, by simp [Env.ghost, h.N], rfl⟩⟩
  · simp only [O.block, Env.ghost, h.N, if_pos, ownB] at hb
    cases a <;> simp at hb

section
variable {P : Program} {f : FuncId} {n n0 : Nat} {R : C → List O → Prop}

/-- An empty slice becomes one's own, to be sorted. -/
theorem AW.adoptB {k : List Item} {s : St} (t z e : Nat) (hz : 0 < z) (ht : get s.σ t = .nil0) (h : AW P f n n0 R k ⟨(t, .own s.H.length 0) :: s.σ, s.H ++ [.buf 0 z e []]⟩) : AW P f n n0 R k s := by
  intro h0 E a b cs hst hb hk
  have hv := hst.slot t
  rw [ht] at hv
  generalize hg : a.tmps.getD t undef = v at hv
  cases hv with
  | nil0 ad =>
    obtain ⟨hl, hH⟩ := rep_ghostB hst.heap ad e hz
    have hN : n0 ≤ E.N := by rw [hst.heap.N]; exact h0
    have hst' : RepSt (E.ghost ad) n ⟨(t, .own s.H.length 0) :: s.σ, s.H ++ [.buf 0 z e []]⟩ a := by
      refine ⟨hst.size, hst.defers, hH, fun t' => ?_⟩
      simp only [get]
      split
      · rename_i e; subst e
        rw [hg]
        exact .own _ _ _ (by simp [Env.ghost, hst.heap.N]) rfl (by simp [Env.ghost, hst.heap.N]) (fun _ => by simp [Env.ghost, hst.heap.N])
      · exact (hst.slot t').le hl
    obtain ⟨fr, w', v, r, E', H', g1, g2, g3, g4, g5, g6, g7, g8⟩ := h (by simp; omega) (E.ghost ad) a b cs hst' hb hk
    exact ⟨fr, w', v, r, E', H', g1, g2, g3, g4, g5, g6, (hl.trunc hN).trans g7, g8⟩

/-- The world after all cells of block b0 have become such that nobody writes them any more. -/
def Env.freezeBlk (E : Env) (b0 : Nat) : Env := { E with S := fun b i => E.S b i ∨ b = b0 }

/-- A slice that is sorted is data from now on. -/
theorem AW.freezeB {k : List Item} {s : St} (t r : Nat) {q z e : Nat} {xs : List (List D)} (ht : get s.σ t = .own r q) (hr : s.H[r]? = some (.buf q z e xs))
    (h : AW P f n n0 R k ⟨(t, .d (.sl xs)) :: s.σ, s.H.set r .dead⟩) : AW P f n n0 R k s := by
  intro h0 E a b cs hst hb hk
  have hv := hst.slot t
  rw [ht] at hv
  obtain ⟨h1, h2, h3, h4⟩ := hst.heap.obj r _ hr
  have hN : n0 ≤ E.N := by rw [hst.heap.N]; exact h0
  have hval : a.tmps.getD t undef = (E.τ r).2 := by
    generalize a.tmps.getD t undef = v at hv
    cases hv with
    | own _ _ _ _ _ _ hv => exact hv h1.symm
  have fin : ∀ E1 : Env, Le E E1 → RepH E1 (s.H.set r .dead) → RdD E1.w E1.S (.sl xs) (E.τ r).2 → ∃ fr w' v r E' H', Steps P (lone (b.at a k) cs E1.w) (lone fr cs w') ∧ fr.fn = f ∧ fr.leaving P w' (.returned v) ∧ E'.w = w' ∧ RepH E' H' ∧ H'.length = n0 ∧ Le (trunc E n0) E' ∧ Rd E' r v ∧ R r H' := by
    intro E1 hl hH hd
    have hst' : RepSt E1 n ⟨(t, .d (.sl xs)) :: s.σ, s.H.set r .dead⟩ a := by
      refine ⟨hst.size, hst.defers, hH, fun t' => ?_⟩
      simp only [get]
      split
      · rename_i e; subst e
        rw [hval]; exact .d _ _ hd
      · exact (hst.slot t').le hl
    obtain ⟨fr, w', v, r', E', H', g1, g2, g3, g4, g5, g6, g7, g8⟩ := h (by simp; omega) E1 a b cs hst' hb hk
    exact ⟨fr, w', v, r', E', H', g1, g2, g3, g4, g5, g6, (hl.trunc hN).trans g7, g8⟩
  rcases h4 with ⟨ad, h5, rfl⟩ | ⟨b0, cap, arr, h5, h6, h7, h8, h9, h10, h11, h12⟩
  · refine fin E (Le.refl E) ?_ (by rw [h5]; exact .nil _ _)
    refine hst.heap.turn (r0 := r) (o0 := .dead) (Le.refl E) (by simp [hst.heap.N]) (fun r' hr' => ?_) (fun o' ho' => ?_) (fun _ _ _ => rfl) (fun r' o' b hr' ho' hb => ⟨rfl, fun i hs => hs⟩) (fun _ hb => hb) (fun b i hs => hst.heap.Slt b i hs) trivial (fun b hb => by simp [O.block] at hb)
    · rw [List.getElem?_set_ne (fun e => hr' e.symm)]
    · rw [List.getElem?_set_self (List.getElem?_eq_some_iff.1 hr).1] at ho'
      exact (Option.some.inj ho').symm
  · have hblk : (O.buf q z e xs).block E r = some b0 := by simp [O.block, h5, ownB]; omega
    have hpv := hst.heap.pv r _ _ hr hblk
    have hlb := hst.heap.lt r _ _ hr hblk
    have hl : Le E (E.freezeBlk b0) := by
      refine ⟨rfl, rfl, rfl, Nat.le_refl _, Nat.le_refl _, fun _ _ => rfl, fun _ _ => ⟨Nat.le_refl _, fun _ => rfl⟩, fun _ _ hs => .inl hs, fun _ _ _ => rfl, fun _ _ _ => rfl, fun b i hs => ?_, fun _ hp => .inl hp⟩
      rcases hs with hs | rfl
      · exact .inl hs
      · exact .inr (.inr hpv)
    refine fin (E.freezeBlk b0) hl ?_ ?_
    · refine hst.heap.turn (r0 := r) (o0 := .dead) hl (by simp [Env.freezeBlk, hst.heap.N]) (fun r' hr' => ?_) (fun o' ho' => ?_) (fun _ _ _ => rfl) (fun r' o' b hr' ho' hb => ⟨rfl, fun i hs => ?_⟩) (fun _ hb => hb) (fun b i hs => ?_) trivial (fun b hb => by simp [O.block] at hb)
      · rw [List.getElem?_set_ne (fun e => hr' e.symm)]
      · rw [List.getElem?_set_self (List.getElem?_eq_some_iff.1 hr).1] at ho'
        exact (Option.some.inj ho').symm
      · rcases hs with hs | rfl
        · exact hs
        · exact absurd (hst.heap.apart r' r o' _ _ ho' hr hb hblk) hr'
      · rcases hs with hs | rfl
        · exact hst.heap.Slt b i hs
        · exact hlb
    · rw [h5]
      by_cases hx : xs = []
      · subst hx; exact .nil _ _
      · refine .sl b0 0 cap z xs (fun i j => arr.getD (i * z + j) undef) hx h8 h9 h2 (fun i j hi hj => ?_) (fun i j x c hi hj => ?_)
        · have hxz := h2 xs[i] (List.getElem_mem _)
          obtain ⟨v, k2, k3, k4⟩ := h11 i j xs[i] (xs[i][j]'(by omega)) (List.getElem?_eq_getElem hi) (List.getElem?_eq_getElem _)
          refine ⟨.inr rfl, ?_, ?_⟩
          · simp only [Nat.zero_add]
            show E.w.cell? _ = _
            rw [cell_of_row _ _ _ _ _ _ h6, k2, Array.getD_eq_getD_getElem?, k2]; rfl
          · rw [Array.getD_eq_getD_getElem?, k2]; exact k3
        · obtain ⟨v, k2, k3, k4⟩ := h11 i j x c hi hj
          rw [Array.getD_eq_getD_getElem?, k2]; exact k4.le hl

end

/-- Integers as a slice's elements. -/
def intsD (zs : List Int) : List (List D) := zs.map fun n => [.int .i64 n]

theorem intsD_cells {w : World} {S : Nat → Nat → Prop} {zs : List Int} {arr : Array Value}
    (hX : ∀ (i j : Nat) (x : List D) (c : D), (intsD zs)[i]? = some x → x[j]? = some c → ∃ (v : Value), arr[i * 1 + j]? = some v ∧ v.oneCell' = true ∧ RdD w S c v) :
    arr.toList.take zs.length = zs.map (Value.int .i64) := by
  apply List.ext_getElem?
  intro i
  by_cases hi : i < zs.length
  · obtain ⟨v, h1, h2, h3⟩ := hX i 0 [.int .i64 zs[i]] (.int .i64 zs[i]) (by simp [intsD, hi]) rfl
    cases h3
    rw [List.getElem?_take, if_pos hi, Array.getElem?_toList]
    simpa [hi] using h1
  · rw [List.getElem?_take_eq_none (by omega), List.getElem?_eq_none (by simp; omega)]

/-- The library's sort of integers, on an own slice. -/
theorem sort_calls {P : Program} {f : FuncId}
    (hs : ∀ (blk off cap : Nat) (zs : List Int) (w : World), Sort.Holds (Value.int .i64) w blk off zs.toArray → blk < w.heap.size → zs.length < 4611686018427387904 →
      Calls P f #[.slice (some ⟨blk, off, none⟩) zs.length cap] w fun e w' => e = .returned (.tuple #[]) ∧ ∃ n os, w' = Sort.grow (Sort.putRow (Value.int .i64) (Sort.ahead w n) blk off (zs.mergeSort fun x y => decide (x ≤ y)).toArray) os)
    (h0 : ∀ (p : Option Addr) (cap : Nat) (w : World), Calls P f #[.slice p 0 cap] w fun e w' => e = .returned (.tuple #[]) ∧ w' = w)
    {H : List O} {r q e : Nat} {zs : List Int} (hm : zs.length < 4611686018427387904) (hr : H[r]? = some (.buf q 1 e (intsD zs))) {K : C → List O → Prop} (hk : K (.tup []) (H.set r (.buf q 1 e (intsD (zs.mergeSort fun x y => decide (x ≤ y)))))) :
    ACalls P f [.own r q] H K := by
  intro E vs hE hsz ha
  obtain ⟨v, rfl⟩ : ∃ v, vs = #[v] := by
    match vs, hsz with
    | ⟨[v]⟩, _ => exact ⟨v, rfl⟩
  obtain ⟨h1, h2, h3, h4⟩ := hE.obj r _ hr
  have hv : v = (E.τ r).2 := by
    have := ha 0 _ v rfl rfl
    cases this with
    | own _ _ _ _ _ _ hv => exact hv h1.symm
  subst hv
  have hset : ∀ (o' : O) (r' : Nat), r' ≠ r → (H.set r o')[r']? = H[r']? := fun o' r' hr' => by rw [List.getElem?_set_ne (fun e => hr' e.symm)]
  have hself : ∀ (o' o'' : O), (H.set r o')[r]? = some o'' → o'' = o' := fun o' o'' ho' => by
    rw [List.getElem?_set_self (List.getElem?_eq_some_iff.1 hr).1] at ho'
    exact (Option.some.inj ho').symm
  rcases h4 with ⟨ad, h5, hnil⟩ | ⟨b0, cap, arr, h5, h6, h7, h8, h9, h10, h11, h12⟩
  · have hz : zs = [] := by cases zs with | nil => rfl | cons => simp [intsD] at hnil
    subst hz
    rw [List.mergeSort_nil] at hk
    rw [h5]
    refine (h0 ad 0 E.w).mono ?_
    rintro e w' ⟨rfl, rfl⟩
    refine ⟨_, _, E, _, rfl, rfl, ?_, Le.refl E, .tup [] #[] rfl (fun i c v hc => by simp at hc), by simp, hk⟩
    exact hE.turn (r0 := r) (o0 := .buf q 1 _ (intsD ([] : List Int))) (Le.refl E) (by simp [hE.N]) (hset _) (hself _) (fun _ _ _ => rfl) (fun r' o' b hr' ho' hb => ⟨rfl, fun i hs => hs⟩) (fun _ hb => hb) (fun b i hs => hE.Slt b i hs) ⟨h1, h2, h3, .inl ⟨ad, h5, hnil⟩⟩ (fun b hb => by
      cases ad <;> simp [O.block, h5, ownB] at hb)
  · have hblk : (O.buf q 1 e (intsD zs)).block E r = some b0 := by simp [O.block, h5, ownB]; omega
    have hpv := hE.pv r _ _ hr hblk
    have hlb := hE.lt r _ _ hr hblk
    have hlen : (intsD zs).length = zs.length := by simp [intsD]
    have htake := intsD_cells h11
    rw [h5, hlen]
    refine (hs b0 0 cap zs E.w (holds_of_blockI h6 htake) hlb hm).mono ?_
    rintro ex w' ⟨rfl, n, os, rfl⟩
    generalize hts : (zs.mergeSort fun x y => decide (x ≤ y)) = ts at hk ⊢
    have htl : ts.length = zs.length := by rw [← hts]; simp
    have hrow := heap_sortedI (n := n) (os := os) ts.toArray h6
    obtain ⟨g1, g2, g3, g4, g5⟩ := grownBy_sortedI (w := E.w) (g := b0) (n := n) (os := os) ts.toArray
    have htk := take_putCellsI arr ts (by rw [htl]; rw [hlen] at h8; omega)
    generalize Sort.grow (Sort.putRow (Value.int .i64) (Sort.ahead E.w n) b0 0 ts.toArray) os = w' at *
    have hl : Le E { E with w := w' } := by
      refine ⟨g1, g2, g3, g4, Nat.le_refl _, fun _ _ => rfl, fun _ _ => ⟨Nat.le_refl _, fun _ => rfl⟩, fun _ _ hs => hs, fun b i hs => ?_, fun b hb hp => g5 b hb (fun e => hp (by cases e; exact hpv)), fun _ _ hs => .inl hs, fun _ hp => .inl hp⟩
      have hb := hE.Slt b i hs
      have hne : some b ≠ some b0 := fun e => by cases e; exact h12 i hs
      have := g5 b hb hne
      show w'.cell? _ = _
      simp only [World.cell?, this]
    have hat : ∀ (i : Nat) (m : Int), ts[i]? = some m → (Sort.putCells (Value.int .i64) 0 ts.toArray arr)[i]? = some (.int .i64 m) := fun i m hi => by
      have hlt := (List.getElem?_eq_some_iff.1 hi).1
      have : ((Sort.putCells (Value.int .i64) 0 ts.toArray arr).toList.take ts.length)[i]? = (ts.map (Value.int .i64))[i]? := by rw [htk]
      rw [List.getElem?_take, if_pos hlt, Array.getElem?_toList] at this
      rw [this]; simp [hi]
    refine ⟨_, _, { E with w := w' }, _, rfl, rfl, ?_, hl, .tup [] #[] rfl (fun i c v hc => by simp at hc), by simp, hk⟩
    refine hE.turn (r0 := r) (o0 := .buf q 1 e (intsD ts)) hl (by simp [hE.N]) (hset _) (hself _) (fun _ _ _ => rfl) (fun r' o' b hr' ho' hb => ⟨?_, fun i hs => hs⟩) (fun _ hb => hb) (fun b i hs => Nat.lt_of_lt_of_le (hE.Slt b i hs) g4) ⟨h1, ?_, h3, .inr ⟨b0, cap, _, ?_, hrow, h7, ?_, h9, ?_, ?_, h12⟩⟩ (fun b hb => ?_)
    · exact g5 b (hE.lt r' o' b ho' hb) (fun e => by cases e; exact hr' (hE.apart r' r o' _ _ ho' hr hb hblk))
    · intro x hx
      simp only [intsD, List.mem_map] at hx
      obtain ⟨m, _, rfl⟩ := hx; rfl
    · show (E.τ r).2 = _
      rw [h5]; simp [intsD, htl]
    · simp only [intsD, List.length_map, htl]; rw [hlen] at h8; exact h8
    · simp [Sort.putCells, h10]
    · intro i j x c hi hj
      simp only [intsD, List.getElem?_map, Option.map_eq_some_iff] at hi
      obtain ⟨m, hm, rfl⟩ := hi
      have hj0 : j = 0 := by have := (List.getElem?_eq_some_iff.1 hj).1; simp at this; exact this
      subst hj0
      simp at hj
      subst hj
      exact ⟨.int .i64 m, by simpa using hat i m hm, rfl, .int _ _⟩
    · have : b = b0 := by
        simp [O.block, h5, ownB] at hb; omega
      subst this
      exact ⟨hpv, Nat.lt_of_lt_of_le hlb g4, fun r' o' hr' ho' hb' => hr' (hE.apart r' r o' _ _ ho' hr hb' hblk)⟩

end Go.Abs
