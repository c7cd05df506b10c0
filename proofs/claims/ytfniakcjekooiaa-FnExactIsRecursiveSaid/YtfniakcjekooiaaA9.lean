import Derived.Test.YtfniakcjekooiaaA8
import Derived.Lib.LaidTab
import Derived.Lib.ItoaNum
import Derived.Sort.Grow
import Derived.Deep.Draws
import Derived.Lib.Builder
import Derived.Lib.UnsafeStr
import Derived.WalkKit
namespace Go.Abs
theorem rep_grow {E : Env} {H : List O} (h : RepH E H) (k : Nat) (os : Array Obj) :
  Le E { E with w := Sort.grow (E.w.drewN k) os } ∧ RepH { E with w := Sort.grow (E.w.drewN k) os } H := by
 have hb : ∀ b, b < E.w.heap.size → (Sort.grow (E.w.drewN k) os).heap[b]? = E.w.heap[b]? := fun b hb => by
  show (E.w.heap ++ os)[b]? = _
  exact Array.getElem?_append_left hb
 have hsz : E.w.heap.size ≤ (Sort.grow (E.w.drewN k) os).heap.size := by
  show _ ≤ (E.w.heap ++ os).size
  simp
 have hl : Le E { E with w := Sort.grow (E.w.drewN k) os } :=
  ⟨rfl, rfl, rfl, hsz, Nat.le_refl _, fun _ _ => rfl, fun _ _ => ⟨Nat.le_refl _, fun _ => rfl⟩, fun _ _ hs => hs, fun b i hs => by
   show (Sort.grow (E.w.drewN k) os).cell? _ = _
   simp only [World.cell?, hb b (h.Slt b i hs)], fun b hlt _ => hb b hlt, fun _ _ hs => .inl hs, fun _ hp => .inl hp, fun b i _ _ hs hh => (hb b (h.Slt b i hs)).trans hh⟩
 exact ⟨hl, h.keep hl rfl (fun _ _ => rfl) (fun r o b ho hbk => ⟨hb b (h.lt r o b ho hbk), fun _ hs => hs⟩) (fun _ hp => hp) (fun b i hs => Nat.lt_of_lt_of_le (h.Slt b i hs) hsz)⟩
theorem tab_is {P : Program} {w : World} {name : String} {g : Nat} {k : IntKind} {zs : List Int} (hg : P.globalNamed name = some g) (hz : zs ≠ [])
  (h : ∀ j, j ≤ (zs.map fun z => Value.int k z).length → w.cell? ⟨g, j, none⟩ = (zs.map fun z => Value.int k z)[j]?) : Lib.TabIs P w name k zs := by
 have h0 := h 0 (Nat.zero_le _)
 unfold Lib.TabIs
 simp only [World.var?, hg, Option.bind_some]
 generalize hl : (zs.map fun z => Value.int k z) = l at h h0 ⊢
 have hne : l ≠ [] := by rw [← hl]; simpa using hz
 simp only [World.cell?] at h h0
 cases hh : w.heap[g]? with
 | none => rw [hh] at h0; cases l with | nil => exact absurd rfl hne | cons => simp at h0
 | some o =>
  rw [hh] at h h0
  cases o with
  | cells cs e fz =>
   simp only at h h0 ⊢
   congr 1
   have hs : cs.size ≤ l.length := by
    have := h l.length (Nat.le_refl _)
    simp at this
    exact this
   apply Array.ext_getElem?
   intro i
   by_cases hi : i ≤ l.length
   ·have := h i hi
    simp at this
    simpa using this
   ·rw [Array.getElem?_eq_none (by omega), List.getElem?_toArray, List.getElem?_eq_none (by omega)]
  | _ => cases l with | nil => exact absurd rfl hne | cons => simp at h0
theorem itoa_calls {P : Program} {f : FuncId} {name : String} {g : Nat} {k : IntKind} {zs : List Int} {tx : Int → List UInt8}
  (hs : ∀ (n : Int), -9223372036854775808 ≤ n → n ≤ 9223372036854775807 → ∀ (w : World), Lib.TabIs P w name k zs →
   Calls P f #[.int .i64 n] w fun e w' => e = .returned (.string ⟨(tx n).toArray⟩) ∧ ∃ k os, w' = Sort.grow (w.drewN k) os)
  (hg : P.globalNamed name = some g) (hz : zs ≠ []) (n : Int) (h0 : -9223372036854775808 ≤ n) (h1 : n ≤ 9223372036854775807) :
  ACalls P f [.d (.int .i64 n)] [.tab g (zs.map fun z => Value.int k z)] (fun c H' => c = .d (.str (tx n)) ∧ H' = [.tab g (zs.map fun z => Value.int k z)]) := by
 intro E vs hE hsz ha
 obtain ⟨v, rfl⟩ : ∃ v, vs = #[v] := by
  match vs, hsz with
  | ⟨[v]⟩, _ => exact ⟨v, rfl⟩
 have hv := ha 0 _ v rfl rfl
 cases hv with
 | d _ _ hd =>
  cases hd
  have ht := hE.obj 0 _ rfl
  refine (hs n h0 h1 E.w (tab_is hg hz (fun j hj => (ht j hj).2))).mono ?_
  rintro e w' ⟨rfl, k', os, rfl⟩
  obtain ⟨hl, hH⟩ := rep_grow hE k' os
  exact ⟨_, _, _, _, rfl, rfl, hH, hl, .d _ _ (.str _), rfl, rfl, rfl⟩
end Go.Abs
namespace Go.Abs
open Go.RowKit
end Go.Abs
namespace Go.Abs
theorem RowB.block {w : World} {e : TypeId} {v : Value} {bs : List UInt8} (h : RowB w e v bs) {b : Nat} (hb : ownB v = some b) : b < w.heap.size := by
 rcases h with ⟨a, rfl, _⟩ | ⟨g, cap, arr, rfl, h2, h3, h4, _⟩
 ·cases a <;> simp [ownB] at hb
 ·have := List.length_pos_iff.2 h3
  simp [ownB] at hb
  obtain ⟨_, rfl⟩ := hb
  exact (Array.getElem?_eq_some_iff.1 h2).1
theorem RowB.same {w w' : World} {e : TypeId} {v : Value} {bs : List UInt8} (h : RowB w e v bs) (hw : ∀ b, ownB v = some b → w'.heap[b]? = w.heap[b]?) : RowB w' e v bs := by
 rcases h with h | ⟨g, cap, arr, rfl, h2, h3, h4, h5⟩
 ·exact .inl h
 ·have := List.length_pos_iff.2 h3
  exact .inr ⟨g, cap, arr, rfl, by rw [hw g (by simp [ownB]; omega)]; exact h2, h3, h4, h5⟩
theorem bstr_calls {P : Program} {f : FuncId} {T e : TypeId}
  (hs : ∀ (b g cap : Nat) (p : Value) (cur : Array Value) (l : List UInt8) (w : World), w.heap[b]? = some (.cells #[p, .slice (some ⟨g, 0, none⟩) l.length cap] T (0, 0)) → w.heap[g]? = some (.cells cur e (0, 0)) →
   l ≠ [] → l.length ≤ cap → cap ≤ maxLen → cur.size = cap → (∀ (j : Nat) (x : UInt8), l[j]? = some x → cur[j]? = some (.int .u8 x.toNat)) →
   Calls P f #[.pointer (some ⟨b, 0, none⟩)] w fun e w' => e = .returned (.string ⟨l.toArray⟩) ∧ w' = w.drew.freeze ⟨g, 0, none⟩ l.length)
  {H : List O} {r : Nat} {l : List UInt8} (hr : H[r]? = some (.bld T e l)) (h0 : l ≠ []) {K : C → List O → Prop} (hk : K (.d (.str l)) (H.set r .dead)) :
  ACalls P f [.ptr r 0] H K := by
 intro E vs hE hsz ha
 obtain ⟨v, rfl⟩ : ∃ v, vs = #[v] := by
  match vs, hsz with
  | ⟨[v]⟩, _ => exact ⟨v, rfl⟩
 have hv := ha 0 _ v rfl rfl
 cases hv with
 | ptr _ _ hrN =>
 obtain ⟨p, h1, h2, h3, h4, h5⟩ := hE.obj r _ hr
 rcases h3 with ⟨_, _, e0⟩ | ⟨b0, cap, arr, k1, k2, k3, k4, k5, k6, k7⟩
 ·exact absurd e0 h0
 ·have hlen := List.length_pos_iff.2 h0
  have hown : ownB (E.τ r).2 = some b0 := by rw [k1]; simp [ownB]; omega
  have hpv := hE.pv r _ b0 hr (.inr hown)
  rw [k1] at h2
  refine (hs (E.β r) b0 cap p arr l E.w h2 k2 h0 k4 k5 k6 k7).mono ?_
  rintro ex w' ⟨rfl, rfl⟩
  have hold : ∀ b, b ≠ b0 → (E.w.drew.freeze ⟨b0, 0, none⟩ l.length).heap[b]? = E.w.heap[b]? := fun b hb => by
   unfold World.freeze
   split
   ·rfl
   ·simp only [Array.getElem?_modify]
    rw [if_neg (fun e => hb e.symm)]
    rfl
  have hsize : (E.w.drew.freeze ⟨b0, 0, none⟩ l.length).heap.size = E.w.heap.size := by
   unfold World.freeze
   split
   ·rfl
   ·rw [Array.size_modify]; rfl
  have hos : (E.w.drew.freeze ⟨b0, 0, none⟩ l.length).os = E.w.os ∧ (E.w.drew.freeze ⟨b0, 0, none⟩ l.length).tape = E.w.tape ∧ (E.w.drew.freeze ⟨b0, 0, none⟩ l.length).output = E.w.output := by
   unfold World.freeze
   split <;> exact ⟨rfl, rfl, rfl⟩
  have hns : ∀ i, ¬ E.S b0 i := h5 b0 (.inr hown)
  have hl : Le E { E with w := E.w.drew.freeze ⟨b0, 0, none⟩ l.length } := by
   refine ⟨hos.1, hos.2.1, hos.2.2, Nat.le_of_eq hsize.symm, Nat.le_refl _, fun _ _ => rfl, fun _ _ => ⟨Nat.le_refl _, fun _ => rfl⟩, fun _ _ hs => hs, fun b i hs => ?_, fun b hb hp => hold b (fun e => hp (by subst e; exact hpv)), fun _ _ hs => .inl hs, fun _ hp => .inl hp, fun b i a n hs hh => (hold b (fun e => hns i (by subst e; exact hs))).trans hh⟩
   show (E.w.drew.freeze _ _).cell? _ = _
   simp only [World.cell?, hold b (fun e => hns i (by subst e; exact hs))]
  refine ⟨_, _, { E with w := E.w.drew.freeze ⟨b0, 0, none⟩ l.length }, _, rfl, rfl, ?_, hl, .d _ _ (.str _), by simp, hk⟩
  refine hE.turn (r0 := r) (o0 := .dead) hl (by simp [hE.N]) (fun r' hr' => ?_) (fun o' ho' => ?_) (fun _ _ _ => rfl) (fun r' o' b hr' ho' hb => ⟨?_, fun i hs => hs⟩) (fun _ hb => hb) (fun b i hs => Nat.lt_of_lt_of_le (hE.Slt b i hs) (Nat.le_of_eq hsize.symm)) trivial (fun b hb => by simp [O.block] at hb)
  ·rw [List.getElem?_set_ne (fun e => hr' e.symm)]
  ·rw [List.getElem?_set_self (List.getElem?_eq_some_iff.1 hr).1] at ho'
   exact (Option.some.inj ho').symm
  ·exact hold b (fun e => hr' (hE.apart r' r o' _ _ ho' hr hb (.inr (by rw [hown, e]))))
end Go.Abs
namespace Go.Abs
section
variable {P : Program} {f : FuncId} {n n0 : Nat} {R : C → List O → Prop}
theorem wpOps_cons {ops : Array Oper} {o : Oper} {i : Nat} {l : List Nat} {s : St} {E0 E : Env} {a : Act} {K : St → Prop} (hi : ops[i]? = some o) (hg : o.guard = none) {K1 : C → List O → Prop} (he : EffOk P s o K1)
  (hst : RepSt E n s a) (hd : ∀ d, o.dst = some d → d < n) (hle : Le E0 E)
  (hk : ∀ c H', K1 c H' → ∀ (E' : Env) (a' : Act), RepSt E' n (put { s with H := H' } o.dst c) a' → Le E0 E' → wpOps P ops (Behind n E0 K) l a' E'.w) : wpOps P ops (Behind n E0 K) (i :: l) a E.w := by
 simp only [wpOps, hi]
 have hw : Region.wanted o (yielded ops a.tmps) = true := by simp [Region.wanted, hg]
 rw [if_pos hw]
 refine .inl ?_
 have hw := he E n a hst
 unfold Oper.wp at hw ⊢
 generalize (execOp a.eval o).run P E.w = r at hw ⊢
 have key : ∀ a' w', (∃ v E' c H', a' = a.put o.dst v ∧ E'.w = w' ∧ Rd E' c v ∧ RepH E' H' ∧ Le E E' ∧ K1 c H') → wpOps P ops (Behind n E0 K) l a' w' := by
  rintro a' w' ⟨v, E', c, H', rfl, rfl, h1, h2, h3, h4⟩
  exact hk c H' h4 E' _ (hst.put h3 h2 hd h1) (hle.trans h3)
 cases r with
 | ok x w' =>
  cases x <;> simp only [Oper.upon] at hw ⊢ <;> first
   | exact key _ _ hw
   | exact Calls.mono hw (fun e w'' he => by cases e <;> first | exact key _ _ he | exact he.elim | (obtain ⟨_, _, h⟩ := he; exact h.elim))
   | exact Rows.mono hw (fun _ _ he => key _ _ he)
   | exact hw
 | halt x w' => cases x <;> simp only [Oper.upon] at hw
end
end Go.Abs
namespace Go.Abs
section
variable {P : Program} {f : FuncId} {n n0 : Nat} {R : C → List O → Prop}
end
end Go.Abs
namespace Go.Abs
section
variable {P : Program} {n : Nat} {md : Region.Mode} {ops : Array Oper}
def vcTlL (P : Program) (n : Nat) (ops : Array Oper) (K : St → Prop) : List Nat → St → Prop
 | [], ⟨σ, H⟩ => K ⟨σ, H⟩
 | i :: r, ⟨σ, H⟩ => match ops[i]? with
  | none => False
  | some o => okDst n o = true ∧ o.guard = none ∧ vcOpL P ⟨σ, H⟩ o (kR (vcTlL P n ops K r) ⟨σ, H⟩ o.dst)
end
attribute [go_sem] vcTlL.eq_1 vcTlL.eq_2
end Go.Abs
namespace Go.Abs
section
variable {P : Program} {f : FuncId} {n n0 : Nat} {R : C → List O → Prop}
theorem AW.toQue {k : List Item} {s : St} (r : Nat) {q z e : Nat} {xs : List (List D)} (hr : s.H[r]? = some (.grow q z e xs))
  (h : AW P f n n0 R k ⟨s.σ, s.H.set r (.que q z e xs)⟩) : AW P f n n0 R k s := by
 refine AW.recast (s' := ⟨s.σ, s.H.set r (.que q z e xs)⟩) (fun h0 E a hst => ?_)
 exact ⟨E, rfl, Le.refl E, ⟨hst.size, hst.defers, rep_que hst.heap hr, hst.slot⟩, h⟩
end
end Go.Abs
