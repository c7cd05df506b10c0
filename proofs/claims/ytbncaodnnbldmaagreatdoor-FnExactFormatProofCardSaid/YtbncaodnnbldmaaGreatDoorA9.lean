import Derived.Test.YtbncaodnnbldmaaGreatDoorA8
import Derived.Lib.LaidTab
import Derived.Lib.ItoaNum
import Derived.Sort.Grow
import Derived.Deep.Draws
import Derived.Lib.Builder
import Derived.Lib.UnsafeStr
import Derived.WalkKit
namespace Go.Abs
theorem rep_grow {E : Env} {H : List O} (h : RepH E H) (k : Nat) (os : Array Obj) :
  Le E { E with w := Sort.grow (E.w.drewN k) os } ∧ RepH { E with w := Sort.grow (E.w.drewN k) os } H := by
 have hb : ∀ b, b < E.w.heap.size → (Sort.grow (E.w.drewN k) os).heap[b]? = E.w.heap[b]? := fun b hb => by
  show (E.w.heap ++ os)[b]? = _
  exact Array.getElem?_append_left hb
 have hsz : E.w.heap.size ≤ (Sort.grow (E.w.drewN k) os).heap.size := by
  show _ ≤ (E.w.heap ++ os).size
  simp
 have hl : Le E { E with w := Sort.grow (E.w.drewN k) os } :=
  ⟨rfl, rfl, rfl, hsz, Nat.le_refl _, fun _ _ => rfl, fun _ _ => ⟨Nat.le_refl _, fun _ => rfl⟩, fun _ _ hs => hs, fun b i hs => by
   show (Sort.grow (E.w.drewN k) os).cell? _ = _
   simp only [World.cell?, hb b (h.Slt b i hs)], fun b hlt _ => hb b hlt, fun _ _ hs => .inl hs, fun _ hp => .inl hp, fun b i _ _ hs hh => (hb b (h.Slt b i hs)).trans hh⟩
 exact ⟨hl, h.keep hl rfl (fun _ _ => rfl) (fun r o b ho hbk => ⟨hb b (h.lt r o b ho hbk), fun _ hs => hs⟩) (fun _ hp => hp) (fun b i hs => Nat.lt_of_lt_of_le (h.Slt b i hs) hsz)⟩
theorem tab_is {P : Program} {w : World} {name : String} {g : Nat} {k : IntKind} {zs : List Int} (hg : P.globalNamed name = some g) (hz : zs ≠ [])
  (h : ∀ j, j ≤ (zs.map fun z => Value.int k z).length → w.cell? ⟨g, j, none⟩ = (zs.map fun z => Value.int k z)[j]?) : Lib.TabIs P w name k zs := by
 have h0 := h 0 (Nat.zero_le _)
 unfold Lib.TabIs
 simp only [World.var?, hg, Option.bind_some]
 generalize hl : (zs.map fun z => Value.int k z) = l at h h0 ⊢
 have hne : l ≠ [] := by rw [← hl]; simpa using hz
 simp only [World.cell?] at h h0
 cases hh : w.heap[g]? with
 | none => rw [hh] at h0; cases l with | nil => exact absurd rfl hne | cons => simp at h0
 | some o =>
  rw [hh] at h h0
  cases o with
  | cells cs e fz =>
   simp only at h h0 ⊢
   congr 1
   have hs : cs.size ≤ l.length := by
    have := h l.length (Nat.le_refl _)
    simp at this
    exact this
   apply Array.ext_getElem?
   intro i
   by_cases hi : i ≤ l.length
   ·have := h i hi
    simp at this
    simpa using this
   ·rw [Array.getElem?_eq_none (by omega), List.getElem?_toArray, List.getElem?_eq_none (by omega)]
  | _ => cases l with | nil => exact absurd rfl hne | cons => simp at h0
theorem itoa_calls {P : Program} {f : FuncId} {name : String} {g : Nat} {k : IntKind} {zs : List Int} {tx : Int → List UInt8}
  (hs : ∀ (n : Int), -9223372036854775808 ≤ n → n ≤ 9223372036854775807 → ∀ (w : World), Lib.TabIs P w name k zs →
   Calls P f #[.int .i64 n] w fun e w' => e = .returned (.string ⟨(tx n).toArray⟩) ∧ ∃ k os, w' = Sort.grow (w.drewN k) os)
  (hg : P.globalNamed name = some g) (hz : zs ≠ []) (n : Int) (h0 : -9223372036854775808 ≤ n) (h1 : n ≤ 9223372036854775807) :
  ACalls P f [.d (.int .i64 n)] [.tab g (zs.map fun z => Value.int k z)] (fun c H' => c = .d (.str (tx n)) ∧ H' = [.tab g (zs.map fun z => Value.int k z)]) := by
 intro E vs hE hsz ha
 obtain ⟨v, rfl⟩ : ∃ v, vs = #[v] := by
  match vs, hsz with
  | ⟨[v]⟩, _ => exact ⟨v, rfl⟩
 have hv := ha 0 _ v rfl rfl
 cases hv with
 | d _ _ hd =>
  cases hd
  have ht := hE.obj 0 _ rfl
  refine (hs n h0 h1 E.w (tab_is hg hz (fun j hj => (ht j hj).2))).mono ?_
  rintro e w' ⟨rfl, k', os, rfl⟩
  obtain ⟨hl, hH⟩ := rep_grow hE k' os
  exact ⟨_, _, _, _, rfl, rfl, hH, hl, .d _ _ (.str _), rfl, rfl, rfl⟩
end Go.Abs
namespace Go.Abs
open Go.RowKit
theorem ACalls.boolT {P : Program} {f : FuncId} {args : List D} {g : Nat} {tv : List Value} {b : Bool} (h : ACalls P f (args.map .d) [.tab g tv] (fun c H' => c = .d (.bool b) ∧ H' = [.tab g tv])) (w : World) (vs : Array Value)
  (hs : vs.size = args.length) (ha : ∀ (i : Nat) (d : D) (v : Value), args[i]? = some d → vs[i]? = some v → RdD w (fun b _ => b < w.heap.size) d v)
  (ht : ∀ j, w.cell? ⟨g, j, none⟩ = tv[j]?) (hn : tv ≠ []) : Calls P f vs w fun e w' => e = .returned (.bool b) ∧ Below w.heap.size w w' := by
 let E0 : Env := { w := w, S := fun b _ => b < w.heap.size, N := 1, β := fun _ => 0, τ := fun _ => (0, .tuple #[]), pv := fun _ => False }
 have hg : g < w.heap.size := by
  have h0 := ht 0
  rcases Nat.lt_or_ge g w.heap.size with k | k
  ·exact k
  ·exfalso
   simp only [World.cell?, Array.getElem?_eq_none k] at h0
   apply hn
   exact List.eq_nil_of_length_eq_zero (by simpa using h0.symm)
 have at0 : ∀ (r : Nat) (o : O), [O.tab g tv][r]? = some o → o = .tab g tv := fun r o ho => by
  match r with
  | 0 => simpa using ho.symm
  | _ + 1 => simp at ho
 have nb : ∀ (r : Nat) (o : O) (b : Nat), [O.tab g tv][r]? = some o → ¬ o.block E0 r b := fun r o b ho hb => by
  rw [at0 r o ho] at hb; exact hb
 have hE0 : RepH E0 [.tab g tv] := ⟨rfl, fun r o ho => by rw [at0 r o ho]; exact fun j _ => ⟨hg, ht j⟩, fun r o b ho hb => (nb r o b ho hb).elim, fun r o b ho hb => (nb r o b ho hb).elim, fun r r' o o' b ho _ hb => (nb r o b ho hb).elim, fun b i h => h⟩
 refine (h E0 vs hE0 (by simpa using hs) (fun i c v hc hv => ?_)).mono ?_
 ·simp only [List.getElem?_map, Option.map_eq_some_iff] at hc
  obtain ⟨d, hd, rfl⟩ := hc
  exact .d _ _ (ha i d v hd hv)
 ·rintro e w' ⟨v, c, E', H', rfl, rfl, h3, h4, h5, h6, rfl, rfl⟩
  cases h5 with
  | d _ _ hd => cases hd; exact ⟨rfl, h4.os, h4.tape, h4.output, h4.size, fun k hk => h4.blk k hk (fun hp => hp)⟩
end Go.Abs
namespace Go.Abs
def bytesD (l : List UInt8) : List (List D) := l.map fun b => [.int .u8 b.toNat]
theorem bytesD_len (l : List UInt8) : (bytesD l).length = l.length := by simp [bytesD]
structure Aside (w w' : World) (v v' : Value) : Prop where
 os : w'.os = w.os
 tape : w'.tape = w.tape
 output : w'.output = w.output
 size : w.heap.size ≤ w'.heap.size
 blk : ∀ b, b < w.heap.size → ownB v ≠ some b → w'.heap[b]? = w.heap[b]?
 new : ∀ b, ownB v' = some b → ownB v = some b ∨ w.heap.size ≤ b
theorem RowB.block {w : World} {e : TypeId} {v : Value} {bs : List UInt8} (h : RowB w e v bs) {b : Nat} (hb : ownB v = some b) : b < w.heap.size := by
 rcases h with ⟨a, rfl, _⟩ | ⟨g, cap, arr, rfl, h2, h3, h4, _⟩
 ·cases a <;> simp [ownB] at hb
 ·have := List.length_pos_iff.2 h3
  simp [ownB] at hb
  obtain ⟨_, rfl⟩ := hb
  exact (Array.getElem?_eq_some_iff.1 h2).1
theorem RowB.same {w w' : World} {e : TypeId} {v : Value} {bs : List UInt8} (h : RowB w e v bs) (hw : ∀ b, ownB v = some b → w'.heap[b]? = w.heap[b]?) : RowB w' e v bs := by
 rcases h with h | ⟨g, cap, arr, rfl, h2, h3, h4, h5⟩
 ·exact .inl h
 ·have := List.length_pos_iff.2 h3
  exact .inr ⟨g, cap, arr, rfl, by rw [hw g (by simp [ownB]; omega)]; exact h2, h3, h4, h5⟩
theorem append_row {P : Program} {w : World} {t u ty e : TypeId} {by_ : Nat} (ht : tSlice P t = some (e, 1, by_)) (hu : tIsStr P u = true) {v : Value} {bs l : List UInt8} (h : RowB w e v bs)
  (hm : bs.length + l.length ≤ maxLen) (hby : (bs.length + l.length) * by_ ≤ 140737488355328) :
  ∃ v' w', (Builtin.append_ #[t, u] ty #[v, .string ⟨l.toArray⟩]).run P w = .ok v' w' ∧ RowB w' e v' (bs ++ l) ∧ Aside w w' v v' := by
 let E : Env := { w := w, S := fun b _ => b < w.heap.size ∧ ownB v ≠ some b, N := 1, β := fun _ => 0, τ := fun _ => (0, v), pv := fun b => ownB v = some b }
 have at0 : ∀ (r : Nat) (o : O), [O.buf 0 1 e (bytesD bs)][r]? = some o → r = 0 ∧ o = .buf 0 1 e (bytesD bs) := fun r o ho => by
  match r with
  | 0 => simp at ho; exact ⟨rfl, ho.symm⟩
  | _ + 1 => simp at ho
 have hE : RepH E [.buf 0 1 e (bytesD bs)] := by
  refine ⟨rfl, fun r o ho => ?_, fun r o b ho hb => ?_, fun r o b ho hb => ?_, fun r r' o o' b ho ho' _ _ => by rw [(at0 r o ho).1, (at0 r' o' ho').1], fun b i hs => hs.1⟩
  ·obtain ⟨rfl, rfl⟩ := at0 r o ho
   refine ⟨rfl, fun x hx => by simp only [bytesD, List.mem_map] at hx; obtain ⟨_, _, rfl⟩ := hx; rfl, by decide, ?_⟩
   rcases h with ⟨a, h1, rfl⟩ | ⟨g, cap, arr, h1, h2, h3, h4, h5, h6, h7⟩
   ·exact .inl ⟨a, h1, rfl⟩
   ·have := List.length_pos_iff.2 h3
    refine .inr ⟨g, cap, arr, by rw [bytesD_len]; exact h1, h2, by simpa [bytesD] using h3, by rw [bytesD_len]; exact h4, h5, by rw [h6, Nat.mul_one], fun i j x c hi hj => ?_, fun i hs => hs.2 (by rw [h1]; simp [ownB]; omega)⟩
    simp only [bytesD, List.getElem?_map, Option.map_eq_some_iff] at hi
    obtain ⟨y, hy, rfl⟩ := hi
    have hj0 : j = 0 := by have := (List.getElem?_eq_some_iff.1 hj).1; simp at this; exact this
    subst hj0
    simp at hj
    subst hj
    exact ⟨_, by simpa using h7 i y hy, rfl, .int _ _⟩
  ·obtain ⟨rfl, rfl⟩ := at0 r o ho; exact hb
  ·obtain ⟨rfl, rfl⟩ := at0 r o ho; exact h.block hb
 have hs := src_str (P := P) (E := E) (l := l) hu
 obtain ⟨L, hL, hfx⟩ := hs.cells
 obtain ⟨v', E', k1, k2, k3, k4, k5⟩ := append_buf (P := P) (ty := ty) (xs := bytesD bs) (q := 0) (r0 := 0) hE ht hs.plain rfl (x := .string ⟨l.toArray⟩) hL hs.len hfx (by simpa [bytesD_len] using hm) (by simpa [bytesD_len] using hby)
 have hobj := k3.obj 0 _ rfl
 obtain ⟨g1, g2, g3, g4⟩ := hobj
 rw [k4] at g4
 have happ : bytesD bs ++ l.map (fun b => [D.int .u8 b.toNat]) = bytesD (bs ++ l) := by simp [bytesD]
 rw [happ] at g4 k3
 refine ⟨v', E'.w, k1, ?_, k2.os, k2.tape, k2.output, k2.size, fun b hb hne => k2.blk b hb hne, fun b hb => k2.newP b (k3.pv 0 _ b rfl (by simp only [O.block, k4]; exact hb))⟩
 rcases g4 with ⟨a, a1, a2⟩ | ⟨g, cap, arr, a1, a2, a3, a4, a5, a6, a7, a8⟩
 ·refine .inl ⟨a, a1, ?_⟩
  have := congrArg List.length a2
  rw [bytesD_len] at this
  exact List.length_eq_zero_iff.1 (by simpa using this)
 ·rw [bytesD_len] at a1 a4
  refine .inr ⟨g, cap, arr, a1, a2, fun e0 => a3 (by simp [bytesD, e0]), a4, a5, by simpa using a6, fun j x hx => ?_⟩
  obtain ⟨u, c1, _, c3⟩ := a7 j 0 [.int .u8 x.toNat] (.int .u8 x.toNat) (by simp only [bytesD, List.getElem?_map, hx]; rfl) rfl
  cases c3
  simpa using c1
theorem wp_append_row {P : Program} {ops : Array Oper} {rest : List Oper} {o : Oper} {a : Act} {w : World} {Q : Exit → Act → World → Prop} (hgd : o.guard = none) (sl x : Operand) (t u : TypeId)
  (ho : o.op = .call { callee := .builtin .append, args := #[sl, x], argTypes := #[t, u] }) {e : TypeId} {by_ : Nat} (ht : tSlice P t = some (e, 1, by_)) (hu : tIsStr P u = true)
  {v : Value} {bs l : List UInt8} (hs : a.eval sl = v) (h : RowB w e v bs) (hx : a.eval x = .string ⟨l.toArray⟩) (hm : bs.length + l.length ≤ maxLen) (hby : (bs.length + l.length) * by_ ≤ 140737488355328)
  (hk : ∀ v' w', RowB w' e v' (bs ++ l) → Aside w w' v v' → wpList P ops Q rest (a.put o.dst v') w') : wpList P ops Q (o :: rest) a w := by
 refine wpList_plain hgd fun K hK => ?_
 obtain ⟨v', w', hr, h2, h3⟩ := append_row (ty := o.type) ht hu h hm hby
 unfold Oper.wp execOp
 simp only [ho, resolve, invoke, builtin, Sem.run_bind, Sem.run_pure, Result.andThen_ok, List.map_toArray, List.map_cons, List.map_nil, hs, hx, hr]
 exact hK _ _ (hk v' w' h2 h3)
def Env.wrote (E : Env) (w' : World) (r : Nat) (v : Value) : Env := { E with w := w', τ := fun x => if x = r then ((E.τ r).1 + 1, v) else E.τ x, pv := fun b => E.pv b ∨ (E.w.heap.size ≤ b ∧ ownB v = some b) }
theorem bws_calls {P : Program} {f : FuncId} {T e : TypeId} {by_ : Nat}
  (hs : ∀ (b : Nat) (p v : Value) (bs l : List UInt8) (w : World), (p = .pointer none ∨ p = .pointer (some ⟨b, 0, none⟩)) → w.heap[b]? = some (.cells #[p, v] T (0, 0)) → RowB w e v bs → ownB v ≠ some b →
   bs.length + l.length ≤ maxLen → (bs.length + l.length) * by_ ≤ 140737488355328 →
   Calls P f #[.pointer (some ⟨b, 0, none⟩), .string ⟨l.toArray⟩] w fun ex w' => ex = .returned (.tuple #[.int .i64 l.length, .nilIface]) ∧
    ∃ v' w2, w' = w2.setCell ⟨b, 1, none⟩ v' ∧ w2.heap[b]? = some (.cells #[.pointer (some ⟨b, 0, none⟩), v] T (0, 0)) ∧ RowB w2 e v' (bs ++ l) ∧
     w2.os = w.os ∧ w2.tape = w.tape ∧ w2.output = w.output ∧ w.heap.size ≤ w2.heap.size ∧ (∀ k, k < w.heap.size → k ≠ b → ownB v ≠ some k → w2.heap[k]? = w.heap[k]?) ∧
     (∀ k, ownB v' = some k → ownB v = some k ∨ w.heap.size ≤ k))
  {H : List O} {r : Nat} {bs l : List UInt8} (hr : H[r]? = some (.bld T e bs)) (hm : bs.length + l.length ≤ maxLen) (hby : (bs.length + l.length) * by_ ≤ 140737488355328)
  {K : C → List O → Prop} (hk : K (.tup [.d (.int .i64 l.length), .top]) (H.set r (.bld T e (bs ++ l)))) :
  ACalls P f [.ptr r 0, .d (.str l)] H K := by
 intro E vs hE hsz ha
 obtain ⟨x, y, rfl⟩ : ∃ x y, vs = #[x, y] := by
  match vs, hsz with
  | ⟨[x, y]⟩, _ => exact ⟨x, y, rfl⟩
 have hx := ha 0 _ x rfl rfl
 have hy := ha 1 _ y rfl rfl
 cases hx with
 | ptr _ _ hrN =>
 cases hy with
 | d _ _ hd =>
 cases hd
 obtain ⟨p, h1, h2, h3, h4, h5⟩ := hE.obj r _ hr
 have hbb := hE.lt r _ (E.β r) hr (.inl rfl)
 refine (hs (E.β r) p (E.τ r).2 bs l E.w h1 h2 h3 h4 hm hby).mono ?_
 rintro ex w' ⟨rfl, v', w2, rfl, g1, g2, g3, g4, g5, g6, g7, g8⟩
 have hb2 : E.β r < w2.heap.size := Nat.lt_of_lt_of_le hbb g6
 have hself : (w2.setCell ⟨E.β r, 1, none⟩ v').heap[E.β r]? = some (.cells #[.pointer (some ⟨E.β r, 0, none⟩), v'] T (0, 0)) := by rw [heap_setCell_same _ _ _ _ _ _ g1]; rfl
 have hoth : ∀ k, k ≠ E.β r → (w2.setCell ⟨E.β r, 1, none⟩ v').heap[k]? = w2.heap[k]? := fun k hk => heap_setCell_other _ _ _ _ hk
 have hne : ownB v' ≠ some (E.β r) := fun e => by
  rcases g8 _ e with h | h
  ·exact h4 h
  ·omega
 have hold : ∀ k, k < E.w.heap.size → k ≠ E.β r → ownB (E.τ r).2 ≠ some k → (w2.setCell ⟨E.β r, 1, none⟩ v').heap[k]? = E.w.heap[k]? := fun k hk h6 h7 => (hoth k h6).trans (g7 k hk h6 h7)
 have hns : ∀ b i, E.S b i → b ≠ E.β r ∧ ownB (E.τ r).2 ≠ some b := fun b i hs => ⟨fun e => h5 b (.inl e.symm) i hs, fun e => h5 b (.inr e) i hs⟩
 have hl : Le E (E.wrote (w2.setCell ⟨E.β r, 1, none⟩ v') r v') := by
  refine ⟨g3, g4, g5, by simpa [Env.wrote] using g6, Nat.le_refl _, fun _ _ => rfl, fun r' hr' => ?_, fun _ _ hs => hs, fun b i hs => ?_, fun b hb hp => ?_, fun _ _ hs => .inl hs, fun b hp => ?_, fun b i arr n hs hh => ?_⟩
  ·simp only [Env.wrote]
   by_cases e : r' = r
   ·subst e; rw [if_pos rfl]; exact ⟨Nat.le_succ _, fun h => by simp at h⟩
   ·rw [if_neg e]; exact ⟨Nat.le_refl _, fun _ => rfl⟩
  ·obtain ⟨k1, k2⟩ := hns b i hs
   show (w2.setCell _ _).cell? _ = _
   simp only [World.cell?, hold b (hE.Slt b i hs) k1 k2]
  ·exact hold b hb (fun e => hp (hE.pv r _ b hr (.inl e.symm))) (fun e => hp (hE.pv r _ b hr (.inr e)))
  ·rcases hp with hp | hp
   ·exact .inl hp
   ·exact .inr hp.1
  ·obtain ⟨k1, k2⟩ := hns b i hs
   exact (hold b (hE.Slt b i hs) k1 k2).trans hh
 have hset : ∀ r', r' ≠ r → (H.set r (.bld T e (bs ++ l)))[r']? = H[r']? := fun r' hr' => by rw [List.getElem?_set_ne (fun e => hr' e.symm)]
 refine ⟨_, _, E.wrote (w2.setCell ⟨E.β r, 1, none⟩ v') r v', _, rfl, rfl, ?_, hl, .tup _ _ rfl (fun i c v hc hv => ?_), by simp, hk⟩
 ·refine hE.turn (r0 := r) (o0 := .bld T e (bs ++ l)) hl (by simp [Env.wrote, hE.N]) hset (fun o' ho' => ?_) (fun r' hne _ => ?_) (fun r' o' b hr' ho' hb => ⟨?_, fun i hs => hs⟩) (fun b hb => .inl hb) (fun b i hs => Nat.lt_of_lt_of_le (hE.Slt b i hs) (by simpa [Env.wrote] using g6)) ⟨.pointer (some ⟨E.β r, 0, none⟩), .inr rfl, ?_, ?_, ?_, ?_⟩ (fun b hb => ?_)
  ·rw [List.getElem?_set_self (List.getElem?_eq_some_iff.1 hr).1] at ho'
   exact (Option.some.inj ho').symm
  ·simp only [Env.wrote]; rw [if_neg hne]
  ·exact hold b (hE.lt r' o' b ho' hb) (fun e => hr' (hE.apart r' r o' _ b ho' hr hb (.inl e.symm))) (fun e => hr' (hE.apart r' r o' _ b ho' hr hb (.inr e)))
  ·simp only [Env.wrote, if_pos]; exact hself
  ·simp only [Env.wrote, if_pos]
   exact g2.same fun k hk => hoth k (fun e => hne (by rw [← e]; exact hk))
  ·simp only [Env.wrote, if_pos]; exact hne
  ·intro b hb i hs
   simp only [Env.wrote, if_pos] at hb
   obtain ⟨k1, k2⟩ := hns b i hs
   rcases hb with hb | hb
   ·exact k1 hb.symm
   ·rcases g8 b hb with h | h
    ·exact k2 h
    ·have := hE.Slt b i hs; omega
  ·simp only [O.block, Env.wrote, if_pos] at hb
   rcases hb with rfl | hb
   ·exact ⟨.inl (hE.pv r _ _ hr (.inl rfl)), by simpa [Env.wrote] using hb2, fun r' o' hr' ho' hb' => hr' (hE.apart r' r o' _ _ ho' hr hb' (.inl rfl))⟩
   ·have hlt2 : b < w2.heap.size := g2.block hb
    refine ⟨?_, by simpa [Env.wrote] using hlt2, fun r' o' hr' ho' hb' => ?_⟩
    ·rcases g8 b hb with h | h
     ·exact .inl (hE.pv r _ _ hr (.inr h))
     ·exact .inr ⟨h, hb⟩
    ·rcases g8 b hb with h | h
     ·exact hr' (hE.apart r' r o' _ _ ho' hr hb' (.inr h))
     ·have := hE.lt r' o' b ho' hb'; omega
 ·match i, hc, hv with
  | 0, hc, hv => simp at hc hv; subst hc; subst hv; exact .d _ _ (.int _ _)
  | 1, hc, hv => simp at hc hv; subst hc; subst hv; exact .top _
theorem bstr_calls {P : Program} {f : FuncId} {T e : TypeId}
  (hs : ∀ (b g cap : Nat) (p : Value) (cur : Array Value) (l : List UInt8) (w : World), w.heap[b]? = some (.cells #[p, .slice (some ⟨g, 0, none⟩) l.length cap] T (0, 0)) → w.heap[g]? = some (.cells cur e (0, 0)) →
   l ≠ [] → l.length ≤ cap → cap ≤ maxLen → cur.size = cap → (∀ (j : Nat) (x : UInt8), l[j]? = some x → cur[j]? = some (.int .u8 x.toNat)) →
   Calls P f #[.pointer (some ⟨b, 0, none⟩)] w fun e w' => e = .returned (.string ⟨l.toArray⟩) ∧ w' = w.drew.freeze ⟨g, 0, none⟩ l.length)
  {H : List O} {r : Nat} {l : List UInt8} (hr : H[r]? = some (.bld T e l)) (h0 : l ≠ []) {K : C → List O → Prop} (hk : K (.d (.str l)) (H.set r .dead)) :
  ACalls P f [.ptr r 0] H K := by
 intro E vs hE hsz ha
 obtain ⟨v, rfl⟩ : ∃ v, vs = #[v] := by
  match vs, hsz with
  | ⟨[v]⟩, _ => exact ⟨v, rfl⟩
 have hv := ha 0 _ v rfl rfl
 cases hv with
 | ptr _ _ hrN =>
 obtain ⟨p, h1, h2, h3, h4, h5⟩ := hE.obj r _ hr
 rcases h3 with ⟨_, _, e0⟩ | ⟨b0, cap, arr, k1, k2, k3, k4, k5, k6, k7⟩
 ·exact absurd e0 h0
 ·have hlen := List.length_pos_iff.2 h0
  have hown : ownB (E.τ r).2 = some b0 := by rw [k1]; simp [ownB]; omega
  have hpv := hE.pv r _ b0 hr (.inr hown)
  rw [k1] at h2
  refine (hs (E.β r) b0 cap p arr l E.w h2 k2 h0 k4 k5 k6 k7).mono ?_
  rintro ex w' ⟨rfl, rfl⟩
  have hold : ∀ b, b ≠ b0 → (E.w.drew.freeze ⟨b0, 0, none⟩ l.length).heap[b]? = E.w.heap[b]? := fun b hb => by
   unfold World.freeze
   split
   ·rfl
   ·simp only [Array.getElem?_modify]
    rw [if_neg (fun e => hb e.symm)]
    rfl
  have hsize : (E.w.drew.freeze ⟨b0, 0, none⟩ l.length).heap.size = E.w.heap.size := by
   unfold World.freeze
   split
   ·rfl
   ·rw [Array.size_modify]; rfl
  have hos : (E.w.drew.freeze ⟨b0, 0, none⟩ l.length).os = E.w.os ∧ (E.w.drew.freeze ⟨b0, 0, none⟩ l.length).tape = E.w.tape ∧ (E.w.drew.freeze ⟨b0, 0, none⟩ l.length).output = E.w.output := by
   unfold World.freeze
   split <;> exact ⟨rfl, rfl, rfl⟩
  have hns : ∀ i, ¬ E.S b0 i := h5 b0 (.inr hown)
  have hl : Le E { E with w := E.w.drew.freeze ⟨b0, 0, none⟩ l.length } := by
   refine ⟨hos.1, hos.2.1, hos.2.2, Nat.le_of_eq hsize.symm, Nat.le_refl _, fun _ _ => rfl, fun _ _ => ⟨Nat.le_refl _, fun _ => rfl⟩, fun _ _ hs => hs, fun b i hs => ?_, fun b hb hp => hold b (fun e => hp (by subst e; exact hpv)), fun _ _ hs => .inl hs, fun _ hp => .inl hp, fun b i a n hs hh => (hold b (fun e => hns i (by subst e; exact hs))).trans hh⟩
   show (E.w.drew.freeze _ _).cell? _ = _
   simp only [World.cell?, hold b (fun e => hns i (by subst e; exact hs))]
  refine ⟨_, _, { E with w := E.w.drew.freeze ⟨b0, 0, none⟩ l.length }, _, rfl, rfl, ?_, hl, .d _ _ (.str _), by simp, hk⟩
  refine hE.turn (r0 := r) (o0 := .dead) hl (by simp [hE.N]) (fun r' hr' => ?_) (fun o' ho' => ?_) (fun _ _ _ => rfl) (fun r' o' b hr' ho' hb => ⟨?_, fun i hs => hs⟩) (fun _ hb => hb) (fun b i hs => Nat.lt_of_lt_of_le (hE.Slt b i hs) (Nat.le_of_eq hsize.symm)) trivial (fun b hb => by simp [O.block] at hb)
  ·rw [List.getElem?_set_ne (fun e => hr' e.symm)]
  ·rw [List.getElem?_set_self (List.getElem?_eq_some_iff.1 hr).1] at ho'
   exact (Option.some.inj ho').symm
  ·exact hold b (fun e => hr' (hE.apart r' r o' _ _ ho' hr hb (.inr (by rw [hown, e]))))
end Go.Abs
namespace Go.Abs
def Env.newBld (E : Env) (T : TypeId) (v : Value) : Env := { E.newObj (.cells #[.pointer none, v] T) with τ := fun r => if r = E.N then (0, v) else E.τ r }
theorem rep_newBld {E : Env} {H : List O} (h : RepH E H) (T e : TypeId) (ad : Option Addr) : Le E (E.newBld T (.slice ad 0 0)) ∧ RepH (E.newBld T (.slice ad 0 0)) (H ++ [.bld T e []]) := by
 have hl0 := le_newObj h (.cells #[.pointer none, .slice ad 0 0] T)
 have hl : Le E (E.newBld T (.slice ad 0 0)) :=
  ⟨hl0.os, hl0.tape, hl0.output, hl0.size, hl0.N, hl0.β, fun r hr => by simp only [Env.newBld]; rw [if_neg (by omega)]; exact ⟨Nat.le_refl _, fun _ => rfl⟩, fun b i hs => hl0.S b i hs, hl0.cell, hl0.blk, hl0.newS, hl0.newP, hl0.map⟩
 have hβ : (E.newBld T (.slice ad 0 0)).β H.length = E.w.heap.size := by simp [Env.newBld, Env.newObj, h.N]
 have hτ : (E.newBld T (.slice ad 0 0)).τ H.length = (0, .slice ad 0 0) := by simp [Env.newBld, h.N]
 have hnone : ownB (.slice ad 0 0) = none := by cases ad <;> simp [ownB]
 refine ⟨hl, h.turn (r0 := H.length) (o0 := .bld T e []) hl (by simp [Env.newBld, Env.newObj, h.N]) (fun r hr => ?_) (fun o ho => ?_) (fun r hr hr' => ?_) (fun r o b hr ho hb => ?_) (fun b hb => .inl hb) (fun b i hs => ?_) ?_ (fun b hb => ?_)⟩
 ·by_cases hlt : r < H.length
  ·rw [List.getElem?_append_left hlt]
  ·rw [List.getElem?_eq_none (by simp; omega), List.getElem?_eq_none (by omega)]
 ·simpa using ho.symm
 ·simp only [Env.newBld]; rw [if_neg (by omega)]
 ·exact ⟨heap_alloc_old E.w _ (h.lt r o b ho hb), fun i hs => hs⟩
 ·have := h.Slt b i hs
  simp only [Env.newBld, Env.newObj, World.size_alloc]; omega
 ·refine ⟨.pointer none, .inl rfl, ?_, ?_, ?_, fun b hb i hs => ?_⟩
  ·rw [hβ, hτ]; exact heap_alloc_new E.w _
  ·rw [hτ]; exact .inl ⟨ad, rfl, rfl⟩
  ·rw [hτ, hnone]; simp
  ·rw [hβ, hτ, hnone] at hb
   rcases hb with rfl | hb
   ·have := h.Slt _ i hs; omega
   ·cases hb
 ·simp only [O.block, hβ, hτ, hnone] at hb
  rcases hb with rfl | hb
  ·refine ⟨.inr rfl, by simp [Env.newBld, Env.newObj], fun r o hr ho hb => ?_⟩
   have := h.lt r o _ ho hb
   omega
  ·cases hb
theorem effOk_bld {P : Program} {s : St} {o : Oper} {K : C → List O → Prop} {T : TypeId} {x : Operand} (e : TypeId) (ho : o.op = .box T x) (hx : okOperand x = true) (hc : ev s x = .agg [.nilp, .nil0])
  (hk : K (.ptr s.H.length 0) (s.H ++ [.bld T e []])) : EffOk P s o K := by
 intro E n a hst
 have hv := rd_ev hst x hx
 rw [hc] at hv
 unfold Oper.wp execOp
 simp only [ho, Instr.box, newVar, newRow, Sem.run_bind, run_newObj, Result.andThen_ok, Sem.run_pure, Oper.upon]
 generalize a.eval x = v at hv
 cases hv with
 | agg _ vs hl h1 hr =>
  obtain ⟨p, q, rfl⟩ : ∃ p q, vs = #[p, q] := by
   match vs, hl with
   | ⟨[p, q]⟩, _ => exact ⟨p, q, rfl⟩
  have hp := hr 0 _ p rfl rfl
  have hq := hr 1 _ q rfl rfl
  cases hp
  cases hq with
  | nil0 ad =>
   obtain ⟨g1, g2⟩ := rep_newBld hst.heap T e ad
   refine ⟨_, E.newBld T (.slice ad 0 0), _, _, rfl, rfl, ?_, g2, g1, hk⟩
   have e1 : (⟨E.w.heap.size, 0, none⟩ : Addr) = ⟨(E.newBld T (.slice ad 0 0)).β s.H.length, 0, none⟩ := by
    simp [Env.newBld, Env.newObj, hst.heap.N]
   rw [e1]
   exact .ptr _ _ (by simp [Env.newBld, Env.newObj, hst.heap.N])
section
variable {P : Program} {f : FuncId} {n n0 : Nat} {R : C → List O → Prop}
theorem wpOps_cons {ops : Array Oper} {o : Oper} {i : Nat} {l : List Nat} {s : St} {E0 E : Env} {a : Act} {K : St → Prop} (hi : ops[i]? = some o) (hg : o.guard = none) {K1 : C → List O → Prop} (he : EffOk P s o K1)
  (hst : RepSt E n s a) (hd : ∀ d, o.dst = some d → d < n) (hle : Le E0 E)
  (hk : ∀ c H', K1 c H' → ∀ (E' : Env) (a' : Act), RepSt E' n (put { s with H := H' } o.dst c) a' → Le E0 E' → wpOps P ops (Behind n E0 K) l a' E'.w) : wpOps P ops (Behind n E0 K) (i :: l) a E.w := by
 simp only [wpOps, hi]
 have hw : Region.wanted o (yielded ops a.tmps) = true := by simp [Region.wanted, hg]
 rw [if_pos hw]
 refine .inl ?_
 have hw := he E n a hst
 unfold Oper.wp at hw ⊢
 generalize (execOp a.eval o).run P E.w = r at hw ⊢
 have key : ∀ a' w', (∃ v E' c H', a' = a.put o.dst v ∧ E'.w = w' ∧ Rd E' c v ∧ RepH E' H' ∧ Le E E' ∧ K1 c H') → wpOps P ops (Behind n E0 K) l a' w' := by
  rintro a' w' ⟨v, E', c, H', rfl, rfl, h1, h2, h3, h4⟩
  exact hk c H' h4 E' _ (hst.put h3 h2 hd h1) (hle.trans h3)
 cases r with
 | ok x w' =>
  cases x <;> simp only [Oper.upon] at hw ⊢ <;> first
   | exact key _ _ hw
   | exact Calls.mono hw (fun e w'' he => by cases e <;> first | exact key _ _ he | exact he.elim | (obtain ⟨_, _, h⟩ := he; exact h.elim))
   | exact Rows.mono hw (fun _ _ he => key _ _ he)
   | exact hw
 | halt x w' => cases x <;> simp only [Oper.upon] at hw
theorem AW.newBld {id : Nat} {ops : Array Oper} {k : List Item} {s : St} {o1 o2 : Oper} {os : List Oper} {T d1 d2 : Nat} (e : TypeId) (hops : ops.toList = o1 :: o2 :: os) (hg1 : o1.guard = none) (hg2 : o2.guard = none)
  (hd1 : o1.dst = some d1) (hn1 : d1 < n) (ho2 : o2.op = .box T (.tmp d1)) (hd2 : o2.dst = some d2) (hn2 : d2 < n) (h1 : vcEff P s o1 (fun c H' => c = .agg [.nilp, .nil0] ∧ H' = s.H))
  (h : vcR P n ops (fun s' => AW P f n n0 R k s') os ⟨(d2, .ptr s.H.length 0) :: (d1, .agg [.nilp, .nil0]) :: s.σ, s.H ++ [.bld T e []]⟩) : AW P f n n0 R (.code (.region id ops false) :: k) s := by
 refine AW.of_behind (k' := k) fun _ E a b cs hst => ?_
 have hl : (List.range ops.size).map (ops[·]?) = (o1 :: o2 :: os).map some := by
  rw [← hops]
  apply List.ext_getElem?
  intro j
  simp only [List.getElem?_map]
  by_cases hj : j < ops.size
  ·rw [List.getElem?_range hj]
   simp [hj]
  ·rw [List.getElem?_eq_none (by simpa using hj), List.getElem?_eq_none (by simpa using hj)]
   rfl
 have hw : wpOps P ops (Behind n E fun s' => AW P f n n0 R k s') (List.range ops.size) a E.w := by
  generalize List.range ops.size = l at hl
  match l, hl with
  | [], hl => simp at hl
  | [_], hl => simp at hl
  | i1 :: i2 :: l', hl =>
   simp only [List.map_cons, List.cons.injEq] at hl
   obtain ⟨e1, e2, e3⟩ := hl
   refine wpOps_cons e1 hg1 (vcEff_sound h1) hst (fun d hd => by rw [hd1] at hd; cases hd; exact hn1) (Le.refl E) ?_
   rintro c H' ⟨rfl, rfl⟩ E1 a1 hst1 hl1
   rw [hd1] at hst1
   have hst1 : RepSt E1 n ⟨(d1, .agg [.nilp, .nil0]) :: s.σ, s.H⟩ a1 := hst1
   refine wpOps_cons e2 hg2 (effOk_bld (s := ⟨(d1, .agg [.nilp, .nil0]) :: s.σ, s.H⟩) (K := fun c H' => c = .ptr s.H.length 0 ∧ H' = s.H ++ [.bld T e []]) e ho2 rfl (by simp [ev, get]) ⟨rfl, rfl⟩) hst1 (fun d hd => by rw [hd2] at hd; cases hd; exact hn2) hl1 ?_
   rintro c H' ⟨rfl, rfl⟩ E2 a2 hst2 hl2
   rw [hd2] at hst2
   exact vcR_sound os l' _ E E2 a2 e3 hst2 hl2 h
 obtain ⟨e, a', w', ⟨rfl, E', s', rfl, h1, h2, h3⟩, harr⟩ := wp_region (id := id) hw b k cs
 exact ⟨a', E', s', harr, h1, h2, h3⟩
end
end Go.Abs
namespace Go.Abs
theorem tr_flat {w : World} {S : Nat → Nat → Prop} {d : D} {v : Value} {B : Nat → Prop} (hf : d.flat = true) (h : Tr w d v B) : RdD w S d v := by
 cases h with
 | int k n => exact .int k n
 | bool b => exact .bool b
 | str s => exact .str s
 | nil a cap => exact .nil a cap
 | sl b cap z e xs arr val Bs hne => cases xs with | nil => exact absurd rfl hne | cons => simp [D.flat] at hf
section
variable {P : Program} {f : FuncId} {n n0 : Nat} {R : C → List O → Prop}
theorem AW.treeB {k : List Item} {s : St} (r : Nat) {q z e : Nat} {xs : List (List D)} {B : Nat → Prop} (hr : s.H[r]? = some (.tree q z e xs B none)) (hf : ∀ x, x ∈ xs → ∀ d, d ∈ x → d.flat = true)
  (h : AW P f n n0 R k ⟨s.σ, s.H.set r (.buf q z e xs)⟩) : AW P f n n0 R k s := by
 refine AW.recast (s' := ⟨s.σ, s.H.set r (.buf q z e xs)⟩) (fun h0 E a hst => ?_)
 refine ⟨E, rfl, Le.refl E, ⟨hst.size, hst.defers, ?_, hst.slot⟩, h⟩
 obtain ⟨h1, h2, h3, h3', h4⟩ := hst.heap.obj r _ hr
 refine hst.heap.turn (r0 := r) (o0 := .buf q z e xs) (Le.refl _) (by rw [List.length_set]; exact hst.heap.N) (fun r' hr' => by rw [List.getElem?_set_ne (Ne.symm hr')]) (fun o' ho' => ?_) (fun _ _ _ => rfl) (fun r' o' b' hr' ho' hb => ⟨rfl, fun i hs => hs⟩) (fun _ hb => hb) (fun b i hs => hst.heap.Slt b i hs) ?_ (fun b' hb => ?_)
 ·rw [List.getElem?_set_self (List.getElem?_eq_some_iff.1 hr).1] at ho'
  exact (Option.some.inj ho').symm
 ·refine ⟨h1, h2, h3, ?_⟩
  rcases h4 with h4 | ⟨b, cap, arr, k1, k2, k3, k4, k5, k6, ⟨val, Bs, k7, _, _⟩, _, k8, _⟩
  ·exact .inl h4
  ·refine .inr ⟨b, cap, arr, k1, k2, k3, k4, k5, k6, fun i j x c hi hj => ?_, k8⟩
   obtain ⟨m1, m2, m3⟩ := k7 i j x c hi hj
   exact ⟨_, m1, m2, tr_flat (hf x (List.mem_of_getElem? hi) c (List.mem_of_getElem? hj)) (m3 (by simp [lent]))⟩
 ·have hb' : (O.tree q z e xs B none).block E r b' := .inl hb
  exact ⟨hst.heap.pv r _ b' hr hb', hst.heap.lt r _ b' hr hb', fun r' o' hr' ho' hb2 => hr' (hst.heap.apart r' r o' _ b' ho' hr hb2 hb')⟩
end
end Go.Abs
namespace Go.Abs
section
variable {P : Program} {n : Nat} {md : Region.Mode} {ops : Array Oper}
def vcTlL (P : Program) (n : Nat) (ops : Array Oper) (K : St → Prop) : List Nat → St → Prop
 | [], ⟨σ, H⟩ => K ⟨σ, H⟩
 | i :: r, ⟨σ, H⟩ => match ops[i]? with
  | none => False
  | some o => okDst n o = true ∧ o.guard = none ∧ vcOpL P ⟨σ, H⟩ o (kR (vcTlL P n ops K r) ⟨σ, H⟩ o.dst)
theorem vcTlL_sound {K : St → Prop} {E0 : Env} : ∀ (π : List Nat) (listed : Array Bool) (s : St) (E : Env) (a : Act), okTail md ops π listed = true → RepSt E n s a → Le E0 E → vcTlL P n ops K π s →
  wpAny P md ops (Behind n E0 K) π.length listed a E.w
 | [], listed, s, E, a, hB, hst, hle, h => ⟨by simpa [okTail] using hB, rfl, E, s, rfl, hst, hle, h⟩
 | i :: r, listed, s, E, a, hB, hst, hle, h => by
  simp only [okTail, Bool.and_eq_true, Bool.or_eq_true, decide_eq_true_eq] at hB
  obtain ⟨hr, hB⟩ := hB
  simp only [List.length_cons]
  unfold vcTlL at h
  rcases hr with hr | ⟨⟨⟨hf, hsel⟩, hfree⟩, hrd⟩
  ·refine ⟨fun h0 => by rw [hr] at h0; simp at h0, fun j hj => ?_⟩
   rw [hr] at hj; simp at hj; subst hj
   cases ho : ops[j]? with
   | none => simp only [ho] at h
   | some o =>
    simp only [ho] at h
    obtain ⟨hd, hg, h⟩ := h
    have hdst : ∀ d, o.dst = some d → d < n := fun d hd' => by
     unfold okDst at hd
     rw [hd'] at hd
     simpa using hd
    refine wpOp_of (n := n) ho hg ((vcOpL_sound h).run hst (fun v E' c H' h1 h2 h3 h4 => ?_))
    exact vcTlL_sound r _ _ E' _ hB (hst.put h3 h2 hdst h1) (hle.trans h3) h4
  ·cases ho : ops[i]? with
   | none => simp only [ho] at h
   | some o =>
    simp only [ho] at h hf
    obtain ⟨hd, hg, h⟩ := h
    have hdst : ∀ d, o.dst = some d → d < n := fun d hd' => by
     unfold okDst at hd
     rw [hd'] at hd
     simpa using hd
    unfold floatOp at hf
    split at hf
    ·rename_i x0 k hop
     generalize hx0 : Operand.tmp x0 = x at hop
     have h' := h
     unfold vcOpL at h'
     simp only [hop] at h'
     unfold vcOpT vcEff vcPure kAt at h'
     simp only [hop] at h'
     obtain ⟨hx, h2⟩ := h'
     have hv := rd_ev hst x hx
     split at h2
     ·rename_i cs hcs
      obtain ⟨hk, hK⟩ := h2
      rw [hcs] at hv
      generalize hval : a.eval x = vv at hv
      cases hv with
      | tup _ vs hl hr2 =>
       have hvs : vs[k]? = some (vs[k]'(by omega)) := Array.getElem?_eq_getElem _
       have hrc := hr2 k (cs.getD k .top) _ (by rw [List.getD_eq_getElem?_getD, List.getElem?_eq_getElem hk]; rfl) hvs
       have hy : Go.Yields P ops o (vs[k]'(by omega)) a := by
        refine .inl ⟨?_, fun w => ?_⟩
        ·unfold Region.wanted; rw [hg]
        ·simp [execOp, hop, Instr.extract, hval, hvs]
       refine wpAny_take ho hsel hfree hrd (fun c a' w hq => by obtain ⟨h0, _⟩ := hq; cases h0) hy ?_
       exact vcTlL_sound r _ _ E _ hB (hst.put (Le.refl E) hst.heap hdst hrc) hle hK
     ·exact h2.elim
    ·cases hf
theorem AW.drawL {f : FuncId} {n0 : Nat} {R : C → List O → Prop} {id : Nat} {k : List Item} {s : St} (hm : P.follows .mixedOrders = true) (LA : Array Bool) (F : List (Nat × O)) (X π πB : List Nat) (al : Option (Nat × Tmp × TypeId × List Value))
  (hB : okDraw n ops LA X π πB al = true) (hz : zeroOk P al) (hF : holdsB F s.H) (h : vcA P n ops F X (fun s' => vcTlL P n ops (AW P f n n0 R k) πB (adoptV s' al)) π s) :
  AW P f n n0 R (.code (.region id ops true) :: k) s :=
 AW.drawG (fun s' => vcTlL P n ops (AW P f n n0 R k) πB s') hm LA F X π πB al (fun s' E0 E a hb hst hl h => vcTlL_sound πB LA s' E a hb hst hl h) hB hz hF h
end
attribute [go_sem] vcTlL.eq_1 vcTlL.eq_2
end Go.Abs
