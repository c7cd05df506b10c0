import Derived.Test.YtfniakcjekooiaaA8
import Derived.Lib.LaidTab
import Derived.Lib.ItoaNum
import Derived.Sort.Grow
import Derived.Deep.Draws
import Derived.Lib.Builder
import Derived.Lib.UnsafeStr
import Derived.WalkKit
namespace Go.Abs
theorem rep_grow {E : Env} {H : List O} (h : RepH E H) (k : Nat) (os : Array Obj) :
  Le E { E with w := Sort.grow (E.w.drewN k) os } ∧ RepH { E with w := Sort.grow (E.w.drewN k) os } H := by
 have hb : ∀ b, b < E.w.heap.size → (Sort.grow (E.w.drewN k) os).heap[b]? = E.w.heap[b]? := fun b hb => by
  show (E.w.heap ++ os)[b]? = _
  exact Array.getElem?_append_left hb
 have hsz : E.w.heap.size ≤ (Sort.grow (E.w.drewN k) os).heap.size := by
  show _ ≤ (E.w.heap ++ os).size
  simp
 have hl : Le E { E with w := Sort.grow (E.w.drewN k) os } :=
  ⟨rfl, rfl, rfl, hsz, Nat.le_refl _, fun _ _ => rfl, fun _ _ => ⟨Nat.le_refl _, fun _ => rfl⟩, fun _ _ hs => hs, fun b i hs => by
   show (Sort.grow (E.w.drewN k) os).cell? _ = _
   simp only [World.cell?, hb b (h.Slt b i hs)], fun b hlt _ => hb b hlt, fun _ _ hs => .inl hs, fun _ hp => .inl hp, fun b i _ _ hs hh => (hb b (h.Slt b i hs)).trans hh⟩
 exact ⟨hl, h.keep hl rfl (fun _ _ => rfl) (fun r o b ho hbk => ⟨hb b (h.lt r o b ho hbk), fun _ hs => hs⟩) (fun _ hp => hp) (fun b i hs => Nat.lt_of_lt_of_le (h.Slt b i hs) hsz)⟩
theorem tab_is {P : Program} {w : World} {name : String} {g : Nat} {k : IntKind} {zs : List Int} (hg : P.globalNamed name = some g) (hz : zs ≠ [])
  (h : ∀ j, j ≤ (zs.map fun z => Value.int k z).length → w.cell? ⟨g, j, none⟩ = (zs.map fun z => Value.int k z)[j]?) : Lib.TabIs P w name k zs := by
 have h0 := h 0 (Nat.zero_le _)
 unfold Lib.TabIs
 simp only [World.var?, hg, Option.bind_some]
 generalize hl : (zs.map fun z => Value.int k z) = l at h h0 ⊢
 have hne : l ≠ [] := by rw [← hl]; simpa using hz
 simp only [World.cell?] at h h0
 cases hh : w.heap[g]? with
 | none => rw [hh] at h0; cases l with | nil => exact absurd rfl hne | cons => simp at h0
 | some o =>
  rw [hh] at h h0
  cases o with
  | cells cs e fz =>
   simp only at h h0 ⊢
   congr 1
   have hs : cs.size ≤ l.length := by
    have := h l.length (Nat.le_refl _)
    simp at this
    exact this
   apply Array.ext_getElem?
   intro i
   by_cases hi : i ≤ l.length
   ·have := h i hi
    simp at this
    simpa using this
   ·rw [Array.getElem?_eq_none (by omega), List.getElem?_toArray, List.getElem?_eq_none (by omega)]
  | _ => cases l with | nil => exact absurd rfl hne | cons => simp at h0
theorem itoa_calls {P : Program} {f : FuncId} {name : String} {g : Nat} {k : IntKind} {zs : List Int} {tx : Int → List UInt8}
  (hs : ∀ (n : Int), -9223372036854775808 ≤ n → n ≤ 9223372036854775807 → ∀ (w : World), Lib.TabIs P w name k zs →
   Calls P f #[.int .i64 n] w fun e w' => e = .returned (.string ⟨(tx n).toArray⟩) ∧ ∃ k os, w' = Sort.grow (w.drewN k) os)
  (hg : P.globalNamed name = some g) (hz : zs ≠ []) (n : Int) (h0 : -9223372036854775808 ≤ n) (h1 : n ≤ 9223372036854775807) :
  ACalls P f [.d (.int .i64 n)] [.tab g (zs.map fun z => Value.int k z)] (fun c H' => c = .d (.str (tx n)) ∧ H' = [.tab g (zs.map fun z => Value.int k z)]) := by
 intro E vs hE hsz ha
 obtain ⟨v, rfl⟩ : ∃ v, vs = #[v] := by
  match vs, hsz with
  | ⟨[v]⟩, _ => exact ⟨v, rfl⟩
 have hv := ha 0 _ v rfl rfl
 cases hv with
 | d _ _ hd =>
  cases hd
  have ht := hE.obj 0 _ rfl
  refine (hs n h0 h1 E.w (tab_is hg hz (fun j hj => (ht j hj).2))).mono ?_
  rintro e w' ⟨rfl, k', os, rfl⟩
  obtain ⟨hl, hH⟩ := rep_grow hE k' os
  exact ⟨_, _, _, _, rfl, rfl, hH, hl, .d _ _ (.str _), rfl, rfl, rfl⟩
end Go.Abs
namespace Go.Abs
open Go.RowKit
end Go.Abs
namespace Go.Abs
theorem RowB.block {w : World} {e : TypeId} {v : Value} {bs : List UInt8} (h : RowB w e v bs) {b : Nat} (hb : ownB v = some b) : b < w.heap.size := by
 rcases h with ⟨a, rfl, _⟩ | ⟨g, cap, arr, rfl, h2, h3, h4, _⟩
 ·cases a <;> simp [ownB] at hb
 ·have := List.length_pos_iff.2 h3
  simp [ownB] at hb
  obtain ⟨_, rfl⟩ := hb
  exact (Array.getElem?_eq_some_iff.1 h2).1
theorem RowB.same {w w' : World} {e : TypeId} {v : Value} {bs : List UInt8} (h : RowB w e v bs) (hw : ∀ b, ownB v = some b → w'.heap[b]? = w.heap[b]?) : RowB w' e v bs := by
 rcases h with h | ⟨g, cap, arr, rfl, h2, h3, h4, h5⟩
 ·exact .inl h
 ·have := List.length_pos_iff.2 h3
  exact .inr ⟨g, cap, arr, rfl, by rw [hw g (by simp [ownB]; omega)]; exact h2, h3, h4, h5⟩
theorem bstr_calls {P : Program} {f : FuncId} {T e : TypeId}
  (hs : ∀ (b g cap : Nat) (p : Value) (cur : Array Value) (l : List UInt8) (w : World), w.heap[b]? = some (.cells #[p, .slice (some ⟨g, 0, none⟩) l.length cap] T (0, 0)) → w.heap[g]? = some (.cells cur e (0, 0)) →
   l ≠ [] → l.length ≤ cap → cap ≤ maxLen → cur.size = cap → (∀ (j : Nat) (x : UInt8), l[j]? = some x → cur[j]? = some (.int .u8 x.toNat)) →
   Calls P f #[.pointer (some ⟨b, 0, none⟩)] w fun e w' => e = .returned (.string ⟨l.toArray⟩) ∧ w' = w.drew.freeze ⟨g, 0, none⟩ l.length)
  {H : List O} {r : Nat} {l : List UInt8} (hr : H[r]? = some (.bld T e l)) (h0 : l ≠ []) {K : C → List O → Prop} (hk : K (.d (.str l)) (H.set r .dead)) :
  ACalls P f [.ptr r 0] H K := by
 intro E vs hE hsz ha
 obtain ⟨v, rfl⟩ : ∃ v, vs = #[v] := by
  match vs, hsz with
  | ⟨[v]⟩, _ => exact ⟨v, rfl⟩
 have hv := ha 0 _ v rfl rfl
 cases hv with
 | ptr _ _ hrN =>
 obtain ⟨p, h1, h2, h3, h4, h5⟩ := hE.obj r _ hr
 rcases h3 with ⟨_, _, e0⟩ | ⟨b0, cap, arr, k1, k2, k3, k4, k5, k6, k7⟩
 ·exact absurd e0 h0
 ·have hlen := List.length_pos_iff.2 h0
  have hown : ownB (E.τ r).2 = some b0 := by rw [k1]; simp [ownB]; omega
  have hpv := hE.pv r _ b0 hr (.inr hown)
  rw [k1] at h2
  refine (hs (E.β r) b0 cap p arr l E.w h2 k2 h0 k4 k5 k6 k7).mono ?_
  rintro ex w' ⟨rfl, rfl⟩
  have hold : ∀ b, b ≠ b0 → (E.w.drew.freeze ⟨b0, 0, none⟩ l.length).heap[b]? = E.w.heap[b]? := fun b hb => by
   unfold World.freeze
   split
   ·rfl
   ·simp only [Array.getElem?_modify]
    rw [if_neg (fun e => hb e.symm)]
    rfl
  have hsize : (E.w.drew.freeze ⟨b0, 0, none⟩ l.length).heap.size = E.w.heap.size := by
   unfold World.freeze
   split
   ·rfl
   ·rw [Array.size_modify]; rfl
  have hos : (E.w.drew.freeze ⟨b0, 0, none⟩ l.length).os = E.w.os ∧ (E.w.drew.freeze ⟨b0, 0, none⟩ l.length).tape = E.w.tape ∧ (E.w.drew.freeze ⟨b0, 0, none⟩ l.length).output = E.w.output := by
   unfold World.freeze
   split <;> exact ⟨rfl, rfl, rfl⟩
  have hns : ∀ i, ¬ E.S b0 i := h5 b0 (.inr hown)
  have hl : Le E { E with w := E.w.drew.freeze ⟨b0, 0, none⟩ l.length } := by
   refine ⟨hos.1, hos.2.1, hos.2.2, Nat.le_of_eq hsize.symm, Nat.le_refl _, fun _ _ => rfl, fun _ _ => ⟨Nat.le_refl _, fun _ => rfl⟩, fun _ _ hs => hs, fun b i hs => ?_, fun b hb hp => hold b (fun e => hp (by subst e; exact hpv)), fun _ _ hs => .inl hs, fun _ hp => .inl hp, fun b i a n hs hh => (hold b (fun e => hns i (by subst e; exact hs))).trans hh⟩
   show (E.w.drew.freeze _ _).cell? _ = _
   simp only [World.cell?, hold b (fun e => hns i (by subst e; exact hs))]
  refine ⟨_, _, { E with w := E.w.drew.freeze ⟨b0, 0, none⟩ l.length }, _, rfl, rfl, ?_, hl, .d _ _ (.str _), by simp, hk⟩
  refine hE.turn (r0 := r) (o0 := .dead) hl (by simp [hE.N]) (fun r' hr' => ?_) (fun o' ho' => ?_) (fun _ _ _ => rfl) (fun r' o' b hr' ho' hb => ⟨?_, fun i hs => hs⟩) (fun _ hb => hb) (fun b i hs => Nat.lt_of_lt_of_le (hE.Slt b i hs) (Nat.le_of_eq hsize.symm)) trivial (fun b hb => by simp [O.block] at hb)
  ·rw [List.getElem?_set_ne (fun e => hr' e.symm)]
  ·rw [List.getElem?_set_self (List.getElem?_eq_some_iff.1 hr).1] at ho'
   exact (Option.some.inj ho').symm
  ·exact hold b (fun e => hr' (hE.apart r' r o' _ _ ho' hr hb (.inr (by rw [hown, e]))))
end Go.Abs
namespace Go.Abs
section
variable {P : Program} {f : FuncId} {n n0 : Nat} {R : C → List O → Prop}
theorem wpOps_cons {ops : Array Oper} {o : Oper} {i : Nat} {l : List Nat} {s : St} {E0 E : Env} {a : Act} {K : St → Prop} (hi : ops[i]? = some o) (hg : o.guard = none) {K1 : C → List O → Prop} (he : EffOk P s o K1)
  (hst : RepSt E n s a) (hd : ∀ d, o.dst = some d → d < n) (hle : Le E0 E)
  (hk : ∀ c H', K1 c H' → ∀ (E' : Env) (a' : Act), RepSt E' n (put { s with H := H' } o.dst c) a' → Le E0 E' → wpOps P ops (Behind n E0 K) l a' E'.w) : wpOps P ops (Behind n E0 K) (i :: l) a E.w := by
 simp only [wpOps, hi]
 have hw : Region.wanted o (yielded ops a.tmps) = true := by simp [Region.wanted, hg]
 rw [if_pos hw]
 refine .inl ?_
 have hw := he E n a hst
 unfold Oper.wp at hw ⊢
 generalize (execOp a.eval o).run P E.w = r at hw ⊢
 have key : ∀ a' w', (∃ v E' c H', a' = a.put o.dst v ∧ E'.w = w' ∧ Rd E' c v ∧ RepH E' H' ∧ Le E E' ∧ K1 c H') → wpOps P ops (Behind n E0 K) l a' w' := by
  rintro a' w' ⟨v, E', c, H', rfl, rfl, h1, h2, h3, h4⟩
  exact hk c H' h4 E' _ (hst.put h3 h2 hd h1) (hle.trans h3)
 cases r with
 | ok x w' =>
  cases x <;> simp only [Oper.upon] at hw ⊢ <;> first
   | exact key _ _ hw
   | exact Calls.mono hw (fun e w'' he => by cases e <;> first | exact key _ _ he | exact he.elim | (obtain ⟨_, _, h⟩ := he; exact h.elim))
   | exact Rows.mono hw (fun _ _ he => key _ _ he)
   | exact hw
 | halt x w' => cases x <;> simp only [Oper.upon] at hw
end
end Go.Abs
namespace Go.Abs
section
variable {P : Program} {f : FuncId} {n n0 : Nat} {R : C → List O → Prop}
end
end Go.Abs
namespace Go.Abs
section
variable {P : Program} {n : Nat} {md : Region.Mode} {ops : Array Oper}
def vcTlL (P : Program) (n : Nat) (ops : Array Oper) (K : St → Prop) : List Nat → St → Prop
 | [], ⟨σ, H⟩ => K ⟨σ, H⟩
 | i :: r, ⟨σ, H⟩ => match ops[i]? with
  | none => False
  | some o => okDst n o = true ∧ o.guard = none ∧ vcOpL P ⟨σ, H⟩ o (kR (vcTlL P n ops K r) ⟨σ, H⟩ o.dst)
end
attribute [go_sem] vcTlL.eq_1 vcTlL.eq_2
end Go.Abs
namespace Go.Abs
section
variable {P : Program} {f : FuncId} {n n0 : Nat} {R : C → List O → Prop}
theorem AW.toQue {k : List Item} {s : St} (r : Nat) {q z e : Nat} {xs : List (List D)} (hr : s.H[r]? = some (.grow q z e xs))
  (h : AW P f n n0 R k ⟨s.σ, s.H.set r (.que q z e xs)⟩) : AW P f n n0 R k s := by
 refine AW.recast (s' := ⟨s.σ, s.H.set r (.que q z e xs)⟩) (fun h0 E a hst => ?_)
 exact ⟨E, rfl, Le.refl E, ⟨hst.size, hst.defers, rep_que hst.heap hr, hst.slot⟩, h⟩
end
end Go.Abs
namespace Go.Abs
set_option maxHeartbeats 2000000
set_option linter.unusedVariables false
theorem RepH.link {E : Env} {H : List O} (h : RepH E H) {r q z e i off N qn n cap b : Nat} {xs : List (List D)} {B : Nat → Prop} {x : List D} {c : D} {arr : Array Value} (ho : H[r]? = some (.tree q z e xs B none)) (hx : xs[i]? = some x)
  (hv : (E.τ r).2 = .slice (some ⟨b, 0, none⟩) n cap) (hb : E.w.heap[b]? = some (.cells arr e (0, 0))) (ha : arr[i * z + off]? = some (E.τ N).2) (hN : N < E.N) (hq : (E.τ N).1 = qn) :
  RepH E (H.set r (.tree q z e (xs.set i (x.set off c)) B (some (i, off, N, qn)))) := by
 have hrl := (List.getElem?_eq_some_iff.1 ho).1
 have hil := (List.getElem?_eq_some_iff.1 hx).1
 obtain ⟨h1, h2, h3, h4, h5⟩ := h.obj r _ ho
 refine h.turn (r0 := r) (o0 := .tree q z e (xs.set i (x.set off c)) B (some (i, off, N, qn))) (Le.refl E) (by simp [h.N]) (fun r' hr' => ?_) (fun o' ho' => ?_) (fun _ _ _ => rfl) (fun r' o' b hr' ho' hb => ⟨rfl, fun i hs => hs⟩) (fun _ hb => hb) (fun b i hs => h.Slt b i hs) ?_ (fun b' hb' => ?_)
 ·rw [List.getElem?_set_ne (fun e => hr' e.symm)]
 ·rw [List.getElem?_set_self hrl] at ho'
  exact (Option.some.inj ho').symm
 ·rcases h5 with ⟨a, k1, rfl⟩ | ⟨b', cap', arr', k1, k2, k3, k4, k5, k6, k7, k8, k9, _⟩
  ·simp at hx
  rw [hv] at k1
  cases k1
  rw [hb] at k2
  cases k2
  obtain ⟨val, Bs, m1, m2, m3⟩ := k7
  refine ⟨h1, fun y hy => ?_, h3, h4, .inr ⟨b, cap, arr, by rw [List.length_set]; exact hv, hb, by intro e; apply k3; simpa using e, by simpa using k4, k5, k6, ⟨val, Bs, fun i' j' y d hy hd => ?_, m2, m3⟩, k8, k9, ⟨hN, by omega, fun _ => ha⟩⟩⟩
  ·rcases List.mem_or_eq_of_mem_set hy with hy | rfl
   ·exact h2 y hy
   ·rw [List.length_set]; exact h2 x (List.mem_of_getElem? hx)
  ·by_cases ei : i' = i
   ·subst ei
    rw [List.getElem?_set_self hil] at hy
    cases hy
    by_cases ej : j' = off
    ·subst ej
     have hjl := (List.getElem?_eq_some_iff.1 hd).1
     rw [List.length_set] at hjl
     obtain ⟨g1, g2, _⟩ := m1 i' j' x _ hx (List.getElem?_eq_getElem hjl)
     exact ⟨g1, g2, fun hl => absurd ⟨rfl, rfl⟩ hl⟩
    ·rw [List.getElem?_set_ne (fun e => ej e.symm)] at hd
     obtain ⟨g1, g2, g3⟩ := m1 i' j' x d hx hd
     exact ⟨g1, g2, fun _ => g3 (fun h => h)⟩
   ·rw [List.getElem?_set_ne (fun e => ei e.symm)] at hy
    obtain ⟨g1, g2, g3⟩ := m1 i' j' y d hy hd
    exact ⟨g1, g2, fun _ => g3 (fun h => h)⟩
 ·exact ⟨h.pv r _ b' ho hb', h.lt r _ b' ho hb', fun r' o' hr' ho' hb3 => hr' (h.apart r' r o' _ b' ho' ho hb3 hb')⟩
section
variable {P : Program}
theorem slice_cells {E : Env} {H : List O} (h : RepH E H) {N q z e : Nat} {xs : List (List D)} {B : Nat → Prop} (ho : H[N]? = some (.tree q z e xs B none)) : (E.τ N).2.cells = #[(E.τ N).2] ∧ (E.τ N).2.oneCell' = true := by
 obtain ⟨h1, h2, h3, h4, h5⟩ := h.obj N _ ho
 rcases h5 with ⟨a, k1, _⟩ | ⟨b, cap, arr, k1, _⟩ <;> rw [k1] <;> exact ⟨rfl, rfl⟩
theorem effOk_buildLent {s : St} {o : Oper} {K : C → List O → Prop} {t : TypeId} {x : Operand} (ho : o.op = .buildSlice t 1 #[(0, x)]) {e by_ : Nat} (ht : tSlice P t = some (e, 1, by_)) (hx : okOperand x = true) {N qn zk ek : Nat} {kid : List (List D)} {B : Nat → Prop} (hev : ev s x = .own N qn) (hN : s.H[N]? = some (.tree qn zk ek kid B none))
  (hk : K (.own s.H.length 0) (s.H ++ [.tree 0 1 e [[.sl kid]] (fun _ => False) (some (0, 0, N, qn))])) : EffOk P s o K := by
 intro E ns a hst
 obtain ⟨hte, hz, i, zv, hi, hzv, hzs, hiz, hib⟩ := of_tSlice ht
 have hvx := rd_ev hst x hx
 rw [hev] at hvx
 have hver := (hst.heap.obj N _ hN).1
 have hval : a.eval x = (E.τ N).2 := by
  generalize a.eval x = v at hvx
  cases hvx with
  | own _ _ _ _ _ _ hv => exact hv hver.symm
 obtain ⟨hcl, hone⟩ := slice_cells hst.heap hN
 generalize hv : (E.τ N).2 = v at hval hcl hone
 generalize hbase : (Array.range (1 * 1)).map (zv.cells[· % zv.cells.size]!) = base0
 have hbs : base0.size = 1 := by subst hbase; simp
 obtain ⟨arr', h1, h2, h3, _⟩ := fill_elems (z := 1) hz [v] 0 base0 (fun u hu => by simp at hu; subst hu; rw [hcl]; rfl) (by simp [hbs])
 have hparts : ((#[(0, x)] : Array (Nat × Operand)).map fun (i, x) => (i, a.eval x)).toList = (([v]).zipIdx 0).map fun x => (x.2, x.1) := by
  simp [hval]
 have hrun : (Instr.buildSlice t 1 ((#[(0, x)] : Array (Nat × Operand)).map fun (i, x) => (i, a.eval x))).run P E.w = .ok (.slice (some ⟨E.w.heap.size, 0, none⟩) 1 1) (E.w.alloc (.cells arr' e)) := by
  have hne : ¬ (1 * i.size = 0) := by rw [hiz]; omega
  have hbigN : ¬ (1 * i.size > 2 ^ 24) := by rw [hiz]; omega
  have hb2 : Array.map (fun x => zv.cells[x % zv.cells.size]!) (Array.range (1 * i.size)) = base0 := by rw [hiz]; exact hbase
  have h1' : Instr.fill (fun j => some (j * i.size, i.size)) base0 ((#[(0, x)] : Array (Nat × Operand)).map fun (i, x) => (i, a.eval x)).toList = some arr' := by rw [hiz, hparts]; exact h1
  unfold Instr.buildSlice
  simp only [Sem.run_bind, run_underlying hte, Result.andThen_ok, sizeOf, typeInfo, run_program, hi, Sem.run_pure, Sem.run_ite, if_neg hbigN, if_neg hne, zeroValue, hzv, hb2, h1', newRow, run_newObj]
  rfl
 have hsz : arr'.size = 1 := by rw [h2, hbs]
 have h30 : arr'[0]? = some v := by
  have := h3 0 0 v rfl (by omega)
  simp only [Nat.zero_add, Nat.mul_one, Nat.add_zero] at this
  rw [this, hcl]; rfl
 have hheap : ∀ b, b < E.w.heap.size → (E.w.alloc (.cells arr' e)).heap[b]? = E.w.heap[b]? := fun b hb => by first | exact heap_alloc_old E.w _ b hb | exact heap_alloc_old E.w _ hb
 let E1 : Env := (E.newPriv (E.w.alloc (.cells arr' e))).named 0 (.slice (some ⟨E.w.heap.size, 0, none⟩) 1 1)
 have hNN : E.N = s.H.length := hst.heap.N
 have hNl : N < s.H.length := (List.getElem?_eq_some_iff.1 hN).1
 have hτ : E1.τ s.H.length = (0, .slice (some ⟨E.w.heap.size, 0, none⟩) 1 1) := by simp [E1, Env.named, Env.newPriv, hNN]
 have hτo : ∀ r, r < E.N → E1.τ r = E.τ r := fun r hr => by
  have hne : r ≠ E.N := by omega
  simp [E1, Env.named, Env.newPriv, hne]
 have hle : Le E E1 := by
  refine ⟨rfl, rfl, rfl, by simp [E1, Env.newPriv, Env.named], by simp [E1, Env.newPriv, Env.named], fun _ _ => rfl, fun r hr => ?_, fun _ _ hs => hs, fun b i hs => ?_, fun b hb hp => hheap b hb, fun b i hs => .inl hs, fun b hp => ?_, fun b i a n hs hh => (hheap b (hst.heap.Slt b i hs)).trans hh⟩
  ·rw [hτo r hr]; exact ⟨Nat.le_refl _, fun _ => rfl⟩
  ·exact World.cell?_alloc_lt E.w _ _ (hst.heap.Slt b i hs)
  ·rcases hp with hp | rfl
   ·exact .inl hp
   ·exact .inr (Nat.le_refl _)
 have hH : RepH E1 (s.H ++ [.tree 0 1 e [[.sl kid]] (fun _ => False) (some (0, 0, N, qn))]) := by
  refine hst.heap.turn (r0 := s.H.length) (o0 := .tree 0 1 e [[.sl kid]] (fun _ => False) (some (0, 0, N, qn))) hle (by simp [E1, Env.named, Env.newPriv, hNN]) (fun r hr => ?_) (fun o ho => ?_) (fun r hr hr' => hτo r hr') (fun r o b hr ho hb => ⟨hheap b (hst.heap.lt r o b ho hb), fun i hs => hs⟩) (fun b hb => .inl hb) (fun b i hs => ?_) ?_ (fun b hb => ?_)
  ·by_cases hlt : r < s.H.length
   ·rw [List.getElem?_append_left hlt]
   ·rw [List.getElem?_eq_none (by simp; omega), List.getElem?_eq_none (by omega)]
  ·simpa using ho.symm
  ·have := hst.heap.Slt b i hs
   simp only [E1, Env.newPriv, Env.named, World.size_alloc]; omega
  ·refine ⟨by rw [hτ], fun y hy => by simp at hy; subst hy; rfl, by omega, fun b hb => hb.elim, .inr ⟨E.w.heap.size, 1, arr', by rw [hτ]; rfl, heap_alloc_new E.w _, by simp, by simp, by simp [maxLen], by simp [hsz], ⟨fun _ _ => v, fun _ _ _ => False, fun i' j' y d hy hd => ?_, fun _ _ _ hb => hb, fun _ _ _ _ _ hb => hb.elim⟩, fun hb => hb, fun i' hs => Nat.lt_irrefl _ (hst.heap.Slt _ i' hs), ⟨?_, ?_, fun _ => ?_⟩⟩⟩
   ·have hi' : i' = 0 := by
     have := (List.getElem?_eq_some_iff.1 hy).1
     simp at this; exact this
    subst hi'
    simp at hy
    subst hy
    have hj' : j' = 0 := by
     have := (List.getElem?_eq_some_iff.1 hd).1
     simp at this; exact this
    subst hj'
    exact ⟨by simpa using h30, hone, fun hl => absurd ⟨rfl, rfl⟩ hl⟩
   ·show N < E.N + 1
    omega
   ·rw [hτo N (by omega)]; omega
   ·rw [hτo N (by omega), hv]; simpa using h30
  ·have hb' : b = E.w.heap.size := by
    rcases hb with hb | hb
    ·rw [hτ] at hb
     simp [ownB] at hb
     exact hb.symm
    ·exact hb.elim
   subst hb'
   exact ⟨.inr rfl, by simp [E1, Env.newPriv, Env.named], fun r o hr ho hb => Nat.lt_irrefl _ (hst.heap.lt r o _ ho hb)⟩
 unfold Oper.wp execOp
 simp only [ho, Sem.run_bind, hrun, Result.andThen_ok, Sem.run_pure, Oper.upon]
 refine ⟨_, E1, .own s.H.length 0, _, rfl, rfl, ?_, hH, hle, hk⟩
 exact .own _ _ _ (by show s.H.length < E.N + 1; omega) rfl (by rw [hτ]; exact Nat.le_refl _) (fun _ => by rw [hτ])
theorem effOk_appLent {s : St} {o : Oper} {K : C → List O → Prop} {x y : Operand} {t u : TypeId} (ho : o.op = .call { callee := .builtin .append, args := #[x, y], argTypes := #[t, u] })
  (hx : okOperand x = true) (hy : okOperand y = true) {e by_ : Nat} (ht : tSlice P t = some (e, 1, by_)) (hu : tIsSlice P u = true) {r q M qm e2 N qn zk ek : Nat} {xs kid kid' : List (List D)} {B B2 BN : Nat → Prop}
  (hev : ev s x = .own r q) (hr : s.H[r]? = some (.tree q 1 e xs B none)) (hev2 : ev s y = .own M qm) (hM : s.H[M]? = some (.tree qm 1 e2 [[.sl kid]] B2 (some (0, 0, N, qn)))) (hN : s.H[N]? = some (.tree qn zk ek kid' BN none)) (hrM : r ≠ M)
  (hm : xs.length + 1 ≤ maxLen) (hby : (xs.length + 1) * by_ ≤ 140737488355328) (hrN : r ≠ N)
  (hk : ∀ B, K (.own r (q + 1)) ((s.H.set M .dead).set r (.tree (q + 1) 1 e (xs ++ [[.sl kid]]) B (some (xs.length, 0, N, qn))))) : EffOk P s o K := by
 intro E ns a hst
 have hvx := rd_ev hst x hx
 have hvy := rd_ev hst y hy
 rw [hev] at hvx
 rw [hev2] at hvy
 have hver := (hst.heap.obj r _ hr).1
 have hvalx : a.eval x = (E.τ r).2 := by
  generalize a.eval x = v at hvx
  cases hvx with
  | own _ _ _ _ _ _ hv => exact hv hver.symm
 obtain ⟨m1, m2, m3, m4, m5⟩ := hst.heap.obj M _ hM
 have hvaly : a.eval y = (E.τ M).2 := by
  generalize a.eval y = v at hvy
  cases hvy with
  | own _ _ _ _ _ _ hv => exact hv m1.symm
 have hverN := (hst.heap.obj N _ hN).1
 obtain ⟨hcl, hone⟩ := slice_cells hst.heap hN
 have hrl := (List.getElem?_eq_some_iff.1 hr).1
 have hMl := (List.getElem?_eq_some_iff.1 hM).1
 have hNl := (List.getElem?_eq_some_iff.1 hN).1
 rcases m5 with ⟨_, _, h0⟩ | ⟨b, cap, arr, k1, k2, k3, k4, k5, k6, k7, k8, k9, k10⟩
 ·cases h0
 obtain ⟨g1, g2, g3⟩ := k10
 have ha0 : arr[0]? = some (E.τ N).2 := by simpa using g3 hverN
 have hkM := hst.heap.kill M
 have hr' : (s.H.set M .dead)[r]? = some (.tree q 1 e xs B none) := by rw [List.getElem?_set_ne (Ne.symm hrM)]; exact hr
 obtain ⟨j1, j2⟩ := hkM.takeT hr'
 have hK1 : Kids E.w 1 [[D.any]] [(E.τ N).2].toArray (fun _ => False) none := by
  refine ⟨fun _ _ => (E.τ N).2, fun _ _ _ => False, fun i j y d hy hd => ?_, fun _ _ _ hb => hb, fun _ _ _ _ _ hb => hb.elim⟩
  have hi' : i = 0 := by
   have := (List.getElem?_eq_some_iff.1 hy).1
   simp at this; exact this
  subst hi'
  simp at hy
  subst hy
  have hj' : j = 0 := by
   have := (List.getElem?_eq_some_iff.1 hd).1
   simp at this; exact this
  subst hj'
  simp at hd
  subst hd
  exact ⟨rfl, hone, fun _ => .any _⟩
 have hfc : ∀ w' : World, w'.heap = E.w.heap → (Builtin.firstCells 1 1 (E.τ M).2).run P w' = .ok #[(E.τ N).2] w' := fun w' hw' => by
  rw [k1]
  simp only [Builtin.firstCells]
  have := run_loadCells_list (P := P) w' ⟨b, 0, none⟩ [(E.τ N).2] (fun k v hk => by
   have hk0 : k = 0 := by
    have := (List.getElem?_eq_some_iff.1 hk).1
    simp at this; exact this
   subst hk0
   simp at hk
   subst hk
   rw [Addr.add_mk, cell_of_row _ _ _ _ _ _ (by rw [hw']; exact k2)]
   exact ha0)
  simpa using this
 obtain ⟨v', E1, B', f1, f2, f3, f4, f5, f6, f7, f8⟩ := appendX (P := P) (ty := o.type) (x := (E.τ M).2) (ys := [[D.any]]) (L := [(E.τ N).2]) (B2 := fun _ => False) j1 ht (plain_of hu) j2 (by simp) (fun y hy => by simp at hy; subst hy; rfl) hK1 (fun u hu => by simp at hu; subst hu; exact hone) (fun b hb => hb.elim) (fun b hb => hb.elim)
  (fun w => by rw [k1]; simp [Builtin.lenOf]) (fun w' hw' => by simpa using hfc w' hw') (by simpa using hm) (by simpa using hby)
 obtain ⟨b', cap', arr', q1, q2, q3⟩ := f8 (by simp)
 have hdead : ((s.H.set M .dead).set r .dead)[r]? = some .dead := List.getElem?_set_self (by simpa using hrl)
 obtain ⟨d1, d2⟩ := f6.fillD (q := q + 1) hdead (by rw [f4, hver]; omega) f7
 rw [List.set_set] at d2
 have hτ : (E1.rename r (q + 1) v').τ r = (q + 1, v') := by simp [Env.rename]
 have hτN : (E1.rename r (q + 1) v').τ N = E.τ N := by simp only [Env.rename]; rw [if_neg (Ne.symm hrN), f4]
 have hset : ((s.H.set M .dead).set r (.tree (q + 1) 1 e (xs ++ [[D.any]]) B' none))[r]? = some (.tree (q + 1) 1 e (xs ++ [[D.any]]) B' none) := List.getElem?_set_self (by simpa using hrl)
 have hlk := d2.link (i := xs.length) (off := 0) (N := N) (qn := qn) (c := .sl kid) (x := [D.any]) hset (by simp) (n := xs.length + [[D.any]].length) (cap := cap') (b := b') (by rw [hτ, q1]) q2 (by
  rw [hτN]
  have := q3 0 (by simp)
  simpa using this) (by show N < E1.N; rw [f3, hst.heap.N]; exact hNl) (by rw [hτN]; exact hverN)
 rw [List.set_set, show (xs ++ [[D.any]]).set xs.length (([D.any] : List D).set 0 (.sl kid)) = xs ++ [[.sl kid]] by simp] at hlk
 refine run_append_op ho (v' := v') (w' := E1.w) (by rw [hvalx, hvaly]; exact f1) ⟨v', E1.rename r (q + 1) v', .own r (q + 1), _, rfl, rfl, ?_, hlk, f2.trans d1, hk B'⟩
 exact .own _ _ _ (by show r < E1.N; rw [f3, hst.heap.N]; exact hrl) f7.root.one (by rw [hτ]; exact Nat.le_refl _) (fun _ => by rw [hτ])
def vcOpP (P : Program) (s : St) (o : Oper) (K : C → List O → Prop) : Prop :=
 match o.op with
 | .buildSlice t n ps =>
  (match ps.toList with
  | [(i, x)] => i = 0 ∧ n = 1 ∧ okOperand x = true ∧ (match tSlice P t, ev s x with
   | some (e, z, _), .own N qn => z = 1 ∧ (match s.H[N]? with
    | some (.tree q _ _ kid _ none) => qn = q ∧ K (.own s.H.length 0) (s.H ++ [.tree 0 1 e [[.sl kid]] (fun _ => False) (some (0, 0, N, qn))])
    | _ => False)
   | _, _ => False)
  | _ => False)
 | .call c =>
  (match c.callee with
  | .builtin .append => (match c.args.toList, c.argTypes.toList with
   | [x, y], [t, u] => okOperand x = true ∧ okOperand y = true ∧ tIsSlice P u = true ∧ (match tSlice P t, ev s x, ev s y with
    | some (e, z, by_), .own r q, .own M qm => z = 1 ∧ r ≠ M ∧ (match s.H[r]?, s.H[M]? with
     | some (.tree q' z' e' xs _ none), some (.tree qm' zm _ [[.sl kid]] _ (some (0, 0, N, qn))) => q = q' ∧ qm = qm' ∧ z' = 1 ∧ zm = 1 ∧ e' = e ∧ r ≠ N ∧ (match s.H[N]? with
      | some (.tree qn' _ _ _ _ none) => qn = qn' ∧ xs.length + 1 ≤ maxLen ∧ (xs.length + 1) * by_ ≤ 140737488355328 ∧
        ∀ B, K (.own r (q + 1)) ((s.H.set M .dead).set r (.tree (q + 1) 1 e (xs ++ [[.sl kid]]) B (some (xs.length, 0, N, qn))))
      | _ => False)
     | _, _ => False)
    | _, _, _ => False)
   | _, _ => False)
  | _ => vcEff P s o K)
 | _ => vcEff P s o K
theorem vcOpP_sound {s : St} {o : Oper} {K : C → List O → Prop} (h : vcOpP P s o K) : EffOk P s o K := by
 unfold vcOpP at h
 split at h
 ·rename_i t n ps ho
  split at h
  ·rename_i i x hps
   obtain ⟨rfl, rfl, hx, h⟩ := h
   have hps' : ps = #[(0, x)] := by rw [← Array.toList_inj]; exact hps
   subst hps'
   split at h
   ·rename_i e z by_ N qn ht hev
    obtain ⟨rfl, h⟩ := h
    split at h
    ·rename_i q zk ek kid B hN
     obtain ⟨rfl, h⟩ := h
     exact effOk_buildLent ho ht hx hev hN h
    ·exact h.elim
   ·exact h.elim
  ·exact h.elim
 ·rename_i c ho
  obtain ⟨callee, args, argTypes⟩ := c
  dsimp only at h
  split at h
  ·split at h
   ·rename_i x y t u hxy hts
    have e1 : args = #[x, y] := by rw [← Array.toList_inj]; exact hxy
    have e2 : argTypes = #[t, u] := by rw [← Array.toList_inj]; exact hts
    subst e1 e2
    obtain ⟨hx, hy, hu, h⟩ := h
    split at h
    ·rename_i e z by_ r q M qm ht hev hev2
     obtain ⟨rfl, hrM, h⟩ := h
     split at h
     ·rename_i q' z' e' xs B qm' zm e2 kid B2 N qn hr hM
      obtain ⟨rfl, rfl, rfl, rfl, rfl, hrN, h⟩ := h
      split at h
      ·rename_i qn' zk ek kid' BN hN
       obtain ⟨rfl, hm, hby, h⟩ := h
       exact effOk_appLent ho hx hy ht hu hev hr hev2 hM hN hrM hm hby hrN h
      ·exact h.elim
     ·exact h.elim
    ·exact h.elim
   ·exact h.elim
  ·exact vcEff_sound h
 ·exact vcEff_sound h
def vcRP (P : Program) (n : Nat) (K : St → Prop) : List Oper → St → Prop
 | [], ⟨σ, H⟩ => K ⟨σ, H⟩
 | o :: rest, ⟨σ, H⟩ => okDst n o = true ∧ o.guard = none ∧ vcOpP P ⟨σ, H⟩ o (kR (vcRP P n K rest) ⟨σ, H⟩ o.dst)
theorem vcRP_sound {n : Nat} {K : St → Prop} {ops : Array Oper} {E0 : Env} : ∀ (os : List Oper) (l : List Nat) (s : St) (E : Env) (a : Act), l.map (ops[·]?) = os.map some → RepSt E n s a → Le E0 E → vcRP P n K os s →
  wpOps P ops (Behind n E0 K) l a E.w
 | [], l, s, E, a, hl, hst, hle, h => by
  have : l = [] := by simpa using hl
  subst this
  exact ⟨rfl, E, s, rfl, hst, hle, h⟩
 | o :: os, l, s, E, a, hl, hst, hle, h => by
  cases l with
  | nil => simp at hl
  | cons i l =>
   simp only [List.map_cons, List.cons.injEq] at hl
   obtain ⟨ho, hl⟩ := hl
   unfold vcRP at h
   obtain ⟨hd, hg, h⟩ := h
   have hdst : ∀ d, o.dst = some d → d < n := fun d hd' => by
    unfold okDst at hd
    rw [hd'] at hd
    simpa using hd
   rw [Go.wpOps_cons]
   refine wpOp_of (n := n) ho hg ((vcOpP_sound h).run hst (fun v E' c H' h1 h2 h3 h4 => ?_))
   exact vcRP_sound os l _ E' _ hl (hst.put h3 h2 hdst h1) (hle.trans h3) h4
theorem AW.regP {n : Nat} {f : FuncId} {n0 : Nat} {R : C → List O → Prop} {id : Nat} {ops : Array Oper} {k : List Item} {s : St} (h : vcRP P n (AW P f n n0 R k) ops.toList s) : AW P f n n0 R (.code (.region id ops false) :: k) s := by
 refine AW.of_behind (k' := k) fun _ E a b cs hst => ?_
 have hw := vcRP_sound (ops := ops) ops.toList (List.range ops.size) s E a (by
  apply List.ext_getElem?
  intro j
  simp only [List.getElem?_map]
  by_cases hj : j < ops.size
  ·rw [List.getElem?_range hj]
   simp [hj]
  ·rw [List.getElem?_eq_none (by simpa using hj), List.getElem?_eq_none (by simpa using hj)]
   rfl) hst (Le.refl E) h
 obtain ⟨e, a', w', ⟨rfl, E', s', rfl, h1, h2, h3⟩, harr⟩ := wp_region (id := id) hw b k cs
 exact ⟨a', E', s', harr, h1, h2, h3⟩
attribute [go_sem] vcOpP.eq_def vcRP.eq_1 vcRP.eq_2
end
end Go.Abs
