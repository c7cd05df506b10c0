/- The plain-data layer, part 18: a function's body, walked on abstract states. -/
import Derived.Test.YtkmbaakiliafeaaAbs17
namespace Go.Abs

def trunc (E : Env) (m : Nat) : Env := { E with N := m }

theorem Le.trunc {E E' : Env} (h : Le E E') {m : Nat} (hm : m ≤ E.N) : Le (Abs.trunc E m) (Abs.trunc E' m) :=
  ⟨h.os, h.tape, h.output, h.size, Nat.le_refl _, fun r hr => h.β r (Nat.lt_of_lt_of_le hr hm), fun r hr => h.τ r (Nat.lt_of_lt_of_le hr hm), h.S, h.cell, h.blk, h.newS, h.newP⟩

/-- From this point of the function's body on it returns, and R holds of what it returns and of the first n0 objects. -/
def AW (P : Program) (f : FuncId) (n n0 : Nat) (R : C → List O → Prop) (k : List Item) (s : St) : Prop :=
  n0 ≤ s.H.length → ∀ (E : Env) (a : Act) (b : Frame) (cs : List Frame), RepSt E n s a → b.fn = f → b.kind = .normal →
    ∃ fr w' v r E' H', Steps P (lone (b.at a k) cs E.w) (lone fr cs w') ∧ fr.fn = f ∧ fr.leaving P w' (.returned v) ∧ E'.w = w' ∧ RepH E' H' ∧ H'.length = n0 ∧ Le (trunc E n0) E' ∧ Rd E' r v ∧ R r H'

section
variable {P : Program} {f : FuncId} {n n0 : Nat} {R : C → List O → Prop}

/-- Steps that leave frame and world as they are. -/
theorem AW.steps {k k' : List Item} {s : St} (h : ∀ (a : Act) (b : Frame) (cs : List Frame) (w : World), a.tmps.size = n → (∀ E, RepSt E n s a → Steps P (lone (b.at a k) cs w) (lone (b.at a k') cs w))) (h' : AW P f n n0 R k' s) : AW P f n n0 R k s := by
  intro h0 E a b cs hst hb hk
  obtain ⟨fr, w', v, r, E', H', h1, h2⟩ := h' h0 E a b cs hst hb hk
  exact ⟨fr, w', v, r, E', H', (h a b cs E.w hst.size E hst).trans h1, h2⟩

theorem AW.of_behind {k k' : List Item} {s : St} (h : n0 ≤ s.H.length → ∀ (E : Env) (a : Act) (b : Frame) (cs : List Frame), RepSt E n s a →
    ∃ a' E' s', Steps P (lone (b.at a k) cs E.w) (lone (b.at a' k') cs E'.w) ∧ RepSt E' n s' a' ∧ Le E E' ∧ AW P f n n0 R k' s') : AW P f n n0 R k s := by
  intro h0 E a b cs hst hb hk
  obtain ⟨a', E', s', h1, h2, h3, h4⟩ := h h0 E a b cs hst
  have hN : n0 ≤ E.N := by rw [hst.heap.N]; exact h0
  have hN' : n0 ≤ s'.H.length := by rw [← h2.heap.N]; exact Nat.le_trans hN h3.N
  obtain ⟨fr, w', v, r, E'', H'', g1, g2, g3, g4, g5, g6, g7, g8⟩ := h4 hN' E' a' b cs h2 hb hk
  exact ⟨fr, w', v, r, E'', H'', h1.trans g1, g2, g3, g4, g5, g6, (h3.trunc hN).trans g7, g8⟩

theorem AW.region {id : Nat} {ops : Array Oper} {k : List Item} {s : St} (h : vcR P n ops (AW P f n n0 R k) ops.toList s) : AW P f n n0 R (.code (.region id ops false) :: k) s := by
  refine AW.of_behind (k' := k) fun _ E a b cs hst => ?_
  have hw := vcR_sound ops.toList (List.range ops.size) s E E a (by
    apply List.ext_getElem?
    intro j
    simp only [List.getElem?_map]
    by_cases hj : j < ops.size
    · rw [List.getElem?_range hj]
      simp [hj]
    · rw [List.getElem?_eq_none (by simpa using hj), List.getElem?_eq_none (by simpa using hj)]
      rfl) hst (Le.refl E) h
  obtain ⟨e, a', w', ⟨rfl, E', s', rfl, h1, h2, h3⟩, harr⟩ := wp_region (id := id) hw b k cs
  exact ⟨a', E', s', harr, h1, h2, h3⟩

theorem AW.draw {id : Nat} {ops : Array Oper} {k : List Item} {s : St} (hm : P.follows .mixedOrders = true) (hB : Region.lexB .any ops = true) (h : vcD P n ops (AW P f n n0 R k) ops.toList s) :
    AW P f n n0 R (.code (.region id ops true) :: k) s := by
  refine AW.of_behind (k' := k) fun _ E a b cs hst => ?_
  have hst' : RepSt E.drew n s a := ⟨hst.size, hst.defers, rep_drew hst.heap, fun t => (hst.slot t).le (le_drew E)⟩
  simp only [Region.lexB, Bool.and_eq_true] at hB
  have hany := vcD_any (md := .any) ops.toList 0 (Array.replicate ops.size false) s (by simp) (by simpa using hB.2) h
  have hw := any_sound (E0 := E) _ _ _ E.drew a hany hst'.toF (le_drew E)
  simp only [Array.length_toList] at hw
  obtain ⟨e, a', w', ⟨rfl, E', σ, rfl, h1, h2, s', hs, hH, h3⟩, harr⟩ := wp_region_any (id := id) hm hw b k cs
  exact ⟨a', E', s', harr, ⟨h1.size, h1.defers, by rw [hH]; exact h1.heap, fun t => by rw [hs]; exact h1.slot t⟩, h2, h3⟩

theorem AW.skip {k : List Item} {s : St} (h : AW P f n n0 R k s) : AW P f n n0 R (.code .skip :: k) s := AW.steps (fun _ _ _ _ _ _ _ => .one step_skip) h
theorem AW.label {l : Nat} {k : List Item} {s : St} (h : AW P f n n0 R k s) : AW P f n n0 R (.code (.label l) :: k) s := AW.steps (fun _ _ _ _ _ _ _ => .one step_label) h
theorem AW.inBlock {id : Nat} {k : List Item} {s : St} (h : AW P f n n0 R k s) : AW P f n n0 R (.inBlock id :: k) s := AW.steps (fun _ _ _ _ _ _ _ => .one step_inBlock) h
theorem AW.seq {x y : Code} {k : List Item} {s : St} (h : AW P f n n0 R (.code x :: .code y :: k) s) : AW P f n n0 R (.code (.seq x y) :: k) s := AW.steps (fun _ _ _ _ _ _ _ => .one step_seq) h
theorem AW.block {id : Nat} {c : Code} {k : List Item} {s : St} (h : AW P f n n0 R (.code c :: .inBlock id :: k) s) : AW P f n n0 R (.code (.block id c) :: k) s := AW.steps (fun _ _ _ _ _ _ _ => .one step_block) h
theorem AW.loop {c : Code} {k : List Item} {s : St} (h : AW P f n n0 R (.code c :: .inLoop c :: k) s) : AW P f n n0 R (.code (.loop c) :: k) s := AW.steps (fun _ _ _ _ _ _ _ => .one step_loop) h
theorem AW.round {c : Code} {k : List Item} {s : St} (h : AW P f n n0 R (.code c :: .inLoop c :: k) s) : AW P f n n0 R (.inLoop c :: k) s := AW.steps (fun _ _ _ _ _ _ _ => .one step_inLoop) h
theorem AW.exit {id : Nat} {k k' : List Item} {s : St} (he : exitTo id k = some k') (h : AW P f n n0 R k' s) : AW P f n n0 R (.code (.exit id) :: k) s := AW.steps (fun _ _ _ _ _ _ _ => .one (step_exit he)) h

theorem AW.cond {c : Operand} {x y : Code} {k : List Item} {s : St} {b : Bool} (hc : ev s c = .d (.bool b)) (ho : okOperand c = true) (h1 : b = true → AW P f n n0 R (.code x :: k) s) (h2 : b = false → AW P f n n0 R (.code y :: k) s) :
    AW P f n n0 R (.code (.cond c x y) :: k) s := by
  have hstep : ∀ (a : Act) (b' : Frame) (cs : List Frame) (w : World), a.tmps.size = n → (∀ E, RepSt E n s a → Steps P (lone (b'.at a (.code (.cond c x y) :: k)) cs w) (lone (b'.at a (.code (if b then x else y) :: k)) cs w)) := by
    intro a b' cs w _ E hst
    have hv := rd_ev hst c ho
    rw [hc] at hv
    generalize hg : a.eval c = v at hv
    cases hv with
    | d _ _ hd => cases hd; exact .one (step_cond hg)
  cases b
  · exact AW.steps hstep (h2 rfl)
  · exact AW.steps hstep (h1 rfl)

/-! ### The end -/

/-- Refers to the first m objects only. -/
def C.refsLt1 (m : Nat) : C → Bool
  | .d _ | .nilp | .nil0 => true
  | .ptr r _ | .own r _ | .rsl r _ | .eptr r _ _ _ | .map r => decide (r < m)
  | _ => false

def C.refsLt (m : Nat) : C → Bool
  | .fn _ cs | .agg cs => cs.all (C.refsLt1 m)
  | c => c.refsLt1 m

def C.refsLtT (m : Nat) : C → Bool
  | .tup cs => cs.all (C.refsLt m)
  | c => c.refsLt m

def O.refsLt (m : Nat) : O → Bool
  | .box cs => cs.all (C.refsLt m)
  | .iter k _ _ _ => decide (k < m)
  | _ => true

theorem Rd.trunc1 {E : Env} {m : Nat} {c : C} {v : Value} (hb : c.refsLt1 m = true) (h : Rd E c v) : Rd (Abs.trunc E m) c v := by
  cases h with
  | d x v hd => exact .d _ _ hd
  | nil0 a => exact .nil0 a
  | nilp => exact .nilp
  | ptr r off hr => exact .ptr _ _ (by simpa [C.refsLt1, Abs.trunc] using hb)
  | own r q v hr h1 hq hv => exact .own _ _ _ (by simpa [C.refsLt1, Abs.trunc] using hb) h1 hq hv
  | rsl r n hr => exact .rsl _ _ (by simpa [C.refsLt1, Abs.trunc] using hb)
  | eptr r z i off hr => exact .eptr _ _ _ _ (by simpa [C.refsLt1, Abs.trunc] using hb)
  | map r hr => exact .map _ (by simpa [C.refsLt1, Abs.trunc] using hb)
  | _ => simp [C.refsLt1] at hb

theorem Rd.trunc {E : Env} {m : Nat} {c : C} {v : Value} (hb : c.refsLt m = true) (h : Rd E c v) : Rd (Abs.trunc E m) c v := by
  cases h with
  | fn g cs vs hl hr =>
    simp only [C.refsLt, List.all_eq_true] at hb
    exact .fn _ _ _ hl (fun i c v hc hv => (hr i c v hc hv).trunc1 (hb c (List.mem_of_getElem? hc)))
  | agg cs vs hl h1 hr =>
    simp only [C.refsLt, List.all_eq_true] at hb
    exact .agg _ _ hl h1 (fun i c v hc hv => (hr i c v hc hv).trunc1 (hb c (List.mem_of_getElem? hc)))
  | d x v hd => exact Rd.trunc1 (by simpa [C.refsLt] using hb) (.d x v hd)
  | nil0 a => exact .nil0 a
  | nilp => exact .nilp
  | ptr r off hr => exact Rd.trunc1 (by simpa [C.refsLt] using hb) (.ptr r off hr)
  | own r q v hr h1 hq hv => exact Rd.trunc1 (by simpa [C.refsLt] using hb) (.own r q v hr h1 hq hv)
  | rsl r n hr => exact Rd.trunc1 (by simpa [C.refsLt] using hb) (.rsl r n hr)
  | eptr r z i off hr => exact Rd.trunc1 (by simpa [C.refsLt] using hb) (.eptr r z i off hr)
  | map r hr => exact Rd.trunc1 (by simpa [C.refsLt] using hb) (.map r hr)
  | _ => simp [C.refsLt, C.refsLt1] at hb

theorem Rd.truncT {E : Env} {m : Nat} {c : C} {v : Value} (hb : c.refsLtT m = true) (h : Rd E c v) : Rd (Abs.trunc E m) c v := by
  cases h with
  | tup cs vs hl hr =>
    simp only [C.refsLtT, List.all_eq_true] at hb
    exact .tup _ _ hl (fun i c v hc hv => (hr i c v hc hv).trunc (hb c (List.mem_of_getElem? hc)))
  | fn g cs vs hl hr => exact Rd.trunc (by simpa [C.refsLtT] using hb) (.fn g cs vs hl hr)
  | agg cs vs hl h1 hr => exact Rd.trunc (by simpa [C.refsLtT] using hb) (.agg cs vs hl h1 hr)
  | d x v hd => exact .d x v hd
  | nil0 a => exact .nil0 a
  | nilp => exact .nilp
  | ptr r off hr => exact Rd.trunc (by simpa [C.refsLtT] using hb) (.ptr r off hr)
  | own r q v hr h1 hq hv => exact Rd.trunc (by simpa [C.refsLtT] using hb) (.own r q v hr h1 hq hv)
  | rsl r n hr => exact Rd.trunc (by simpa [C.refsLtT] using hb) (.rsl r n hr)
  | eptr r z i off hr => exact Rd.trunc (by simpa [C.refsLtT] using hb) (.eptr r z i off hr)
  | map r hr => exact Rd.trunc (by simpa [C.refsLtT] using hb) (.map r hr)
  | _ => simp [C.refsLtT, C.refsLt, C.refsLt1] at hb

theorem RepO.trunc {E : Env} {m r : Nat} {o : O} (hb : o.refsLt m = true) (h : RepO E r o) : RepO (Abs.trunc E m) r o := by
  cases o with
  | box cs =>
    obtain ⟨arr, e, h1, h2, h3, h4⟩ := h
    simp only [O.refsLt, List.all_eq_true] at hb
    exact ⟨arr, e, h1, h2, fun i c v hc hv => ⟨(h3 i c v hc hv).1.trunc (hb c (List.mem_of_getElem? hc)), (h3 i c v hc hv).2⟩, h4⟩
  | _ => exact h

theorem RepH.trunc {E : Env} {H : List O} {m : Nat} (h : RepH E H) (hm : m ≤ H.length) (hb : (H.take m).all (O.refsLt m) = true) : RepH (Abs.trunc E m) (H.take m) := by
  simp only [List.all_eq_true] at hb
  have hget : ∀ {r : Nat} {o : O}, (H.take m)[r]? = some o → H[r]? = some o := fun ho => by
    rw [List.getElem?_take] at ho
    split at ho
    · exact ho
    · simp at ho
  have hblk : ∀ (r : Nat) (o : O), o.block (Abs.trunc E m) r = o.block E r := fun r o => by cases o <;> rfl
  refine ⟨by simp [Abs.trunc]; omega, fun r o ho => (h.obj r o (hget ho)).trunc (hb o (List.mem_of_getElem? ho)), fun r o b ho hb => h.pv r o b (hget ho) (by rw [← hblk]; exact hb), fun r o b ho hb => h.lt r o b (hget ho) (by rw [← hblk]; exact hb),
    fun r r' o o' b ho ho' hb hb' => h.apart r r' o o' b (hget ho) (hget ho') (by rw [← hblk]; exact hb) (by rw [← hblk]; exact hb'), h.Slt⟩

def kNorm (K : C → Prop) (s : St) : C → Prop := fun c => K (norm s c)

def resOne (P : Program) (s : St) (rv : ResultVar) (K : C → Prop) : Prop :=
  match rv with
  | .tmp t => K (norm s (get s.σ t))
  | .cell a ty => vcLoad P s ty (get s.σ a) (kNorm K s)

def kSnoc (F : List C → Prop) (acc : List C) : C → Prop := fun c => F (acc ++ [c])

def resAll (P : Program) (s : St) (K : List C → Prop) : List ResultVar → List C → Prop
  | [], acc => K acc
  | r :: rs, acc => resOne P s r (kSnoc (resAll P s K rs) acc)

def single : List C → C
  | [c] => c
  | cs => .tup cs

def kRet (R : C → List O → Prop) (n0 : Nat) (H : List O) : List C → Prop := fun l => (single l).refsLtT n0 = true ∧ R (single l) H

/-- What the function returns from state s. -/
def vcRet (P : Program) (rs : List ResultVar) (n0 : Nat) (R : C → List O → Prop) (s : St) : Prop :=
  (s.H.take n0).all (O.refsLt n0) = true ∧ resAll P s (kRet R n0 (s.H.take n0)) rs []

theorem resAll_sound {s : St} {K : List C → Prop} : ∀ (rs : List ResultVar) (acc : List C), resAll P s K rs acc →
    ∃ l, K (acc ++ l) ∧ l.length = rs.length ∧ ∀ (E : Env) (a : Act), RepSt E n s a → ∃ vs : List Value, (rs.mapM fun rv => (match rv with
      | .tmp t => pure (a.tmps.getD t undef)
      | .cell p t => do loadVar t (← asAddr (a.tmps.getD p undef)) : Sem Value)).run P E.w = .ok vs E.w ∧ vs.length = l.length ∧ ∀ (i : Nat) (c : C) (v : Value), l[i]? = some c → vs[i]? = some v → Rd E c v
  | [], acc, h => ⟨[], by simpa [resAll] using h, rfl, fun E a hst => ⟨[], by simp, rfl, fun i c v hc => by simp at hc⟩⟩
  | rv :: rs, acc, h => by
    unfold resAll at h
    unfold resOne at h
    split at h
    · rename_i t
      obtain ⟨l, hk, hl, hall⟩ := resAll_sound rs _ h
      refine ⟨_ :: l, by rw [List.append_assoc] at hk; exact hk, by simp [hl], fun E a hst => ?_⟩
      obtain ⟨vs, h1, h2, h3⟩ := hall E a hst
      refine ⟨a.tmps.getD t undef :: vs, by simp only [List.mapM_cons, Sem.run_bind, Sem.run_pure, Result.andThen_ok, h1], by simp [h2], fun i c v hc hv => ?_⟩
      cases i with
      | zero =>
        simp only [List.getElem?_cons_zero, Option.some.injEq] at hc hv
        subst hc hv
        exact rd_norm hst (hst.slot t)
      | succ i => exact h3 i c v (by simpa using hc) (by simpa using hv)
    · rename_i p t
      have hs := load_sound (P := P) (s := s) (t := t) (x := .tmp p) rfl h
      obtain ⟨c0, h0, hrun⟩ := hs
      obtain ⟨l, hk, hl, hall⟩ := resAll_sound rs _ h0
      refine ⟨_ :: l, by rw [List.append_assoc] at hk; exact hk, by simp [hl], fun E a hst => ?_⟩
      obtain ⟨vs, h1, h2, h3⟩ := hall E a hst
      obtain ⟨u, hu1, hu2⟩ := hrun E n a hst
      dsimp only at hu1
      have hu1' : (do loadVar t (← asAddr (a.tmps.getD p undef)) : Sem Value).run P E.w = .ok u E.w := by
        have e : a.eval (.tmp p) = a.tmps.getD p undef := rfl
        rw [e] at hu1
        generalize a.tmps.getD p undef = pv at hu1 ⊢
        cases pv with
        | pointer ad =>
          cases ad with
          | none => simp [Instr.loadAt, Instr.sureAddr] at hu1
          | some ad => simpa [Instr.loadAt, Instr.sureAddr, asAddr] using hu1
        | _ => simp [Instr.loadAt, Instr.sureAddr] at hu1
      refine ⟨u :: vs, ?_, by simp [h2], fun i c v hc hv => ?_⟩
      · rw [List.mapM_cons, Sem.run_bind]
        dsimp only
        rw [hu1']
        simp only [Result.andThen_ok, Sem.run_bind, Sem.run_pure, h1]
      · cases i with
        | zero =>
          simp only [List.getElem?_cons_zero, Option.some.injEq] at hc hv
          subst hc hv
          exact rd_norm hst hu2
        | succ i => exact h3 i c v (by simpa using hc) (by simpa using hv)

theorem AW.finish {fn : Func} {k : List Item} {s : St} (hf : P.funcs[f]? = some fn) (hk : k = [] ∨ ∃ k', k = .code .ret :: k') (h : vcRet P fn.results.toList n0 R s) : AW P f n n0 R k s := by
  intro h0 E a b cs hst hb hkind
  obtain ⟨hbel, h⟩ := h
  obtain ⟨l, hret, hl, hall⟩ := resAll_sound (n := n) _ _ h
  obtain ⟨hbt, hR⟩ : (single l).refsLtT n0 = true ∧ R (single l) (s.H.take n0) := hret
  obtain ⟨vs, h1, h2, h3⟩ := hall E a hst
  have hres : ∃ v, (results fn a.tmps).run P E.w = .ok v E.w ∧ Rd E (single l) v := by
    have hm : (fn.results.mapM fun rv => (match rv with
      | .tmp t => pure (a.tmps.getD t undef)
      | .cell p t => do loadVar t (← asAddr (a.tmps.getD p undef)) : Sem Value)).run P E.w = .ok vs.toArray E.w := by
      rw [Array.mapM_eq_mapM_toList]
      simp only [Sem.run_map, h1, Result.andThen_ok]
    have key : ∀ (r : Result (Array Value)), r = .ok vs.toArray E.w → ∃ v, (r.andThen fun x w' => Sem.run P (pure (if h : x.size = 1 then x[0] else Value.tuple x)) w') = .ok v E.w ∧ Rd E (single l) v := by
      rintro _ rfl
      simp only [Result.andThen_ok, Sem.run_pure]
      match l, h2, h3 with
      | [c], h2, h3 =>
        match vs, h2, h3 with
        | [v], _, h3 => exact ⟨v, by simp, h3 0 c v rfl rfl⟩
      | [], h2, h3 =>
        have : vs = [] := List.eq_nil_of_length_eq_zero h2
        subst this
        exact ⟨.tuple #[], by simp, .tup _ _ (by simp) (fun i c v hc => by simp at hc)⟩
      | c :: c' :: l', h2, h3 =>
        refine ⟨.tuple vs.toArray, ?_, .tup _ _ (by simpa using h2) (fun i c v hc hv => h3 i c v hc (by simpa using hv))⟩
        have : ¬ vs.toArray.size = 1 := by simp only [List.size_toArray, h2, List.length_cons]; omega
        rw [dif_neg this]
    unfold results
    rw [Sem.run_bind]
    exact key _ hm
  obtain ⟨v, hv1, hv2⟩ := hres
  have hstep : Steps P (lone (b.at a k) cs E.w) (lone { b.at a k with mode := .returning } cs E.w) := by
    rcases hk with rfl | ⟨k', rfl⟩
    · exact .one step_end
    · exact .one step_ret
  refine ⟨{ b.at a k with mode := .returning }, E.w, v, single l, trunc E n0, s.H.take n0, hstep, hb, ⟨rfl, hst.defers, hkind, fn, by show P.funcs[b.fn]? = _; rw [hb]; exact hf, hv1⟩, rfl, hst.heap.trunc h0 hbel, by simp; omega, Le.refl _, hv2.truncT hbt, hR⟩

/-- A call is its body's walk. -/
theorem ACalls.enter {fn : Func} {c : Code} {args : List C} {H : List O} (hf : P.funcs[f]? = some fn) (hb : fn.body = some c) (hn : args.length ≤ fn.ntmps)
    (h : AW P f fn.ntmps H.length R [.code c] ⟨(List.range args.length).zip args, H⟩) : ACalls P f args H R := by
  intro E vs hH hs ha cs
  let a : Act := { tmps := vs ++ Array.replicate (fn.ntmps - vs.size) undef, defers := [] }
  let b : Frame := { (default : Frame) with fn := f, kind := .normal }
  have henter : Frame.enter P f vs .normal = b.at a [.code c] := by
    simp [Frame.enter, Frame.at, hf, hb, b, a]
  have hzip : ∀ (l : List C) (k t : Nat), get ((List.range' k l.length).zip l) t = if h : k ≤ t ∧ t < k + l.length then l[t - k]'(by omega) else .top := by
    intro l
    induction l with
    | nil => intro k t; simp [get]; omega
    | cons x r ih =>
      intro k t
      simp only [List.length_cons, List.range'_succ, List.zip_cons_cons, get]
      by_cases e : k = t
      · subst e; simp
      · rw [if_neg e, ih]
        by_cases h1 : k + 1 ≤ t ∧ t < k + 1 + r.length
        · rw [dif_pos h1, dif_pos (by omega)]
          obtain ⟨m, rfl⟩ : ∃ m, t = k + 1 + m := ⟨t - (k + 1), by omega⟩
          have e1 : k + 1 + m - (k + 1) = m := by omega
          have e2 : k + 1 + m - k = m + 1 := by omega
          simp only [e1, e2, List.getElem_cons_succ]
        · rw [dif_neg h1, dif_neg (by omega)]
  have hst : RepSt E fn.ntmps ⟨(List.range args.length).zip args, H⟩ a := by
    refine ⟨by simp [a, hs]; omega, rfl, hH, fun t => ?_⟩
    simp only
    rw [List.range_eq_range', hzip]
    split
    · rename_i ht
      have htl : t < args.length := by omega
      have hv : vs[t]? = some (vs[t]'(by omega)) := Array.getElem?_eq_getElem _
      have : a.tmps.getD t undef = vs[t]'(by omega) := by
        show (vs ++ _).getD t undef = _
        rw [Array.getD_eq_getD_getElem?, Array.getElem?_append_left (by omega), hv]; rfl
      rw [this]
      exact ha t _ _ (by simp [htl]) hv
    · exact .top _
  obtain ⟨fr, w', v, r, E', H', h1, h2, h3, h4, h5, h6, h7, h8, h9⟩ := h (Nat.le_refl _) E a b cs hst rfl rfl
  rw [← henter] at h1
  have hN : trunc E H.length = E := by unfold trunc; rw [← hH.N]
  rw [hN] at h7
  exact ⟨.returned v, w', fr, ⟨v, r, E', H', rfl, h4, h5, h7, h8, h6, h9⟩, h1, h2, h3⟩

end
end Go.Abs
