/- The plain-data layer, part 19: running a body; loops; calls on plain data. -/
import Derived.Test.YtkmbaakiliafeaaAbs18
namespace Go.Abs

section
variable (P : Program) (f : FuncId) (n n0 : Nat) (R : C → List O → Prop) (rs : List ResultVar)

/-- The body's walk up to its loops and its end. -/
def run : Nat → List Item → St → Prop
  | 0, k, ⟨σ, H⟩ => AW P f n n0 R k ⟨σ, H⟩
  | _ + 1, [], ⟨σ, H⟩ => vcRet P rs n0 R ⟨σ, H⟩
  | fuel + 1, .inBlock _ :: k, ⟨σ, H⟩ => run fuel k ⟨σ, H⟩
  | fuel + 1, .code c :: k, ⟨σ, H⟩ =>
    (match c with
    | .ret => vcRet P rs n0 R ⟨σ, H⟩
    | .skip => run fuel k ⟨σ, H⟩
    | .label _ => run fuel k ⟨σ, H⟩
    | .seq x y => run fuel (.code x :: .code y :: k) ⟨σ, H⟩
    | .block id x => run fuel (.code x :: .inBlock id :: k) ⟨σ, H⟩
    | .exit id => (match exitTo id k with | some k' => run fuel k' ⟨σ, H⟩ | none => False)
    | .cond c x y => okOperand c = true ∧ (match ev ⟨σ, H⟩ c with
      | .d (.bool b) => br b (app (run fuel (.code x :: k)) ⟨σ, H⟩) (app (run fuel (.code y :: k)) ⟨σ, H⟩)
      | _ => False)
    | .region _ ops false => vcR P n ops (run fuel k) ops.toList ⟨σ, H⟩
    | .region _ ops true => vcD P n ops (run fuel k) ops.toList ⟨σ, H⟩
    | c => AW P f n n0 R (.code c :: k) ⟨σ, H⟩)
  | _ + 1, k, ⟨σ, H⟩ => AW P f n n0 R k ⟨σ, H⟩
end

/-- Every region that draws its order answers alike in any order. -/
def okCode : Code → Bool
  | .region _ ops true => Region.lexB .any ops
  | .seq a b => okCode a && okCode b
  | .cond _ a b => okCode a && okCode b
  | .block _ a => okCode a
  | .loop a => okCode a
  | _ => true

def okItem : Item → Bool
  | .code c => okCode c
  | .inLoop c => okCode c
  | _ => true

section
variable {P : Program} {f : FuncId} {n n0 : Nat} {R : C → List O → Prop}

theorem AW.region' {id : Nat} {ops : Array Oper} {k : List Item} {s : St} {K : St → Prop} (h : vcR P n ops K ops.toList s) (hk : ∀ s', K s' → AW P f n n0 R k s') : AW P f n n0 R (.code (.region id ops false) :: k) s := by
  refine AW.of_behind (k' := k) fun _ E a b cs hst => ?_
  have hw := vcR_sound ops.toList (List.range ops.size) s E E a (by
    apply List.ext_getElem?
    intro j
    simp only [List.getElem?_map]
    by_cases hj : j < ops.size
    · rw [List.getElem?_range hj]
      simp [hj]
    · rw [List.getElem?_eq_none (by simpa using hj), List.getElem?_eq_none (by simpa using hj)]
      rfl) hst (Le.refl E) h
  obtain ⟨e, a', w', ⟨rfl, E', s', rfl, h1, h2, h3⟩, harr⟩ := wp_region (id := id) hw b k cs
  exact ⟨a', E', s', harr, h1, h2, hk _ h3⟩

theorem AW.draw' {id : Nat} {ops : Array Oper} {k : List Item} {s : St} {K : St → Prop} (hm : P.follows .mixedOrders = true) (hB : Region.lexB .any ops = true) (h : vcD P n ops K ops.toList s) (hk : ∀ s', K s' → AW P f n n0 R k s') :
    AW P f n n0 R (.code (.region id ops true) :: k) s := by
  refine AW.of_behind (k' := k) fun _ E a b cs hst => ?_
  have hst' : RepSt E.drew n s a := ⟨hst.size, hst.defers, rep_drew hst.heap, fun t => (hst.slot t).le (le_drew E)⟩
  simp only [Region.lexB, Bool.and_eq_true] at hB
  have hany := vcD_any (md := .any) ops.toList 0 (Array.replicate ops.size false) s (by simp) (by simpa using hB.2) h
  have hw := any_sound (E0 := E) _ _ _ E.drew a hany hst'.toF (le_drew E)
  simp only [Array.length_toList] at hw
  obtain ⟨e, a', w', ⟨rfl, E', σ, rfl, h1, h2, s', hs, hH, h3⟩, harr⟩ := wp_region_any (id := id) hm hw b k cs
  exact ⟨a', E', s', harr, ⟨h1.size, h1.defers, by rw [hH]; exact h1.heap, fun t => by rw [hs]; exact h1.slot t⟩, h2, hk _ h3⟩

theorem okItem_exit : ∀ (k k' : List Item) (id : Nat), exitTo id k = some k' → k.all okItem = true → k'.all okItem = true
  | [], k', id, h, _ => by simp [exitTo] at h
  | x :: k, k', id, h, hk => by
    simp only [List.all_cons, Bool.and_eq_true] at hk
    cases x <;> simp only [exitTo] at h <;> first
      | exact okItem_exit k k' id h hk.2
      | (split at h
         · simp only [Option.some.injEq] at h; subst h; exact hk.2
         · exact okItem_exit k k' id h hk.2)

theorem run_sound {fn : Func} (hf : P.funcs[f]? = some fn) (hm : P.follows .mixedOrders = true) : ∀ (fuel : Nat) (k : List Item) (s : St), k.all okItem = true → run P f n n0 R fn.results.toList fuel k s → AW P f n n0 R k s
  | 0, k, s, _, h => h
  | fuel + 1, k, s, hk, h => by
    have ih := fun k s => run_sound hf hm fuel k s
    unfold run at h
    split at h
    · rename_i h'; cases h'
    · exact AW.finish hf (.inl rfl) h
    · rename_i e; cases e
      simp only [List.all_cons, Bool.and_eq_true] at hk
      exact AW.inBlock (ih _ _ hk.2 h)
    · rename_i c k _ e; cases e
      simp only [List.all_cons, Bool.and_eq_true, okItem] at hk
      split at h
      · exact AW.finish hf (.inr ⟨_, rfl⟩) h
      · exact AW.skip (ih _ _ hk.2 h)
      · exact AW.label (ih _ _ hk.2 h)
      · refine AW.seq (ih _ _ ?_ h)
        simp only [okCode, Bool.and_eq_true] at hk
        simp [okItem, hk.1.1, hk.1.2, hk.2]
      · refine AW.block (ih _ _ ?_ h)
        simp only [okCode] at hk
        simp [okItem, hk.1, hk.2]
      · split at h
        · rename_i k' he
          exact AW.exit he (ih _ _ (okItem_exit _ _ _ he hk.2) h)
        · exact h.elim
      · obtain ⟨ho, h⟩ := h
        simp only [okCode, Bool.and_eq_true] at hk
        split at h
        · rename_i b hb
          exact AW.cond hb ho (fun e => ih _ _ (by simp [okItem, hk.1.1, hk.2]) (h.1 e)) (fun e => ih _ _ (by simp [okItem, hk.1.2, hk.2]) (h.2 e))
        · exact h.elim
      · exact AW.region' h (fun s' h' => ih _ _ hk.2 h')
      · exact AW.draw' hm hk.1 h (fun s' h' => ih _ _ hk.2 h')
      · exact h
    · exact h

/-- What a state says less of. -/
def Weak (n0 : Nat) (s s' : St) : Prop :=
  n0 ≤ s'.H.length ∧ s'.H = s.H.take s'.H.length ∧ s'.H.all (O.refsLt s'.H.length) = true ∧ ∀ p, p ∈ s'.σ → get s.σ p.1 = p.2 ∧ p.2.refsLtT s'.H.length = true

theorem get_mem : ∀ {σ : List (Nat × C)} {t : Nat}, get σ t = .top ∨ (t, get σ t) ∈ σ
  | [], t => .inl rfl
  | (t', c) :: r, t => by
    simp only [get]
    split
    · rename_i e; subst e; right; simp
    · rcases get_mem (σ := r) (t := t) with h | h
      · exact .inl h
      · exact .inr (List.mem_cons_of_mem _ h)

theorem AW.weaken {k : List Item} {s s' : St} (hw : Weak n0 s s') (h : AW P f n n0 R k s') : AW P f n n0 R k s := by
  intro h0 E a b cs hst hb hk
  obtain ⟨w0, w1, w2, w3⟩ := hw
  generalize hm : s'.H.length = m at w0 w1 w2 w3
  have hle : m ≤ s.H.length := by
    have := congrArg List.length w1
    simp at this; omega
  have hst' : RepSt (trunc E m) n s' a := by
    refine ⟨hst.size, hst.defers, ?_, fun t => ?_⟩
    · rw [w1]
      exact hst.heap.trunc hle (by rw [← w1]; exact w2)
    · rcases get_mem (σ := s'.σ) (t := t) with e | e
      · rw [e]; exact .top _
      · obtain ⟨e1, e2⟩ := w3 _ e
        dsimp only at e1 e2
        rw [← e1] at e2 ⊢
        exact (hst.slot t).truncT e2
  obtain ⟨fr, w', v, r, E', H', g1, g2, g3, g4, g5, g6, g7, g8⟩ := h (by omega) (trunc E m) a b cs hst' hb hk
  exact ⟨fr, w', v, r, E', H', g1, g2, g3, g4, g5, g6, g7, g8⟩

/-- A loop: the head's states are named by x; each round goes down in μ. -/
theorem AW.loop_ind {α : Type} (st : α → St) (I : α → Prop) (μ : α → Nat) {c : Code} {k : List Item} {s : St} (x0 : α) (h0 : I x0) (hw : Weak n0 s (st x0))
    (step : ∀ x, I x → (∀ y s', I y → μ y < μ x → Weak n0 s' (st y) → AW P f n n0 R (.inLoop c :: k) s') → AW P f n n0 R (.code c :: .inLoop c :: k) (st x)) : AW P f n n0 R (.code (.loop c) :: k) s := by
  have key : ∀ m x, μ x = m → I x → AW P f n n0 R (.code c :: .inLoop c :: k) (st x) := by
    intro m
    induction m using Nat.strongRecOn with
    | _ m ih =>
      intro x hx hI
      exact step x hI (fun y s' hy hlt hws => AW.round (AW.weaken hws (ih (μ y) (hx ▸ hlt) y rfl hy)))
  exact AW.loop (AW.weaken hw (key _ x0 rfl h0))

/-- An empty slice becomes one's own. -/
theorem AW.adopt {k : List Item} {s : St} (t z e : Nat) (hz : 0 < z) (ht : get s.σ t = .nil0) (h : AW P f n n0 R k ⟨(t, .own s.H.length 0) :: s.σ, s.H ++ [.grow 0 z e []]⟩) : AW P f n n0 R k s := by
  intro h0 E a b cs hst hb hk
  have hv := hst.slot t
  rw [ht] at hv
  generalize hg : a.tmps.getD t undef = v at hv
  cases hv with
  | nil0 ad =>
    obtain ⟨hl, hH⟩ := rep_ghost hst.heap ad e hz
    have hN : n0 ≤ E.N := by rw [hst.heap.N]; exact h0
    have hst' : RepSt (E.ghost ad) n ⟨(t, .own s.H.length 0) :: s.σ, s.H ++ [.grow 0 z e []]⟩ a := by
      refine ⟨hst.size, hst.defers, hH, fun t' => ?_⟩
      simp only [get]
      split
      · rename_i e; subst e
        rw [hg]
        exact .own _ _ _ (by simp [Env.ghost, hst.heap.N]) rfl (by simp [Env.ghost, hst.heap.N]) (fun _ => by simp [Env.ghost, hst.heap.N])
      · exact (hst.slot t').le hl
    obtain ⟨fr, w', v, r, E', H', g1, g2, g3, g4, g5, g6, g7, g8⟩ := h (by simp; omega) (E.ghost ad) a b cs hst' hb hk
    exact ⟨fr, w', v, r, E', H', g1, g2, g3, g4, g5, g6, (hl.trunc hN).trans g7, g8⟩

/-- The world after the cells of object r's block have become such that nobody writes them any more. -/
def Env.freezeRow (E : Env) (r : Nat) : Env := { E with S := fun b i => E.S b i ∨ b = E.β r }

/-- A row that is full is data from now on. -/
theorem AW.freeze {k : List Item} {s : St} (t r : Nat) {z e m : Nat} {xs : List (List D)} (ht : get s.σ t = .rsl r m) (hr : s.H[r]? = some (.row z e xs)) (hm : m = xs.length)
    (h : AW P f n n0 R k ⟨(t, .d (.sl xs)) :: s.σ, s.H.set r .dead⟩) : AW P f n n0 R k s := by
  subst hm
  intro h0 E a b cs hst hb hk
  have hv := hst.slot t
  rw [ht] at hv
  obtain ⟨arr, h1, h2, h3, h3', h4, h5⟩ := hst.heap.obj r _ hr
  have hN : n0 ≤ E.N := by rw [hst.heap.N]; exact h0
  have hpv := hst.heap.pv r _ _ hr rfl
  have hlb := hst.heap.lt r _ _ hr rfl
  have hl : Le E (E.freezeRow r) := by
    refine ⟨rfl, rfl, rfl, Nat.le_refl _, Nat.le_refl _, fun _ _ => rfl, fun _ _ => ⟨Nat.le_refl _, fun _ => rfl⟩, fun _ _ hs => .inl hs, fun _ _ _ => rfl, fun _ _ _ => rfl, fun b i hs => ?_, fun _ hp => .inl hp⟩
    rcases hs with hs | rfl
    · exact .inl hs
    · exact .inr (.inr hpv)
  have hH : RepH (E.freezeRow r) (s.H.set r .dead) := by
    refine hst.heap.turn (r0 := r) (o0 := .dead) hl (by simp [Env.freezeRow, hst.heap.N]) (fun r' hr' => ?_) (fun o' ho' => ?_) (fun _ _ _ => rfl) (fun r' o' b hr' ho' hb => ⟨rfl, fun i hs => ?_⟩) (fun _ hb => hb) (fun b i hs => ?_) trivial (fun b hb => by simp [O.block] at hb)
    · rw [List.getElem?_set_ne (fun e => hr' e.symm)]
    · rw [List.getElem?_set_self (List.getElem?_eq_some_iff.1 hr).1] at ho'
      exact (Option.some.inj ho').symm
    · rcases hs with hs | rfl
      · exact hs
      · exact absurd (hst.heap.apart r' r o' _ _ ho' hr hb rfl) hr'
    · rcases hs with hs | rfl
      · exact hst.heap.Slt b i hs
      · exact hlb
  have hst' : RepSt (E.freezeRow r) n ⟨(t, .d (.sl xs)) :: s.σ, s.H.set r .dead⟩ a := by
    refine ⟨hst.size, hst.defers, hH, fun t' => ?_⟩
    simp only [get]
    split
    · rename_i e; subst e
      generalize a.tmps.getD t undef = v at hv ⊢
      cases hv with
      | rsl _ _ hrN =>
        refine .d _ _ ?_
        by_cases hx : xs = []
        · subst hx; exact .nil _ _
        · refine .sl (E.β r) 0 xs.length z xs (fun i j => arr.getD (i * z + j) undef) hx (Nat.le_refl _) h3' h3 (fun i j hi hj => ?_) (fun i j x c hi hj => ?_)
          · have hxz := h3 xs[i] (List.getElem_mem _)
            obtain ⟨v, k2, k3, k4⟩ := h4 i j xs[i] (xs[i][j]'(by omega)) (List.getElem?_eq_getElem hi) (List.getElem?_eq_getElem _)
            refine ⟨.inr rfl, ?_, ?_⟩
            · simp only [Nat.zero_add]
              show E.w.cell? _ = _
              rw [cell_of_row _ _ _ _ _ _ h1, k2, Array.getD_eq_getD_getElem?, k2]; rfl
            · rw [Array.getD_eq_getD_getElem?, k2]; exact k3
          · obtain ⟨v, k2, k3, k4⟩ := h4 i j x c hi hj
            rw [Array.getD_eq_getD_getElem?, k2]; exact k4.le hl
    · exact (hst.slot t').le hl
  obtain ⟨fr, w', v, r', E', H', g1, g2, g3, g4, g5, g6, g7, g8⟩ := h (by simp; omega) (E.freezeRow r) a b cs hst' hb hk
  exact ⟨fr, w', v, r', E', H', g1, g2, g3, g4, g5, g6, (hl.trunc hN).trans g7, g8⟩

/-! ### Calls on plain data -/

/-- Called on these data the function returns that, and nothing else has turned. -/
def Gives (P : Program) (f : FuncId) (args : List D) (r : C) : Prop := ACalls P f (args.map .d) [] fun c _ => c = r

theorem Gives.calls {args : List D} {r : C} (h : Gives P f args r) (hr : r.refsLtT 0 = true) {H : List O} {K : C → List O → Prop} (hk : K r H) : ACalls P f (args.map .d) H K := by
  intro E vs hH hs ha
  let E0 : Env := { E with N := 0, pv := fun _ => False }
  have hE0 : RepH E0 [] := ⟨rfl, fun r o ho => by simp at ho, fun r o b ho => by simp at ho, fun r o b ho => by simp at ho, fun r r' o o' b ho => by simp at ho, hH.Slt⟩
  refine (h E0 vs hE0 hs (fun i c v hc hv => ?_)).mono ?_
  · have := ha i c v hc hv
    simp only [List.getElem?_map, Option.map_eq_some_iff] at hc
    obtain ⟨d, _, rfl⟩ := hc
    cases this with
    | d _ _ hd => exact .d _ _ hd
  · rintro e w' ⟨v, c, E', H', rfl, rfl, h3, h4, h5, h6, rfl⟩
    have hH' : H' = [] := List.eq_nil_of_length_eq_zero h6
    subst hH'
    let E2 : Env := { E with w := E'.w, S := E'.S }
    have hnew : ∀ b i, E'.S b i → E.S b i ∨ E.w.heap.size ≤ b := fun b i hs => by
      rcases h4.newS b i hs with h' | h' | h'
      · exact .inl h'
      · exact .inr h'
      · exact h'.elim
    have hl : Le E E2 := ⟨h4.os, h4.tape, h4.output, h4.size, Nat.le_refl _, fun _ _ => rfl, fun _ _ => ⟨Nat.le_refl _, fun _ => rfl⟩, h4.S, h4.cell, fun b hb _ => h4.blk b hb (fun h => h), fun b i hs => by
      rcases hnew b i hs with h' | h'
      · exact .inl h'
      · exact .inr (.inl h'), fun _ hp => .inl hp⟩
    have hH2 : RepH E2 H := hH.keep hl rfl (fun _ _ => rfl) (fun r o b ho hb => ⟨h4.blk b (hH.lt r o b ho hb) (fun h => h), fun i hs => by
      rcases hnew b i hs with h' | h'
      · exact h'
      · have := hH.lt r o b ho hb; omega⟩) (fun _ hb => hb) h3.Slt
    have h5' : Rd E2 c v := by
      have gen : ∀ {c : C} {v : Value}, c.refsLt1 0 = true → Rd E' c v → Rd E2 c v := by
        intro c v hc hv
        cases hv with
        | d _ _ hd => exact .d _ _ hd
        | nil0 a => exact .nil0 a
        | nilp => exact .nilp
        | _ => simp [C.refsLt1] at hc
      have gen2 : ∀ {c : C} {v : Value}, c.refsLt 0 = true → Rd E' c v → Rd E2 c v := by
        intro c v hc hv
        cases hv with
        | d _ _ hd => exact .d _ _ hd
        | nil0 a => exact .nil0 a
        | nilp => exact .nilp
        | fn g cs vs hl hr =>
          simp only [C.refsLt, List.all_eq_true] at hc
          exact .fn _ _ _ hl (fun i c v hci hv => gen (hc c (List.mem_of_getElem? hci)) (hr i c v hci hv))
        | agg cs vs hl h1 hr =>
          simp only [C.refsLt, List.all_eq_true] at hc
          exact .agg _ _ hl h1 (fun i c v hci hv => gen (hc c (List.mem_of_getElem? hci)) (hr i c v hci hv))
        | _ => simp [C.refsLt, C.refsLt1] at hc
      cases h5 with
      | d _ _ hd => exact .d _ _ hd
      | nil0 a => exact .nil0 a
      | nilp => exact .nilp
      | tup cs vs hl hrr =>
        simp only [C.refsLtT, List.all_eq_true] at hr
        exact .tup _ _ hl (fun i c v hci hv => gen2 (hr c (List.mem_of_getElem? hci)) (hrr i c v hci hv))
      | fn g cs vs hl hrr => exact gen2 (by simpa [C.refsLtT] using hr) (.fn g cs vs hl hrr)
      | agg cs vs hl h1 hrr => exact gen2 (by simpa [C.refsLtT] using hr) (.agg cs vs hl h1 hrr)
      | _ => simp [C.refsLtT, C.refsLt, C.refsLt1] at hr
    exact ⟨v, c, E2, H, rfl, rfl, hH2, hl, h5', rfl, hk⟩

theorem Gives.callQ {args : List D} {r : C} (h : Gives P f args r) (hr : r.refsLtT 0 = true) {H : List O} {K : C → Prop} (hk : K r) : CallQ P f (args.map .d) H K :=
  ⟨r, h.calls hr ⟨rfl, rfl⟩, hk⟩

end
end Go.Abs
