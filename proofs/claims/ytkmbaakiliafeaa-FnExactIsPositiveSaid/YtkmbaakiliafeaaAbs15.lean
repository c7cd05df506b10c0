/- The plain-data layer, part 15: regions whose order is the text's. -/
import Derived.Test.YtkmbaakiliafeaaAbs14
namespace Go.Abs

/-- An operation's place for its result lies within the frame. -/
def okDst (n : Nat) (o : Oper) : Bool := match o.dst with | some d => decide (d < n) | none => true

/-- Two ways on; a way that is shut is not looked at. -/
def br (b : Bool) (p q : Unit → Prop) : Prop := (b = true → p ()) ∧ (b = false → q ())
def app {α : Type} (F : α → Prop) (x : α) : Unit → Prop := fun _ => F x
theorem br_true (p q : Unit → Prop) : br true p q = p () := by simp [br]
theorem br_false (p q : Unit → Prop) : br false p q = q () := by simp [br]
theorem app_eq {α : Type} (F : α → Prop) (x : α) : app F x () = F x := rfl
theorem br_intro {α β : Type} {b : Bool} {F : α → Prop} {x : α} {G : β → Prop} {y : β} (h : b = true → F x) (k : b = false → G y) : br b (app F x) (app G y) := ⟨h, k⟩

def kR (F : St → Prop) (s : St) (dst : Option Tmp) : C → List O → Prop := fun c H' => F (put { s with H := H' } dst c)

/-- The operations of a region, one behind the other; K holds of the state behind them. -/
def vcR (P : Program) (n : Nat) (ops : Array Oper) (K : St → Prop) : List Oper → St → Prop
  | [], ⟨σ, H⟩ => K ⟨σ, H⟩
  | o :: rest, ⟨σ, H⟩ => okDst n o = true ∧
    (match o.guard with
    | none => vcEff P ⟨σ, H⟩ o (kR (vcR P n ops K rest) ⟨σ, H⟩ o.dst)
    | some (j, want) =>
      match (ops[j]?).bind (·.dst) with
      | some t =>
        match get σ t with
        | .d (.bool b) =>
          br (b == want) (app (vcEff P (put ⟨σ, H⟩ (some t) (.d (.bool want))) o) (kR (vcR P n ops K rest) (put ⟨σ, H⟩ (some t) (.d (.bool want))) o.dst))
            (app (vcR P n ops K rest) (put (put ⟨σ, H⟩ (some t) (.d (.bool (!want)))) o.dst (.tup [])))
        | .tup [] => vcR P n ops K rest (put ⟨σ, H⟩ o.dst (.tup []))
        | _ => False
      | none => False)

section
variable {P : Program} {n : Nat} {ops : Array Oper} {K : St → Prop}

/-- What holds behind a region. -/
def Behind (n : Nat) (E0 : Env) (K : St → Prop) : Exit → Act → World → Prop :=
  fun e a' w' => e = .normal ∧ ∃ E' s', E'.w = w' ∧ RepSt E' n s' a' ∧ Le E0 E' ∧ K s'

theorem wanted_of {s : St} {E : Env} {a : Act} (hst : RepSt E n s a) {o : Oper} {j : Nat} {want b : Bool} {t : Tmp} (hg : o.guard = some (j, want)) (ht : (ops[j]?).bind (·.dst) = some t) (hb : get s.σ t = .d (.bool b)) :
    Region.wanted o (yielded ops a.tmps) = (b == want) := by
  have hv := hst.slot t
  rw [hb] at hv
  unfold Region.wanted
  simp only [hg]
  unfold yielded
  simp only [ht]
  generalize hx : a.tmps.getD t undef = v at hv
  cases hv with
  | d _ _ hd =>
    cases hd
    rw [Array.getD_eq_getD_getElem?] at hx
    cases hh : a.tmps[t]? with
    | none => rw [hh] at hx; simp [undef] at hx
    | some x =>
      rw [hh] at hx
      simp only [Option.getD_some] at hx
      subst hx
      simp only [Option.bind_some, hh]
      cases b <;> cases want <;> rfl

theorem rd_undef (E : Env) : Rd E (.tup []) undef := .tup [] #[] rfl (fun i c v hc => by simp at hc)

theorem wanted_skip {s : St} {E : Env} {a : Act} (hst : RepSt E n s a) {o : Oper} {j : Nat} {want : Bool} {t : Tmp} (hg : o.guard = some (j, want)) (ht : (ops[j]?).bind (·.dst) = some t) (hb : get s.σ t = .tup []) :
    Region.wanted o (yielded ops a.tmps) = false := by
  have hv := hst.slot t
  rw [hb] at hv
  unfold Region.wanted
  simp only [hg]
  unfold yielded
  simp only [ht]
  generalize hx : a.tmps.getD t undef = v at hv
  cases hv with
  | tup _ vs hl _ =>
    rw [Array.getD_eq_getD_getElem?] at hx
    cases hh : a.tmps[t]? with
    | none => simp [hh]
    | some x =>
      rw [hh] at hx
      simp only [Option.getD_some] at hx
      subst hx
      simp [hh]

theorem RepSt.same {s : St} {E : Env} {a : Act} (hst : RepSt E n s a) {t : Nat} {c : C} (hc : get s.σ t = c) : RepSt E n (Abs.put s (some t) c) a := by
  refine ⟨hst.size, hst.defers, hst.heap, fun t' => ?_⟩
  simp only [Abs.put, get]
  split
  · rename_i e; subst e; rw [← hc]; exact hst.slot t
  · exact hst.slot t'

theorem vcR_sound : ∀ (os : List Oper) (l : List Nat) (s : St) (E0 E : Env) (a : Act), l.map (ops[·]?) = os.map some → RepSt E n s a → Le E0 E → vcR P n ops K os s →
    wpOps P ops (Behind n E0 K) l a E.w
  | [], l, s, E0, E, a, hl, hst, hle, h => by
    have : l = [] := by simpa using hl
    subst this
    exact ⟨rfl, E, s, rfl, hst, hle, h⟩
  | o :: os, l, s, E0, E, a, hl, hst, hle, h => by
    cases l with
    | nil => simp at hl
    | cons i l =>
      simp only [List.map_cons, List.cons.injEq] at hl
      obtain ⟨ho, hl⟩ := hl
      unfold vcR at h
      obtain ⟨hd, h⟩ := h
      have hdst : ∀ d, o.dst = some d → d < n := fun d hd' => by
        unfold okDst at hd
        rw [hd'] at hd
        simpa using hd
      simp only [wpOps, ho]
      have run : ∀ (s : St), RepSt E n s a → vcEff P s o (kR (vcR P n ops K os) s o.dst) → o.wp P a E.w (wpOps P ops (Behind n E0 K) l) (Behind n E0 K) := by
        intro s hst h
        have hw := vcEff_sound h E n a hst
        unfold Oper.wp at hw ⊢
        generalize (execOp a.eval o).run P E.w = r at hw ⊢
        have key : ∀ a' w', (∃ v E' c H', a' = a.put o.dst v ∧ E'.w = w' ∧ Rd E' c v ∧ RepH E' H' ∧ Le E E' ∧ vcR P n ops K os (put { s with H := H' } o.dst c)) → wpOps P ops (Behind n E0 K) l a' w' := by
          rintro a' w' ⟨v, E', c, H', rfl, rfl, h1, h2, h3, h4⟩
          exact vcR_sound os l _ E0 E' _ hl (hst.put h3 h2 hdst h1) (hle.trans h3) h4
        cases r with
        | ok x w' =>
          cases x <;> simp only [Oper.upon] at hw ⊢ <;> first
            | exact key _ _ hw
            | exact Calls.mono hw (fun e w'' he => by cases e <;> first | exact key _ _ he | exact he.elim | (obtain ⟨_, _, h⟩ := he; exact h.elim))
            | exact Rows.mono hw (fun _ _ he => key _ _ he)
            | exact hw
        | halt x w' => cases x <;> simp only [Oper.upon] at hw
      cases hg : o.guard with
      | none =>
        simp only [hg] at h
        have hw : Region.wanted o (yielded ops a.tmps) = true := by simp [Region.wanted, hg]
        rw [if_pos hw]
        exact .inl (run s hst h)
      | some gw =>
        obtain ⟨j, want⟩ := gw
        simp only [hg] at h
        split at h
        · rename_i t ht
          split at h
          · rename_i b hb
            obtain ⟨h1, h2⟩ := h
            rw [wanted_of hst hg ht hb]
            by_cases e : b = want
            · rw [if_pos (by simpa using e)]
              exact .inl (run _ (hst.same (by rw [hb, e])) (h1 (by simpa using e)))
            · rw [if_neg (by simpa using e)]
              have e' : b = !want := by cases b <;> cases want <;> simp_all
              have hst' := hst.same (t := t) (c := .d (.bool (!want))) (by rw [hb, e'])
              exact vcR_sound os l _ E0 E _ hl (hst'.put (Le.refl E) hst'.heap hdst (rd_undef E)) hle (h2 (by simpa using e))
          · rename_i hb
            rw [wanted_skip hst hg ht hb, if_neg (by simp)]
            exact vcR_sound os l _ E0 E _ hl (hst.put (Le.refl E) hst.heap hdst (rd_undef E)) hle h
          · exact h.elim
        · exact h.elim

end
end Go.Abs
