/- The plain-data layer, part 17: regions whose order the tape draws, where every operation answers alike in any order. -/
import Derived.Test.YtkmbaakiliafeaaAbs16
import Derived.Still
namespace Go.Abs

/-- An operation with one answer that leaves the objects as they are. -/
def Quiet (P : Program) (s : St) (o : Oper) (c : C) : Prop := vcEff P s o fun c' H' => c' = c ∧ H' = s.H

/-- A call with one answer. -/
def CallQ (P : Program) (g : FuncId) (args : List C) (H : List O) (K : C → Prop) : Prop := ∃ c, ACalls P g args H (fun c' H' => c' = c ∧ H' = H) ∧ K c

def kSlQ (K : C → Prop) (n : Nat) : List (List D) → Prop := fun l => K (if n = 0 then .nil0 else .d (.sl l))
def kD (F : St → Prop) (s : St) (dst : Option Tmp) : C → Prop := fun c => F (put s dst c)

/-- One operation of a drawn region: it has one answer, which goes to K. -/
def vcQ (P : Program) (s : St) (o : Oper) (K : C → Prop) : Prop :=
  match o.op with
  | .buildSlice t n ps => (match tSlice P t with
    | some (_, z, _) => n * z ≤ 16777216 ∧ ps.size = n ∧ vcElems s z (kSlQ K n) ps.toList 0
    | none => False)
  | .call c =>
    (match c.callee with
    | .value f => okOperand f = true ∧ (c.args.all okOperand) = true ∧ (match ev s f with
      | .fn g caps => isGo P g = true ∧ CallQ P g (c.args.toList.map (fun x => norm s (ev s x)) ++ caps) s.H K
      | _ => False)
    | _ => vcPure P s o.op K)
  | _ => vcPure P s o.op K

/-- The operations of a drawn region, in the text's order. -/
def vcD (P : Program) (n : Nat) (ops : Array Oper) (K : St → Prop) : List Oper → St → Prop
  | [], ⟨σ, H⟩ => K ⟨σ, H⟩
  | o :: rest, ⟨σ, H⟩ => okDst n o = true ∧
    (match o.guard with
    | none => vcQ P ⟨σ, H⟩ o (kD (vcD P n ops K rest) ⟨σ, H⟩ o.dst)
    | some (j, want) =>
      match (ops[j]?).bind (·.dst) with
      | some t =>
        match get σ t with
        | .d (.bool b) =>
          br (b == want) (app (vcQ P (put ⟨σ, H⟩ (some t) (.d (.bool want))) o) (kD (vcD P n ops K rest) (put ⟨σ, H⟩ (some t) (.d (.bool want))) o.dst))
            (app (vcD P n ops K rest) (put (put ⟨σ, H⟩ (some t) (.d (.bool (!want)))) o.dst (.tup [])))
        | .tup [] => vcD P n ops K rest (put ⟨σ, H⟩ o.dst (.tup []))
        | _ => False
      | none => False)

theorem vcQ_quiet {P : Program} {s : St} {o : Oper} {K : C → Prop} (h : vcQ P s o K) : ∃ c, Quiet P s o c ∧ K c := by
  unfold vcQ at h
  unfold Quiet vcEff
  split at h
  · rename_i t n ps ho
    simp only [ho]
    split at h
    · rename_i e z by_ ht
      obtain ⟨h1, h2, h3⟩ := h
      obtain ⟨l, h4, h5⟩ := vcElems_det _ _ _ h3
      refine ⟨_, ?_, h5⟩
      simp only [ht]
      refine ⟨h1, h2, ?_⟩
      have gen : ∀ (r : List (Nat × Operand)) (k : Nat) (K K' : List (List D) → Prop), (∀ l, K l → K' l) → vcElems s z K r k → vcElems s z K' r k := by
        intro r
        induction r with
        | nil => intro k K K' hk h; exact hk _ h
        | cons p r ih =>
          intro k K K' hk h
          obtain ⟨i, x⟩ := p
          unfold vcElems at h ⊢
          refine ⟨h.1, h.2.1, h.2.2.1, ?_⟩
          have h4 := h.2.2.2
          split at h4
          · exact ⟨h4.1, ih _ _ _ (fun l hl => hk _ hl) h4.2⟩
          · exact h4.elim
      exact gen _ _ _ _ (fun l hl => by rw [hl]; exact ⟨rfl, rfl⟩) h4
    · exact h.elim
  · rename_i c ho
    obtain ⟨callee, args, argTypes⟩ := c
    simp only [ho] at h ⊢
    split at h
    · rename_i f
      obtain ⟨h1, h2, h3⟩ := h
      simp only
      split at h3
      · rename_i g caps hev
        obtain ⟨h4, c, h5, h6⟩ := h3
        refine ⟨c, ⟨h1, h2, ?_⟩, h6⟩
        rw [hev]
        exact ⟨h4, h5⟩
      · exact h3.elim
    · rename_i hnv
      obtain ⟨c, h1, h2⟩ := vcPure_det h
      refine ⟨c, ?_, h2⟩
      have e : kAt (fun c' H' => c' = c ∧ H' = s.H) s.H = (fun c_1 => c_1 = c) := by funext x; simp [kAt]
      rw [e]
      split
      · -- append: not met by vcPure
        exfalso
        unfold vcPure at h1
        simp at h1
      · exact absurd rfl (hnv _)
      · exact h1
  · rename_i hn1 hn2
    obtain ⟨c, h1, h2⟩ := vcPure_det h
    refine ⟨c, ?_, h2⟩
    have hpure : vcPure P s o.op (kAt (fun c' H' => c' = c ∧ H' = s.H) s.H) := by
      have e : kAt (fun c' H' => c' = c ∧ H' = s.H) s.H = (fun c_1 => c_1 = c) := by funext x; simp [kAt]
      rw [e]; exact h1
    split
    · rename_i ho; rw [ho] at h1; unfold vcPure at h1; simp at h1
    · rename_i ho; rw [ho] at h1; unfold vcPure at h1; simp at h1
    · rename_i ho; rw [ho] at h1; unfold vcPure at h1; simp at h1
    · rename_i ho; exact absurd ho (hn1 _ _ _)
    · rename_i ho; rw [ho] at h1; unfold vcPure at h1; simp at h1
    · rename_i ho; rw [ho] at h1; unfold vcPure at h1; simp at h1
    · rename_i ho; rw [ho] at h1; unfold vcPure at h1; simp at h1
    · rename_i ho; rw [ho] at h1; unfold vcPure at h1; simp at h1
    · rename_i ho; rw [ho] at h1; unfold vcPure at h1; simp at h1
    · rename_i ho; rw [ho] at h1; unfold vcPure at h1; simp at h1
    · rename_i ho; exact absurd ho (hn2 _)
    · exact hpure

def upd (σ : Nat → C) (dst : Option Tmp) (c : C) : Nat → C := match dst with
  | some d => fun t => if d = t then c else σ t
  | none => σ

theorem get_put (s : St) (dst : Option Tmp) (c : C) : get (put s dst c).σ = upd (get s.σ) dst c := by
  cases dst <;> rfl

theorem upd_comm (σ : Nat → C) {x y : Option Tmp} (c d : C) (h : ∀ k, x = some k → y ≠ some k) : upd (upd σ x c) y d = upd (upd σ y d) x c := by
  cases x with
  | none => rfl
  | some k =>
    cases y with
    | none => rfl
    | some l =>
      have hne : k ≠ l := fun e => h k rfl (by rw [e])
      funext t
      simp only [upd]
      by_cases h1 : l = t
      · subst h1; simp [hne]
      · simp [h1]

structure RepF (E : Env) (n : Nat) (H : List O) (σ : Nat → C) (a : Act) : Prop where
  size : a.tmps.size = n
  defers : a.defers = []
  heap : RepH E H
  slot : ∀ t, Rd E (σ t) (a.tmps.getD t undef)

theorem RepSt.toF {E : Env} {n : Nat} {s : St} {a : Act} (h : RepSt E n s a) : RepF E n s.H (get s.σ) a := ⟨h.size, h.defers, h.heap, h.slot⟩

def tmpsOf (op : Op) : List Nat := op.operands.toList.filterMap fun | .tmp t => some t | _ => none

def stOf (σ : Nat → C) (H : List O) (ts : List Nat) : St := ⟨ts.map fun t => (t, σ t), H⟩

theorem get_stOf (σ : Nat → C) (H : List O) (ts : List Nat) (t : Nat) : get (stOf σ H ts).σ t = if t ∈ ts then σ t else .top := by
  unfold stOf
  induction ts with
  | nil => simp [get]
  | cons x r ih =>
    simp only [List.map_cons, get]
    by_cases e : x = t
    · subst e; simp
    · simp only [if_neg e]
      dsimp only at ih
      rw [ih]
      have : t ≠ x := fun h => e h.symm
      simp [this]

theorem RepF.toSt {E : Env} {n : Nat} {H : List O} {σ : Nat → C} {a : Act} (h : RepF E n H σ a) (ts : List Nat) : RepSt E n (stOf σ H ts) a := by
  refine ⟨h.size, h.defers, h.heap, fun t => ?_⟩
  rw [get_stOf]
  split
  · exact h.slot t
  · exact .top _

theorem RepF.put {E E' : Env} {n : Nat} {H : List O} {σ : Nat → C} {a : Act} (h : RepF E n H σ a) (hl : Le E E') (hH : RepH E' H) {dst : Option Tmp} {c : C} {v : Value}
    (hd : ∀ d, dst = some d → d < n) (hv : Rd E' c v) : RepF E' n H (upd σ dst c) (a.put dst v) := by
  cases dst with
  | none => exact ⟨h.size, h.defers, hH, fun t => (h.slot t).le hl⟩
  | some d =>
    refine ⟨by simp [Act.put, h.size], h.defers, hH, fun t => ?_⟩
    have hdn := hd d rfl
    have hs := h.size
    by_cases e : d = t
    · subst e
      simp only [upd, if_pos, Act.put]
      have : d < a.tmps.size := by rw [hs]; exact hdn
      simpa [Array.getD_eq_getD_getElem?, this] using hv
    · simp only [upd, if_neg e, Act.put]
      rw [Array.getD_eq_getD_getElem?, Array.getElem?_setIfInBounds_ne e, ← Array.getD_eq_getD_getElem?]
      exact (h.slot t).le hl

section
variable {P : Program} {n : Nat} {ops : Array Oper} {md : Region.Mode} {H : List O}

/-- In state σ operation o answers c. -/
def Answers (P : Program) (n : Nat) (ops : Array Oper) (H : List O) (o : Oper) (c : C) (σ : Nat → C) : Prop :=
  okDst n o = true ∧
  match o.guard with
  | none => Quiet P (stOf σ H (tmpsOf o.op)) o c
  | some (j, want) => ∃ t, (ops[j]?).bind (·.dst) = some t ∧ ((∃ b, σ t = .d (.bool b) ∧ (b = want → Quiet P (stOf σ H (tmpsOf o.op)) o c) ∧ (b = (!want) → c = .tup [])) ∨ (σ t = .tup [] ∧ c = .tup []))

theorem answers_congr {o : Oper} {c d : C} {σ : Nat → C} {x : Option Tmp} (h : ∀ k, x = some k → k ∉ o.looksAt ops) : Answers P n ops H o c (upd σ x d) ↔ Answers P n ops H o c σ := by
  have e1 : stOf (upd σ x d) H (tmpsOf o.op) = stOf σ H (tmpsOf o.op) := by
    unfold stOf
    congr 1
    apply List.map_congr_left
    intro t ht
    cases x with
    | none => rfl
    | some k =>
      have hk := h k rfl
      have hne : k ≠ t := fun e => by
        subst e
        exact hk (by unfold Oper.looksAt; exact List.mem_append_left _ ht)
      simp [upd, hne]
  unfold Answers
  rw [e1]
  cases hg : o.guard with
  | none => exact Iff.rfl
  | some jw =>
    obtain ⟨j, want⟩ := jw
    have e2 : ∀ t, (ops[j]?).bind (·.dst) = some t → upd σ x d t = σ t := fun t ht => by
      cases x with
      | none => rfl
      | some k =>
        have hk := h k rfl
        have hne : k ≠ t := fun e => by
          subst e
          exact hk (by unfold Oper.looksAt; simp [hg, ht])
        simp [upd, hne]
    simp only
    constructor
    · rintro ⟨h0, t, h1, h2⟩; rw [e2 t h1] at h2; exact ⟨h0, t, h1, h2⟩
    · rintro ⟨h0, t, h1, h2⟩; rw [← e2 t h1] at h2; exact ⟨h0, t, h1, h2⟩

def aOp (P : Program) (n : Nat) (ops : Array Oper) (H : List O) (i : Nat) (K : (Nat → C) → Prop) (σ : Nat → C) : Prop :=
  match ops[i]? with
  | none => K σ
  | some o => ∃ c, Answers P n ops H o c σ ∧ K (upd σ o.dst c)

theorem aOp_mono {i : Nat} {σ : Nat → C} {K K' : (Nat → C) → Prop} (h : ∀ σ, K σ → K' σ) (hh : aOp P n ops H i K σ) : aOp P n ops H i K' σ := by
  unfold aOp at *
  split
  · exact h _ (by simpa [*] using hh)
  · rename_i o ho
    simp only [ho] at hh
    obtain ⟨c, h1, h2⟩ := hh
    exact ⟨c, h1, h _ h2⟩

/-- Whatever order is picked from here on. -/
def anyA (P : Program) (n : Nat) (md : Region.Mode) (ops : Array Oper) (H : List O) (Q : (Nat → C) → Prop) : Nat → Array Bool → (Nat → C) → Prop
  | 0, listed, σ => Region.ready md ops listed = [] ∧ Q σ
  | fuel + 1, listed, σ => (Region.ready md ops listed = [] → Q σ) ∧ ∀ i ∈ Region.ready md ops listed, aOp P n ops H i (anyA P n md ops H Q fuel (listed.setIfInBounds i true)) σ

def BehindF (n : Nat) (E0 : Env) (H : List O) (Q : (Nat → C) → Prop) : Exit → Act → World → Prop :=
  fun e a' w' => e = .normal ∧ ∃ E' σ, E'.w = w' ∧ RepF E' n H σ a' ∧ Le E0 E' ∧ Q σ

theorem wanted_ofF {E : Env} {σ : Nat → C} {a : Act} (hst : RepF E n H σ a) {o : Oper} {j : Nat} {want b : Bool} {t : Tmp} (hg : o.guard = some (j, want)) (ht : (ops[j]?).bind (·.dst) = some t) (hb : σ t = .d (.bool b)) :
    Region.wanted o (yielded ops a.tmps) = (b == want) := by
  have := wanted_of (ops := ops) (hst.toSt [t]) hg ht (b := b) (by rw [get_stOf]; simp [hb])
  exact this

theorem wanted_skipF {E : Env} {σ : Nat → C} {a : Act} (hst : RepF E n H σ a) {o : Oper} {j : Nat} {want : Bool} {t : Tmp} (hg : o.guard = some (j, want)) (ht : (ops[j]?).bind (·.dst) = some t) (hb : σ t = .tup []) :
    Region.wanted o (yielded ops a.tmps) = false := by
  exact wanted_skip (ops := ops) (hst.toSt [t]) hg ht (by rw [get_stOf]; simp [hb])

theorem any_sound {Q : (Nat → C) → Prop} {E0 : Env} : ∀ (fuel : Nat) (listed : Array Bool) (σ : Nat → C) (E : Env) (a : Act), anyA P n md ops H Q fuel listed σ → RepF E n H σ a → Le E0 E →
    wpAny P md ops (BehindF n E0 H Q) fuel listed a E.w
  | 0, _, σ, E, a, h, hst, hl => ⟨h.1, rfl, E, σ, rfl, hst, hl, h.2⟩
  | fuel + 1, listed, σ, E, a, h, hst, hl => by
    refine ⟨fun h0 => ⟨rfl, E, σ, rfl, hst, hl, h.1 h0⟩, fun i hi => ?_⟩
    have hop := h.2 i hi
    unfold aOp at hop
    unfold wpOp
    split
    · rename_i ho
      simp only [ho] at hop
      exact any_sound fuel _ σ E a hop hst hl
    · rename_i o ho
      simp only [ho] at hop
      obtain ⟨c, ⟨hd, hans⟩, hk⟩ := hop
      have hdst : ∀ d, o.dst = some d → d < n := fun d hd' => by
        unfold okDst at hd
        rw [hd'] at hd
        simpa using hd
      have run : Quiet P (stOf σ H (tmpsOf o.op)) o c → o.wp P a E.w (wpAny P md ops (BehindF n E0 H Q) fuel (listed.setIfInBounds i true)) (BehindF n E0 H Q) := by
        intro hq
        have hw := vcEff_sound hq E n a (hst.toSt _)
        unfold Oper.wp at hw ⊢
        generalize (execOp a.eval o).run P E.w = r at hw ⊢
        have key : ∀ a' w', (∃ v E' c' H', a' = a.put o.dst v ∧ E'.w = w' ∧ Rd E' c' v ∧ RepH E' H' ∧ Le E E' ∧ c' = c ∧ H' = (stOf σ H (tmpsOf o.op)).H) → wpAny P md ops (BehindF n E0 H Q) fuel (listed.setIfInBounds i true) a' w' := by
          rintro a' w' ⟨v, E', c', H', rfl, rfl, h1, h2, h3, h4, h5⟩
          have h5' : H' = H := h5
          rw [h5'] at h2
          rw [h4] at h1
          exact any_sound fuel _ _ E' _ hk (hst.put h3 h2 hdst h1) (hl.trans h3)
        cases r with
        | ok x w' =>
          cases x <;> simp only [Oper.upon] at hw ⊢ <;> first
            | exact key _ _ hw
            | exact Calls.mono hw (fun e w'' he => by cases e <;> first | exact key _ _ he | exact he.elim | (obtain ⟨_, _, h⟩ := he; exact h.elim))
            | exact Rows.mono hw (fun _ _ he => key _ _ he)
            | exact hw
        | halt x w' => cases x <;> simp only [Oper.upon] at hw
      cases hg : o.guard with
      | none =>
        simp only [hg] at hans
        have hw : Region.wanted o (yielded ops a.tmps) = true := by simp [Region.wanted, hg]
        rw [if_pos hw]
        exact .inl (run hans)
      | some jw =>
        obtain ⟨j, want⟩ := jw
        simp only [hg] at hans
        obtain ⟨t, h1, hor⟩ := hans
        rcases hor with ⟨b, h2, h3, h4⟩ | ⟨h2, hc⟩
        · rw [wanted_ofF hst hg h1 h2]
          by_cases e : b = want
          · rw [if_pos (by simpa using e)]
            exact .inl (run (h3 e))
          · rw [if_neg (by simpa using e)]
            have e' : b = !want := by cases b <;> cases want <;> simp_all
            have hc := h4 e'
            subst hc
            exact any_sound fuel _ _ E _ hk (hst.put (Le.refl E) hst.heap hdst (rd_undef E)) hl
        · rw [wanted_skipF hst hg h1 h2, if_neg (by simp)]
          subst hc
          exact any_sound fuel _ _ E _ hk (hst.put (Le.refl E) hst.heap hdst (rd_undef E)) hl

/-- One operation apart from another: neither heeds whether the other has been carried out. -/
theorem aOp_put {j : Nat} {oi oj : Oper} {c : C} (hj : ops[j]? = some oj) (hap : oi.apart ops oj = true) {K : (Nat → C) → Prop} {σ : Nat → C}
    (hy : Answers P n ops H oi c σ) (h : aOp P n ops H j K (upd σ oi.dst c)) :
    aOp P n ops H j (fun σ' => Answers P n ops H oi c σ' ∧ K (upd σ' oi.dst c)) σ := by
  obtain ⟨h1, h2, h3⟩ := Oper.apart_spec hap
  unfold aOp at *
  simp only [hj] at *
  obtain ⟨d, hd, hk⟩ := h
  refine ⟨d, (answers_congr h1).1 hd, (answers_congr h3).2 hy, ?_⟩
  rw [← upd_comm σ c d h2]
  exact hk

theorem anyA_first {Q : (Nat → C) → Prop} {i : Nat} {oi : Oper} {c : C} (hi : ops[i]? = some oi) :
    ∀ (fuel : Nat) (listed : Array Bool) (σ : Nat → C),
      (∀ j oj, ops[j]? = some oj → j ≠ i → listed.getD j true = false → (∀ e ∈ oj.after, Region.binds md e = true → e.on ≠ i) → oi.apart ops oj = true) →
      i ∈ Region.ready md ops listed → Answers P n ops H oi c σ →
      anyA P n md ops H Q fuel (listed.setIfInBounds i true) (upd σ oi.dst c) → anyA P n md ops H Q (fuel + 1) listed σ := by
  intro fuel
  induction fuel with
  | zero =>
    intro listed σ _ hr hy Hh
    refine ⟨fun h => (by rw [h] at hr; cases hr), fun j hj => ?_⟩
    by_cases hji : j = i
    · subst hji; unfold aOp; simp only [hi]; exact ⟨c, hy, Hh⟩
    · have := ready_mono hj hji
      rw [Hh.1] at this
      cases this
  | succ fuel ih =>
    intro listed σ hfree hr hy Hh
    refine ⟨fun h => (by rw [h] at hr; cases hr), fun j hj => ?_⟩
    by_cases hji : j = i
    · subst hji; unfold aOp; simp only [hi]; exact ⟨c, hy, Hh⟩
    · have h1 := Hh.2 j (ready_mono hj hji)
      obtain ⟨hjun, oj, hoj, hall⟩ := mem_ready.1 hj
      have hnot : ∀ e ∈ oj.after, Region.binds md e = true → e.on ≠ i := fun e he hb heq => by
        have h1 := hall e he hb
        have h0 := (mem_ready.1 hr).1
        rw [heq] at h1
        rcases Nat.lt_or_ge i listed.size with h' | h'
        · simp [h'] at h0 h1; rw [h0] at h1; cases h1
        · simp [Array.getElem?_eq_none h'] at h1
      have h2 := aOp_put hoj (hfree j oj hoj hji hjun hnot) hy h1
      have hfree' : ∀ k ok, ops[k]? = some ok → k ≠ i → (listed.setIfInBounds j true).getD k true = false →
          (∀ e ∈ ok.after, Region.binds md e = true → e.on ≠ i) → oi.apart ops ok = true := fun k ok hk hki hun hno => by
        refine hfree k ok hk hki ?_ hno
        by_cases hjk : j = k
        · subst hjk; exact hjun
        · rw [getD_set_ne true hjk] at hun; exact hun
      refine aOp_mono (fun σ' h3 => ih (listed.setIfInBounds j true) σ' hfree' (ready_mono hr (Ne.symm hji)) h3.1 ?_) h2
      rw [Array.setIfInBounds_comm _ _ hji]
      exact h3.2

theorem answers_of {s : St} {o : Oper} {c : C} (h : Quiet P s o c) : Quiet P (stOf (get s.σ) s.H (tmpsOf o.op)) o c := by
  refine vcEff_congr (s := s) rfl (fun x hx => ?_) h
  cases x with
  | tmp t =>
    show get s.σ t = get (stOf (get s.σ) s.H (tmpsOf o.op)).σ t
    rw [get_stOf, if_pos]
    exact List.mem_filterMap.2 ⟨.tmp t, by simpa using hx, rfl⟩
  | _ => rfl

theorem vcD_any {K : St → Prop} : ∀ (l : List Oper) (k : Nat) (listed : Array Bool) (s : St), (∀ j, l[j]? = ops[k + j]?) →
    Region.lexFrom md ops l.length k listed = true → vcD P n ops K l s → anyA P n md ops s.H (fun σ => ∃ s', get s'.σ = σ ∧ s'.H = s.H ∧ K s') l.length listed (get s.σ)
  | [], _, _, s, _, hB, h => ⟨by simpa [Region.lexFrom] using hB, s, rfl, rfl, h⟩
  | o :: l, k, listed, s, hl, hB, h => by
    have h0 : ops[k]? = some o := by simpa using (hl 0).symm
    simp only [List.length_cons, Region.lexFrom, Bool.and_eq_true] at hB
    obtain ⟨⟨hr, hf⟩, hB'⟩ := hB
    have hl' : ∀ j, l[j]? = ops[k + 1 + j]? := fun j => by have := hl (j + 1); simpa [Nat.add_assoc, Nat.add_comm 1 j] using this
    have next : ∀ (s1 : St) (c : C), s1.H = s.H → get s1.σ = get s.σ → Answers P n ops s.H o c (get s.σ) → vcD P n ops K l (put s1 o.dst c) →
        anyA P n md ops s.H (fun σ => ∃ s', get s'.σ = σ ∧ s'.H = s.H ∧ K s') (l.length + 1) listed (get s.σ) := by
      intro s1 c hH hσ ha hv
      have hp : (put s1 o.dst c).H = s.H := by cases o.dst <;> exact hH
      have := vcD_any l (k + 1) (listed.setIfInBounds k true) _ hl' hB' hv
      rw [get_put, hp, hσ] at this
      exact anyA_first h0 l.length listed (get s.σ) (Region.free_spec h0 hf) (by simpa using hr) ha this
    unfold vcD at h
    obtain ⟨hd, h⟩ := h
    simp only [List.length_cons]
    cases hg : o.guard with
    | none =>
      simp only [hg] at h
      obtain ⟨c, hq, hv⟩ := vcQ_quiet h
      exact next s c rfl rfl ⟨hd, by simp only [hg]; exact answers_of hq⟩ hv
    | some jw =>
      obtain ⟨j, want⟩ := jw
      simp only [hg] at h
      split at h
      · rename_i t ht
        split at h
        · rename_i b hb
          obtain ⟨h1, h2⟩ := h
          have same : ∀ w : Bool, b = w → get (put s (some t) (.d (.bool w))).σ = get s.σ := by
            intro w e
            subst e
            rw [get_put]
            funext t'
            simp only [upd]
            split
            · rename_i e; subst e; exact hb.symm
            · rfl
          by_cases e : b = want
          · obtain ⟨c, hq, hv⟩ := vcQ_quiet (h1 (by simpa using e))
            refine next (put s (some t) (.d (.bool want))) c rfl (same _ e) ⟨hd, ?_⟩ hv
            simp only [hg]
            have := answers_of hq
            rw [same _ e] at this
            exact ⟨t, ht, .inl ⟨b, hb, fun _ => this, fun e' => by rw [e] at e'; cases want <;> simp at e'⟩⟩
          · have e' : b = !want := by cases b <;> cases want <;> simp_all
            refine next (put s (some t) (.d (.bool (!want)))) (.tup []) rfl (same _ e') ⟨hd, ?_⟩ (h2 (by simpa using e))
            simp only [hg]
            exact ⟨t, ht, .inl ⟨b, hb, fun e2 => absurd e2 e, fun _ => trivial⟩⟩
        · rename_i hb
          refine next s (.tup []) rfl rfl ⟨hd, ?_⟩ h
          simp only [hg]
          exact ⟨t, ht, .inr ⟨hb, trivial⟩⟩
        · exact h.elim
      · exact h.elim

end
end Go.Abs
