/- Plain law, part 5: tests of simple goals; programs. -/
import Derived.Test.YtkmbaakiliafeaaPl4
set_option linter.unusedVariables false
set_option linter.unusedSimpArgs false
namespace Go.Abs

/-! ### Terms of one goal -/
def V.has (tag : List UInt8) : V → Bool
  | .sym s => decide (s = tag)
  | .pair a b => a.has tag || b.has tag
  | _ => false
theorem V.has_eq (tag : List UInt8) (v : V) : v.has tag = (v.kids.any (V.has tag) || (decide (v.kind = 2) && decide (v.name = tag))) := by
  cases v <;> simp [V.has, V.kids, V.kind, V.name] <;> rfl
theorem V.ind {Q : V → Prop} (h : ∀ v : V, (∀ x, x ∈ v.kids → Q x) → Q v) : ∀ v, Q v := by
  intro v
  induction v with
  | pair a b iha ihb => exact h _ (fun x hx => by simp [V.kids] at hx; rcases hx with rfl | rfl <;> assumption)
  | _ => exact h _ (fun x hx => by simp [V.kids] at hx)
/-- The valid term that a term is. -/
def Tm.V (t : Tm) : V := t.v?.getD .nil
theorem Tm.V_of {t : Tm} (h : tmOk t = true) : t = t.V.tm := by
  obtain ⟨v, rfl, hv⟩ := tmOk_v h
  simp [Tm.V, V.v?_tm v hv]
theorem Tm.enc_V {t : Tm} (h : tmOk t = true) : t.enc = t.V.enc := by rw [V.enc, ← Tm.V_of h]
theorem Tm.vars_V {t : Tm} (h : tmOk t = true) : t.vars = t.V.vars := by rw [← V.vars_tm, ← Tm.V_of h]
theorem Tm.kind_V {t : Tm} (h : tmOk t = true) : t.kind = t.V.kind := by
  conv => lhs; rw [Tm.V_of h]
  cases t.V <;> rfl
theorem Tm.name_V {t : Tm} (h : tmOk t = true) : t.name = t.V.name := by
  conv => lhs; rw [Tm.V_of h]
  cases t.V <;> rfl

/-- What a simple goal without variables comes to. -/
def Gl.test (g : Gl) : Bool :=
  match g.kind, g.terms with
  | 0, _ => true
  | 2, [a, b] => decide (a.V.cmp b.V = 0)
  | 3, [a, b] => !decide (a.V.cmp b.V = 0)
  | 4, [a] => decide (a.kind = 2)
  | 5, [a] => decide (a.kind = 3)
  | 6, [a, b] => !b.V.has a.name
  | _, _ => false
def Gl.testI (g : Gl) : Int := if glOk g = true ∧ g.kind ≤ 6 ∧ g.vars = [] then (if g.test then 1 else 0) else -1

theorem glOk_shape {g : Gl} (h : glOk g = true) : g.shape = true := by unfold glOk at h; simp at h; exact h.2
theorem glOk_form {g : Gl} (h : glOk g = true) : g.form = true := by
  have := glOk_shape h
  rw [Gl.shape_eq] at this; simp only [Bool.and_eq_true] at this; exact this.1.1
theorem len_two {α : Type} {l : List α} (h : (l.length : Int) = 2) : ∃ a b, l = [a, b] := by
  match l, h with
  | [a, b], _ => exact ⟨a, b, rfl⟩
  | [], h => simp at h
  | [_], h => simp at h
  | _ :: _ :: _ :: _, h => simp only [List.length_cons] at h; omega
theorem len_one {α : Type} {l : List α} (h : (l.length : Int) = 1) : ∃ a, l = [a] := by
  match l, h with
  | [a], _ => exact ⟨a, rfl⟩
  | [], h => simp at h
  | _ :: _ :: _, h => simp only [List.length_cons] at h; omega
/-- The terms of a simple goal. -/
theorem Gl.simple_cases {g : Gl} (h : glOk g = true) (hk : g.kind ≤ 6) :
    ((g.kind = 0 ∨ g.kind = 1) ∧ g.terms = []) ∨ ((g.kind = 2 ∨ g.kind = 3 ∨ g.kind = 6) ∧ ∃ a b, g.terms = [a, b] ∧ tmOk a = true ∧ tmOk b = true) ∨ ((g.kind = 4 ∨ g.kind = 5) ∧ ∃ a, g.terms = [a] ∧ tmOk a = true) := by
  have hf := Gl.form_inv (glOk_form h)
  have ht := Gl.shape_terms (glOk_shape h)
  have ha : g.kind = 0 ∨ g.kind = 1 ∨ g.kind = 2 ∨ g.kind = 3 ∨ g.kind = 4 ∨ g.kind = 5 ∨ g.kind = 6 := by omega
  have h0 : (g.kind = 0 ∨ g.kind = 1) → (g.terms.length : Int) = 0 := fun hk => by
    have e : arityOf g.kind = 0 := by rcases hk with hk | hk <;> rw [hk] <;> rfl
    rw [e] at hf; omega
  have h2 : (g.kind = 2 ∨ g.kind = 3 ∨ g.kind = 6) → (g.terms.length : Int) = 2 := fun hk => by
    have e : arityOf g.kind = 2 := by rcases hk with hk | hk | hk <;> rw [hk] <;> rfl
    rw [e] at hf; omega
  have h1 : (g.kind = 4 ∨ g.kind = 5) → (g.terms.length : Int) = 1 := fun hk => by
    have e : arityOf g.kind = 1 := by rcases hk with hk | hk <;> rw [hk] <;> rfl
    rw [e] at hf; omega
  by_cases c0 : g.kind = 0 ∨ g.kind = 1
  · exact .inl ⟨c0, List.eq_nil_of_length_eq_zero (by have := h0 c0; omega)⟩
  · by_cases c1 : g.kind = 4 ∨ g.kind = 5
    · obtain ⟨a, e⟩ := len_one (h1 c1)
      exact .inr (.inr ⟨c1, a, e, ht a (by simp [e])⟩)
    · have c2 : g.kind = 2 ∨ g.kind = 3 ∨ g.kind = 6 := by omega
      obtain ⟨a, b, e⟩ := len_two (h2 c2)
      exact .inr (.inl ⟨c2, a, b, e, ht a (by simp [e]), ht b (by simp [e])⟩)

/-! ### Programs -/
def findR : List Rl → List UInt8 → Int → Int
  | [], _, _ => -1
  | r :: q, s, i => if r.name = s then i else findR q s (i + 1)
def Pg.find (p : Pg) (s : List UInt8) : Int := findR p.rels s 0
theorem findR_range : ∀ (l : List Rl) (s : List UInt8) (i : Int), findR l s i = -1 ∨ (i ≤ findR l s i ∧ findR l s i < i + l.length)
  | [], _, _ => .inl rfl
  | r :: q, s, i => by
    have := findR_range q s (i + 1)
    simp only [findR, List.length_cons]
    split <;> omega
theorem Pg.find_range (p : Pg) (s : List UInt8) : p.find s = -1 ∨ (0 ≤ p.find s ∧ p.find s < p.rels.length) := by
  have := findR_range p.rels s 0
  unfold Pg.find; omega
/-- A call fits its relation; other goals fit. -/
def Pg.fitC (p : Pg) (x : Gl) : Bool :=
  !decide (x.kind = 9) || match p.rels[(p.find x.name).toNat]? with
    | some r => decide (0 ≤ p.find x.name) && decide (r.arity = x.terms.length)
    | none => false
theorem Pg.fitC_other {p : Pg} {x : Gl} (h : x.kind ≠ 9) : p.fitC x = true := by simp [Pg.fitC, h]
theorem Pg.fitC_neg {p : Pg} {x : Gl} (h : x.kind = 9) (hf : p.find x.name < 0) : p.fitC x = false := by
  simp only [Pg.fitC, h, decide_true, Bool.not_true, Bool.false_or]
  split
  · simp; omega
  · rfl
theorem Pg.fitC_at {p : Pg} {x : Gl} (h : x.kind = 9) (hf : 0 ≤ p.find x.name) {r : Rl} (hr : p.rels[(p.find x.name).toNat]? = some r) : p.fitC x = decide (r.arity = x.terms.length) := by
  simp [Pg.fitC, h, hr, hf]
def Pg.callsFit (p : Pg) (g : Gl) : Bool := g.subs.all p.fitC
theorem all_flatMap {α β : Type} (f : α → List β) (q : β → Bool) : ∀ l : List α, (l.flatMap f).all q = l.all fun x => (f x).all q
  | [] => rfl
  | x :: r => by simp only [List.flatMap_cons, List.all_append, List.all_cons, all_flatMap f q r]
theorem Pg.callsFit_eq (p : Pg) (g : Gl) : p.callsFit g = (p.fitC g && g.goals.all p.callsFit) := by
  unfold Pg.callsFit
  rw [Gl.subs_eq, List.all_cons, Gl.subss_eq, all_flatMap]
theorem foldl_all {α : Type} (q : α → Bool) : ∀ (l : List α) (b : Bool), l.foldl (fun b x => b && q x) b = (b && l.all q)
  | [], b => by simp
  | x :: r, b => by rw [List.foldl_cons, foldl_all q r, List.all_cons, Bool.and_assoc]
theorem foldl_any {α : Type} (q : α → Bool) : ∀ (l : List α) (b : Bool), l.foldl (fun b x => b || q x) b = (b || l.any q)
  | [], b => by simp
  | x :: r, b => by rw [List.foldl_cons, foldl_any q r, List.any_cons, Bool.or_assoc]
/-- All variables are less than n. -/
def Gl.varsLt (g : Gl) (n : Int) : Bool := g.vars.all fun v => decide (v < n)
theorem below_asc (l : List Int) (n : Int) : ((ascOf l).all fun v => decide (v < n)) = l.all fun v => decide (v < n) := by
  rw [Bool.eq_iff_iff]
  simp only [List.all_eq_true]
  exact ⟨fun h x hx => h x (ascOf_mem.2 hx), fun h x hx => h x (ascOf_mem.1 hx)⟩
theorem below_last {l : List Int} (ha : Asc l) (n : Int) {m : Nat} {x : Int} (hm : m + 1 = l.length) (hx : l[m]? = some x) : (l.all fun v => decide (v < n)) = decide (x < n) := by
  rw [Bool.eq_iff_iff]
  simp only [List.all_eq_true, decide_eq_true_eq]
  refine ⟨fun h => h x (List.mem_of_getElem? hx), fun h y hy => ?_⟩
  obtain ⟨j, hj⟩ := List.mem_iff_getElem?.1 hy
  obtain ⟨g1, g2⟩ := List.getElem?_eq_some_iff.1 hj
  obtain ⟨g3, g4⟩ := List.getElem?_eq_some_iff.1 hx
  by_cases e : j = m
  · subst e; rw [hj] at hx; cases hx; exact h
  · have := List.pairwise_iff_getElem.1 ha j m g1 g3 (by omega); omega
/-- A relation in its place i. -/
def Pg.relOk (p : Pg) (i : Nat) (r : Rl) : Bool :=
  decide (p.find r.name = i) && isRel r.name && decide (0 ≤ r.arity ∧ r.arity ≤ 4) && decide (0 ≤ r.locals ∧ r.locals ≤ 8) && decide (r.body.cnt ≤ 60) && r.body.shape && r.body.varsLt (r.arity + r.locals) && p.callsFit r.body
def Pg.okL (p : Pg) : List Rl → Bool
  | [] => true
  | r :: q => p.relOk (p.rels.length - (q.length + 1)) r && Pg.okL p q
def pgOk (p : Pg) : Bool := decide (p.rels.length ≤ 8) && p.okL p.rels
theorem drop_len {α : Type} {l r : List α} {x : α} {i : Nat} (h : l.drop i = x :: r) : l.length - (r.length + 1) = i := by
  have := congrArg List.length h
  simp only [List.length_drop, List.length_cons] at this; omega
theorem okL_mem {p : Pg} : ∀ {l : List Rl}, p.okL l = true → ∀ r, r ∈ l → ∃ i, p.relOk i r = true
  | [], _, _, h => by simp at h
  | x :: q, ho, r, h => by
    simp only [Pg.okL, Bool.and_eq_true] at ho
    rcases List.mem_cons.1 h with rfl | h
    · exact ⟨_, ho.1⟩
    · exact okL_mem ho.2 r h
theorem Rl.wt_body (r : Rl) : wtL r.body.enc ≤ wtL r.enc ∧ r.name.length ≤ wtL r.enc := by
  simp only [Rl.enc_eq, Gl.enc_eq, wtL, D.wt]; omega
theorem Pg.wt_rels {p : Pg} {r : Rl} (h : r ∈ p.rels) : wtL r.enc < wtL p.enc := by
  have := wtL_lt (p.rels.map Rl.enc) r.enc (List.mem_map.2 ⟨r, h, rfl⟩)
  simp only [Pg.enc_eq, wtL, D.wt]; omega
def Pg.fits (p : Pg) (g : Gl) (n : Int) : Bool := glOk g && g.varsLt n && p.callsFit g

/-! ### Kinds of goals -/
def pureK (k : Int) : Bool := decide (k ≠ 0) && decide (k ≠ 1) && decide (k ≠ 2) && decide (k ≠ 7) && decide (k ≠ 8) && decide (k ≠ 9)
def Gl.onlyK (pure : Bool) (k : Int) : Bool := decide (k ≠ 10) && !(pure && (decide (3 ≤ k) && decide (k ≤ 6)))
def Gl.only (pure : Bool) (g : Gl) : Bool := g.subs.all fun x => Gl.onlyK pure x.kind
theorem Gl.only_eq (pure : Bool) (g : Gl) : g.only pure = (g.goals.all (Gl.only pure) && Gl.onlyK pure g.kind) := by
  unfold Gl.only
  rw [Gl.subs_eq, List.all_cons, Gl.subss_eq, all_flatMap, Bool.and_comm]
theorem Gl.kind_range {g : Gl} (h : g.shape = true) : 0 ≤ g.kind ∧ g.kind ≤ 10 := by
  rw [Gl.shape_eq] at h
  simp only [Bool.and_eq_true] at h
  have := Gl.form_inv h.1.1
  omega
theorem Gl.only_pure {g : Gl} (h : g.shape = true) : (g.subs.any fun x => pureK x.kind) = !g.only true := by
  unfold Gl.only
  rw [List.not_all_eq_any_not]
  have hs := Gl.shape_sub h
  have : ∀ l : List Gl, (∀ x, x ∈ l → x.shape = true) → (l.any fun x => pureK x.kind) = l.any fun x => !Gl.onlyK true x.kind := by
    intro l
    induction l with
    | nil => intro _; rfl
    | cons x r ih =>
      intro hl
      rw [List.any_cons, List.any_cons, ih (fun x hx => hl x (by simp [hx]))]
      congr 1
      have := Gl.kind_range (hl x (by simp))
      have hc : x.kind = 0 ∨ x.kind = 1 ∨ x.kind = 2 ∨ x.kind = 3 ∨ x.kind = 4 ∨ x.kind = 5 ∨ x.kind = 6 ∨ x.kind = 7 ∨ x.kind = 8 ∨ x.kind = 9 ∨ x.kind = 10 := by omega
      rcases hc with e | e | e | e | e | e | e | e | e | e | e <;> rw [e] <;> rfl
  exact this _ hs
theorem Gl.only_neg (g : Gl) : (g.subs.any fun x => decide (x.kind = 10)) = !g.only false := by
  unfold Gl.only
  rw [List.not_all_eq_any_not]
  congr 1
  funext x
  simp [Gl.onlyK]
def Pg.all (pure : Bool) (p : Pg) : Bool := pgOk p && p.rels.all fun r => r.body.only pure

/-! ### Facts -/
theorem relOk_shape {p : Pg} {i : Nat} {r : Rl} (h : p.relOk i r = true) : r.body.shape = true := by
  unfold Pg.relOk at h
  simp only [Bool.and_eq_true] at h
  exact h.1.1.2
def Tm.ground (t : Tm) : Bool := tmOk t && decide (t.vars = [])
def Pg.factFits (p : Pg) (f : Fc) : Bool :=
  match p.rels[(p.find f.rel).toNat]? with
  | some r => decide (0 ≤ p.find f.rel) && decide (r.arity = f.args.length) && f.args.all Tm.ground
  | none => false
theorem Pg.factFits_neg {p : Pg} {f : Fc} (h : p.find f.rel < 0) : p.factFits f = false := by
  unfold Pg.factFits
  split
  · simp; omega
  · rfl
theorem Pg.factFits_at {p : Pg} {f : Fc} (h : 0 ≤ p.find f.rel) {r : Rl} (hr : p.rels[(p.find f.rel).toNat]? = some r) : p.factFits f = (decide (r.arity = f.args.length) && f.args.all Tm.ground) := by
  simp [Pg.factFits, h, hr]
end Go.Abs
