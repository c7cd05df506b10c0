/- Plain law, part 3: goals. -/
import Derived.Test.YtkmbaakiliafeaaPl2
set_option linter.unusedVariables false
set_option linter.unusedSimpArgs false
namespace Go.Abs

/-- The words that are no relation's name. -/
def reserved : List (List UInt8) := [[116, 114, 117, 101], [102, 97, 105, 108], [115, 121, 109, 98, 111, 108], [110, 117, 109, 98, 101, 114], [97, 98, 115, 101, 110, 116], [97, 110, 100], [111, 114], [110, 111, 116], [100, 101, 102, 105, 110, 101]]
def isRel (s : List UInt8) : Bool := !reserved.contains s && isName s

theorem Gl.ind' {Q : Gl → Prop} (h : ∀ t : Gl, (∀ x, x ∈ t.goals → Q x) → Q t) : ∀ t, Q t := by
  intro t
  induction t using Gl.ind with
  | h a b c d ih => exact h _ ih
theorem Gl.wt_goals {t x : Gl} (h : x ∈ t.goals) : wtL x.enc < wtL t.enc := by
  have := wtL_lt (t.goals.map Gl.enc) x.enc (List.mem_map.2 ⟨x, h, rfl⟩)
  simp only [Gl.enc_eq t, wtL, D.wt]
  omega
theorem Gl.wt_terms {t : Gl} {x : Tm} (h : x ∈ t.terms) : wtL x.enc < wtL t.enc := by
  have := wtL_lt (t.terms.map Tm.enc) x.enc (List.mem_map.2 ⟨x, h, rfl⟩)
  simp only [Gl.enc_eq t, wtL, D.wt]
  omega
theorem Gl.wt_name (t : Gl) : t.name.length ≤ wtL t.enc := by
  rw [Gl.enc_eq]; simp only [wtL, D.wt]; omega

/-! ### Counting with a limit -/
mutual
def Gl.countF : Gl → Int → Int
  | .mk _ _ _ gs, most => Gl.countL gs most 1
def Gl.countL : List Gl → Int → Int → Int
  | [], _, n => n
  | t :: r, most, n => if n > most then n else Gl.countL r most (n + Gl.countF t (most - n))
end
theorem Gl.countF_eq (g : Gl) (most : Int) : g.countF most = Gl.countL g.goals most 1 := by cases g; simp only [Gl.countF, Gl.goals]
mutual
def Gl.cnt : Gl → Nat
  | .mk _ _ _ gs => 1 + Gl.cnts gs
def Gl.cnts : List Gl → Nat
  | [] => 0
  | t :: r => Gl.cnt t + Gl.cnts r
end
theorem Gl.cnt_eq (g : Gl) : g.cnt = 1 + Gl.cnts g.goals := by cases g; simp only [Gl.cnt, Gl.goals]
theorem Gl.cnt_pos (g : Gl) : 1 ≤ g.cnt := by rw [Gl.cnt_eq]; omega

theorem Gl.count_spec : (∀ (t : Gl) (most : Int), 1 ≤ t.countF most ∧ t.countF most ≤ t.cnt ∧ ((t.cnt : Int) ≤ most → t.countF most = t.cnt) ∧ (most < t.cnt → most < t.countF most)) := by
  intro t
  induction t using Gl.ind' with
  | h t ih =>
    have key : ∀ (l : List Gl), (∀ x, x ∈ l → x ∈ t.goals) → ∀ (most n : Int), n ≤ Gl.countL l most n ∧ Gl.countL l most n ≤ n + Gl.cnts l ∧ (n + Gl.cnts l ≤ most → Gl.countL l most n = n + Gl.cnts l) ∧ (most < n + Gl.cnts l → most < Gl.countL l most n) := by
      intro l
      induction l with
      | nil => intro _ most n; simp only [Gl.countL, Gl.cnts]; omega
      | cons x r ihr =>
        intro hl most n
        have h1 := ih x (hl x (by simp)) (most - n)
        have h2 := ihr (fun x hx => hl x (by simp [hx])) most (n + x.countF (most - n))
        simp only [Gl.countL, Gl.cnts]
        split <;> omega
    intro most
    have := key t.goals (fun x hx => hx) most 1
    rw [Gl.countF_eq, Gl.cnt_eq]
    omega
theorem Gl.cnt_le_wt : ∀ t : Gl, t.cnt ≤ 1 + wtL t.enc := by
  intro t
  induction t using Gl.ind' with
  | h t ih =>
    have key : ∀ (l : List Gl), (∀ x, x ∈ l → x ∈ t.goals) → Gl.cnts l ≤ wtR (l.map Gl.enc) := by
      intro l
      induction l with
      | nil => intro _; simp [Gl.cnts, wtR]
      | cons x r ihr =>
        intro hl
        have h1 := ih x (hl x (by simp))
        have h2 := ihr (fun x hx => hl x (by simp [hx]))
        simp only [Gl.cnts, List.map_cons, wtR]
        omega
    have := key t.goals (fun x hx => hx)
    rw [Gl.cnt_eq]
    simp only [Gl.enc_eq t, wtL, D.wt]
    omega

/-! ### The form of a goal -/
/-- How many terms a simple goal has. -/
def arityOf (k : Int) : Int := if k = 2 then 2 else if k = 3 then 2 else if k = 4 then 1 else if k = 5 then 1 else if k = 6 then 2 else 0
theorem arityOf_le (k : Int) : 0 ≤ arityOf k ∧ arityOf k ≤ 2 := by
  unfold arityOf
  repeat' split
  all_goals omega
theorem arityOf_hi (k : Int) (h : 7 ≤ k) : arityOf k = 0 := by
  unfold arityOf
  repeat' split
  all_goals omega
/-- The first term is a symbol. -/
def firstSym (l : List Tm) : Bool := match l with | t :: _ => t.kind == 2 | [] => false
/-- The first goal is a call. -/
def firstCall (l : List Gl) : Bool := match l with | g :: _ => g.kind == 9 | [] => false

theorem firstSym_eq (l : List Tm) : firstSym l = match l[0]? with | some t => t.kind == 2 | none => false := by cases l <;> rfl
theorem firstCall_eq (l : List Gl) : firstCall l = match l[0]? with | some t => t.kind == 9 | none => false := by cases l <;> rfl

/-- The form of a goal's own fields. -/
def Gl.form (g : Gl) : Bool :=
  if g.kind = 9 then isRel g.name && decide ((g.goals.length : Int) = 0) && decide ((g.terms.length : Int) ≤ 4)
  else if 0 ≤ g.kind ∧ g.kind ≤ 6 then decide (g.name = []) && decide ((g.goals.length : Int) = 0) && decide ((g.terms.length : Int) = arityOf g.kind) && (if g.kind = 6 then firstSym g.terms else true)
  else if g.kind = 7 ∨ g.kind = 8 then decide (g.name = []) && decide ((g.terms.length : Int) = 0) && decide ((g.goals.length : Int) ≤ 8)
  else if g.kind = 10 then decide (g.name = []) && decide ((g.terms.length : Int) = 0) && decide ((g.goals.length : Int) = 1) && firstCall g.goals
  else false
theorem Gl.form_inv {g : Gl} (h : g.form = true) : (g.kind = 9 ∧ isRel g.name = true ∧ (g.goals.length : Int) = 0 ∧ (g.terms.length : Int) ≤ 4) ∨
    (0 ≤ g.kind ∧ g.kind ≤ 6 ∧ g.name = [] ∧ (g.goals.length : Int) = 0 ∧ (g.terms.length : Int) = arityOf g.kind ∧ (g.kind = 6 → firstSym g.terms = true)) ∨
    ((g.kind = 7 ∨ g.kind = 8) ∧ g.name = [] ∧ (g.terms.length : Int) = 0 ∧ (g.goals.length : Int) ≤ 8) ∨
    (g.kind = 10 ∧ g.name = [] ∧ (g.terms.length : Int) = 0 ∧ (g.goals.length : Int) = 1 ∧ firstCall g.goals = true) := by
  unfold Gl.form at h
  split at h
  · rename_i hk
    simp only [Bool.and_eq_true, decide_eq_true_eq] at h
    exact .inl ⟨hk, h.1.1, h.1.2, h.2⟩
  · split at h
    · rename_i hk
      simp only [Bool.and_eq_true, decide_eq_true_eq] at h
      refine .inr (.inl ⟨hk.1, hk.2, h.1.1.1, h.1.1.2, h.1.2, fun h6 => ?_⟩)
      have := h.2
      rw [if_pos h6] at this
      exact this
    · split at h
      · rename_i hk
        simp only [Bool.and_eq_true, decide_eq_true_eq] at h
        exact .inr (.inr (.inl ⟨hk, h.1.1, h.1.2, h.2⟩))
      · split at h
        · rename_i hk
          simp only [Bool.and_eq_true, decide_eq_true_eq] at h
          exact .inr (.inr (.inr ⟨hk, h.1.1.1, h.1.1.2, h.1.2, h.2⟩))
        · cases h
theorem Gl.form_simple {g : Gl} (h0 : 0 ≤ g.kind) (h1 : g.kind < 6) (hn : g.name = []) (hg : (g.goals.length : Int) = 0) (ht : (g.terms.length : Int) = arityOf g.kind) : g.form = true := by
  unfold Gl.form
  rw [if_neg (by omega), if_pos ⟨h0, by omega⟩, if_neg (by omega)]
  simp only [hn, hg, ht, decide_true, Bool.and_self]
theorem Gl.form_6 {g : Gl} (hk : g.kind = 6) (hn : g.name = []) (hg : (g.goals.length : Int) = 0) (ht : (g.terms.length : Int) = 2) {x : Tm} (hx : g.terms[0]? = some x) : g.form = decide (x.kind = 2) := by
  unfold Gl.form
  rw [if_neg (by omega), if_pos ⟨by omega, by omega⟩, if_pos hk, firstSym_eq, hx, hk]
  have : arityOf 6 = 2 := by decide
  simp only [hn, hg, ht, this, decide_true, Bool.and_self, Bool.true_and]
  exact Bool.beq_eq_decide_eq _ _
theorem Gl.form_and {g : Gl} (hk : g.kind = 7 ∨ g.kind = 8) (hn : g.name = []) (ht : (g.terms.length : Int) = 0) (hg : (g.goals.length : Int) ≤ 8) : g.form = true := by
  unfold Gl.form
  rw [if_neg (by omega), if_neg (by omega), if_pos hk]
  simp only [hn, hg, ht, decide_true, Bool.and_self]
theorem Gl.form_10 {g : Gl} (hk : g.kind = 10) (hn : g.name = []) (ht : (g.terms.length : Int) = 0) (hg : (g.goals.length : Int) = 1) {x : Gl} (hx : g.goals[0]? = some x) : g.form = decide (x.kind = 9) := by
  unfold Gl.form
  rw [if_neg (by omega), if_neg (by omega), if_neg (by omega), if_pos hk, firstCall_eq, hx]
  simp only [hn, hg, ht, decide_true, Bool.and_self, Bool.true_and]
  exact Bool.beq_eq_decide_eq _ _
theorem arityOf_6 (k : Int) (h : k = 6) : arityOf k = 2 := by subst h; decide
mutual
def Gl.shape : Gl → Bool
  | .mk k n ts gs => (Gl.mk k n ts gs).form && ts.all tmOk && Gl.shapes gs
def Gl.shapes : List Gl → Bool
  | [] => true
  | t :: r => Gl.shape t && Gl.shapes r
end
theorem Gl.shapes_eq : ∀ l : List Gl, Gl.shapes l = l.all Gl.shape
  | [] => by simp only [Gl.shapes, List.all_nil]
  | t :: r => by simp only [Gl.shapes, List.all_cons, Gl.shapes_eq r]
theorem Gl.shape_eq (g : Gl) : g.shape = (g.form && g.terms.all tmOk && g.goals.all Gl.shape) := by
  cases g; simp only [Gl.shape, Gl.shapes_eq, Gl.terms, Gl.goals]
/-- A valid goal. -/
def glOk (g : Gl) : Bool := decide (g.cnt ≤ 80) && g.shape
/-- What goalNodes answers. -/
def Gl.nodes (g : Gl) (room : Int) : Int := if g.shape = true ∧ (g.cnt : Int) ≤ room then g.cnt else -1
theorem Gl.nodes_ge {g : Gl} {room : Int} : g.nodes room = -1 ∨ (1 ≤ g.nodes room ∧ g.nodes room ≤ room) := by
  have := g.cnt_pos
  unfold Gl.nodes
  split <;> omega
theorem Gl.nodes_lt {g : Gl} {room : Int} (h : room < 1) : g.nodes room = -1 := by
  have := g.cnt_pos
  unfold Gl.nodes
  rw [if_neg (by omega)]
theorem Gl.nodes_bad {g : Gl} {room : Int} (h : g.shape = false) : g.nodes room = -1 := by
  unfold Gl.nodes
  rw [if_neg (by simp [h])]
theorem Gl.nodes_leaf {g : Gl} {room : Int} (h : g.shape = true) (hg : g.goals = []) (hr : 1 ≤ room) : g.nodes room = 1 := by
  have hc := g.cnt_eq
  rw [hg] at hc
  simp only [Gl.cnts] at hc
  unfold Gl.nodes
  rw [if_pos ⟨h, by omega⟩, hc]; rfl
theorem Gl.nodes_ok (g : Gl) : decide (0 < g.nodes 80) = glOk g := by
  have := g.cnt_pos
  unfold Gl.nodes glOk
  by_cases h : g.shape = true
  · by_cases h2 : g.cnt ≤ 80
    · rw [if_pos ⟨h, by omega⟩]; simp [h, h2]; omega
    · rw [if_neg (by omega)]; simp [h2]
  · rw [if_neg (by simp [h])]; simp [h]
theorem Gl.count_ok (g : Gl) : (decide (g.countF 80 ≤ 80) && g.shape) = glOk g := by
  have h := Gl.count_spec g 80
  unfold glOk
  congr 1
  by_cases h5 : g.cnt ≤ 80
  · simp [h5]; omega
  · simp [h5]; omega
/-- The rest of goalNodes' loop. -/
def Gl.nodeL : List Gl → Int → Int → Int
  | [], _, n => n
  | g :: r, room, n => if g.nodes (room - n) < 0 then -1 else Gl.nodeL r room (n + g.nodes (room - n))
theorem Gl.nodeL_eq : ∀ (l : List Gl) (room n : Int), n ≤ room → Gl.nodeL l room n = if l.all Gl.shape = true ∧ n + (Gl.cnts l : Int) ≤ room then n + Gl.cnts l else -1
  | [], room, n, h => by simp [Gl.nodeL, Gl.cnts, h]
  | g :: r, room, n, h => by
    have hp := g.cnt_pos
    have e1 : (g :: r).all Gl.shape = (g.shape && r.all Gl.shape) := rfl
    have e2 : Gl.cnts (g :: r) = g.cnt + Gl.cnts r := by simp only [Gl.cnts]
    rw [Gl.nodeL]
    by_cases hs : g.shape = true
    · by_cases hc : (g.cnt : Int) ≤ room - n
      · have hn : g.nodes (room - n) = g.cnt := by unfold Gl.nodes; rw [if_pos ⟨hs, hc⟩]
        rw [hn, if_neg (by omega), Gl.nodeL_eq r room _ (by omega)]
        by_cases hx : r.all Gl.shape = true ∧ n + (g.cnt : Int) + (Gl.cnts r : Int) ≤ room
        · rw [if_pos hx, if_pos ⟨by rw [e1]; simp only [hs, hx.1, Bool.and_self], by rw [e2]; omega⟩, e2]; omega
        · rw [if_neg hx, if_neg (fun h => hx ⟨by have h1 := h.1; rw [e1, hs, Bool.true_and] at h1; exact h1, by have h2 := h.2; rw [e2] at h2; omega⟩)]
      · have hn : g.nodes (room - n) = -1 := by unfold Gl.nodes; rw [if_neg (by omega)]
        rw [hn, if_pos (by omega), if_neg (fun h => by have h2 := h.2; rw [e2] at h2; omega)]
    · have hn : g.nodes (room - n) = -1 := Gl.nodes_bad (by simpa using hs)
      rw [hn, if_pos (by omega), if_neg (fun h => by have h1 := h.1; rw [e1] at h1; simp [hs] at h1)]
theorem Gl.nodes_kids {g : Gl} {room : Int} (hf : g.form = true) (ht : g.terms.all tmOk = true) (hr : 1 ≤ room) : g.nodes room = Gl.nodeL g.goals room 1 := by
  rw [Gl.nodeL_eq _ _ _ hr]
  unfold Gl.nodes
  rw [Gl.shape_eq, hf, ht, Gl.cnt_eq]
  simp only [Bool.true_and]
  split <;> split <;> simp_all <;> omega

/-- The other text's table of the numbers of terms. -/
theorem idx_tab {k n : Int} (h0 : 0 ≤ k) (h1 : k ≤ 10) {Q : List D → Prop} (h : Q [.int .i64 (if k = 9 then n else arityOf k)]) :
    idx [[.int .i64 0], [.int .i64 0], [.int .i64 2], [.int .i64 2], [.int .i64 1], [.int .i64 1], [.int .i64 2], [.int .i64 0], [.int .i64 0], [.int .i64 n], [.int .i64 0]] k.toNat Q := by
  have hc : k = 0 ∨ k = 1 ∨ k = 2 ∨ k = 3 ∨ k = 4 ∨ k = 5 ∨ k = 6 ∨ k = 7 ∨ k = 8 ∨ k = 9 ∨ k = 10 := by omega
  rcases hc with rfl | rfl | rfl | rfl | rfl | rfl | rfl | rfl | rfl | rfl | rfl <;> (intro x hx; simp at hx; subst hx; simpa [arityOf] using h)
end Go.Abs
