/- The layer, part P3. -/
import Derived.Test.YtljdpohdfnileaaP2
/- Plain law, part 9: marks of lists of lists of goals, marks found again. -/
set_option linter.unusedVariables false
set_option linter.unusedSimpArgs false
namespace Go.Abs

theorem Tm.mcnts_sum : ∀ l : List Tm, Tm.mcnts l = (l.map Tm.mcnt).sum
  | [] => rfl
  | t :: r => by simp [Tm.mcnts, Tm.mcnts_sum r]
theorem Gl.mcnts_sum : ∀ l : List Gl, Gl.mcnts l = (l.map Gl.mcnt).sum
  | [] => rfl
  | t :: r => by simp [Gl.mcnts, Gl.mcnts_sum r]
theorem Tm.mrks_at : ∀ (l : List Tm) (k : Int) (i : Nat) (x : Tm), l[i]? = some x → (Tm.mrks k l)[i]? = some (x.mrk (k + Tm.mcnts (l.take i)))
  | [], k, i, x, h => by simp at h
  | t :: r, k, 0, x, h => by simp at h; subst h; simp [Tm.mrks, Tm.mcnts]
  | t :: r, k, i + 1, x, h => by
    simp only [List.getElem?_cons_succ] at h
    simp only [Tm.mrks, List.getElem?_cons_succ, List.take_succ_cons, Tm.mcnts]
    rw [Tm.mrks_at r _ i x h]
    rw [show k + (t.mcnt : Int) + (Tm.mcnts (r.take i) : Int) = k + ((t.mcnt + Tm.mcnts (r.take i) : Nat) : Int) by omega]
theorem Gl.mrks_at : ∀ (l : List Gl) (k : Int) (i : Nat) (x : Gl), l[i]? = some x → (Gl.mrks k l)[i]? = some (x.mrk (k + Gl.mcnts (l.take i)))
  | [], k, i, x, h => by simp at h
  | t :: r, k, 0, x, h => by simp at h; subst h; simp [Gl.mrks, Gl.mcnts]
  | t :: r, k, i + 1, x, h => by
    simp only [List.getElem?_cons_succ] at h
    simp only [Gl.mrks, List.getElem?_cons_succ, List.take_succ_cons, Gl.mcnts]
    rw [Gl.mrks_at r _ i x h]
    rw [show k + (t.mcnt : Int) + (Gl.mcnts (r.take i) : Int) = k + ((t.mcnt + Gl.mcnts (r.take i) : Nat) : Int) by omega]

def Gl.mcntSS : List (List Gl) → Nat
  | [] => 0
  | c :: r => Gl.mcnts c + Gl.mcntSS r
def Gl.mrkSS (k : Int) : List (List Gl) → List (List Gl)
  | [] => []
  | c :: r => Gl.mrks k c :: Gl.mrkSS (k + Gl.mcnts c) r
theorem Gl.mrkSS_len : ∀ (l : List (List Gl)) (k : Int), (Gl.mrkSS k l).length = l.length
  | [], _ => rfl
  | t :: r, k => by simp [Gl.mrkSS, Gl.mrkSS_len r]
theorem Gl.mcntSS_app : ∀ (a b : List (List Gl)), Gl.mcntSS (a ++ b) = Gl.mcntSS a + Gl.mcntSS b
  | [], b => by simp [Gl.mcntSS]
  | t :: a, b => by simp only [List.cons_append, Gl.mcntSS, Gl.mcntSS_app a b]; omega
theorem Gl.mrkSS_app : ∀ (a b : List (List Gl)) (k : Int), Gl.mrkSS k (a ++ b) = Gl.mrkSS k a ++ Gl.mrkSS (k + Gl.mcntSS a) b
  | [], b, k => by simp [Gl.mrkSS, Gl.mcntSS]
  | t :: a, b, k => by
    simp only [List.cons_append, Gl.mrkSS, Gl.mcntSS, Gl.mrkSS_app a b]
    rw [show k + (Gl.mcnts t : Int) + (Gl.mcntSS a : Int) = k + ((Gl.mcnts t + Gl.mcntSS a : Nat) : Int) by omega]
theorem Gl.mrkSS_at : ∀ (l : List (List Gl)) (k : Int) (i : Nat) (x : List Gl), l[i]? = some x → (Gl.mrkSS k l)[i]? = some (Gl.mrks (k + Gl.mcntSS (l.take i)) x)
  | [], k, i, x, h => by simp at h
  | t :: r, k, 0, x, h => by simp at h; subst h; simp [Gl.mrkSS, Gl.mcntSS]
  | t :: r, k, i + 1, x, h => by
    simp only [List.getElem?_cons_succ] at h
    simp only [Gl.mrkSS, List.getElem?_cons_succ, List.take_succ_cons, Gl.mcntSS]
    rw [Gl.mrkSS_at r _ i x h]
    rw [show k + (Gl.mcnts t : Int) + (Gl.mcntSS (r.take i) : Int) = k + ((Gl.mcnts t + Gl.mcntSS (r.take i) : Nat) : Int) by omega]
theorem Gl.mcntSS_le {m : Nat} : ∀ (l : List (List Gl)), (∀ c, c ∈ l → Gl.mcnts c ≤ m) → Gl.mcntSS l ≤ l.length * m
  | [], _ => by simp [Gl.mcntSS]
  | c :: r, h => by
    have h1 := Gl.mcntSS_le r (fun x hx => h x (by simp [hx]))
    have h2 := h c (by simp)
    simp only [Gl.mcntSS, List.length_cons, Nat.succ_mul]; omega

/-- A measure that adds up over the goals of a goal adds up over a clause. -/
theorem Gl.clsS_sum (f : Gl → Nat) (hf : ∀ t : Gl, (t.goals.map f).sum ≤ f t) : ∀ g : Gl, ∀ c, c ∈ g.clsS → (c.map f).sum ≤ f g := by
  intro g
  induction g using Gl.ind' with
  | h t ih =>
    have hft := hf t
    have hb : ∀ x, x ∈ t.goals → f x ≤ (t.goals.map f).sum := by
      intro x hx
      obtain ⟨a, b, hab⟩ := List.append_of_mem hx
      rw [hab]; simp; omega
    have key8 : ∀ (l : List Gl) (a : List (List Gl)), (∀ x, x ∈ l → x ∈ t.goals) → (∀ c, c ∈ a → (c.map f).sum ≤ (t.goals.map f).sum) → ∀ c, c ∈ Gl.orS l a → (c.map f).sum ≤ (t.goals.map f).sum := by
      intro l
      induction l with
      | nil => intro a _ ha; simpa only [Gl.orS] using ha
      | cons x r ihr =>
        intro a hl ha
        have h1 := ih x (hl x (by simp))
        have h2 := hb x (hl x (by simp))
        simp only [Gl.orS]
        split
        · intro c hc; have := h1 c hc; omega
        · refine ihr _ (fun y hy => hl y (by simp [hy])) fun c hc => ?_
          rcases List.mem_append.1 hc with h | h
          · exact ha c h
          · have := h1 c h; omega
    have key7 : ∀ (l : List Gl) (a : List (List Gl)) (m : Nat), (∀ x, x ∈ l → x ∈ t.goals) → m + (l.map f).sum ≤ (t.goals.map f).sum → (∀ c, c ∈ a → (c.map f).sum ≤ m) → ∀ c, c ∈ Gl.andS l a → (c.map f).sum ≤ (t.goals.map f).sum := by
      intro l
      induction l with
      | nil => intro a m _ hm ha c hc; simp only [Gl.andS] at hc; have := ha c hc; simp at hm; omega
      | cons x r ihr =>
        intro a m hl hm ha
        have h1 := ih x (hl x (by simp))
        have h2 := hb x (hl x (by simp))
        simp only [List.map_cons, List.sum_cons] at hm
        have h4 : ∀ c, c ∈ prodC a x.clsS → (c.map f).sum ≤ m + f x := by
          intro c hc
          obtain ⟨u, v, hu, hv, rfl⟩ := mem_prodC hc
          have k1 := ha u hu
          have k2 := h1 v hv
          rw [List.map_append, List.sum_append]; omega
        simp only [Gl.andS]
        split
        · intro c hc; have := h1 c hc; omega
        · split
          · intro c hc; have := h4 c hc; omega
          · exact ihr _ (m + f x) (fun y hy => hl y (by simp [hy])) (by omega) h4
    rw [Gl.clsS_eq]
    intro c hc
    split at hc
    · simp at hc; subst hc; simp
    · split at hc
      · simp at hc
      · split at hc
        · have := key8 t.goals [] (fun x hx => hx) (by simp) c hc; omega
        · split at hc
          · have := key7 t.goals [[]] 0 (fun x hx => hx) (by omega) (by simp) c hc; omega
          · simp at hc; subst hc; simp
theorem Gl.clsS_mcnt (g : Gl) : ∀ c, c ∈ g.clsS → Gl.mcnts c ≤ g.mcnt := by
  intro c hc
  rw [Gl.mcnts_sum]
  exact Gl.clsS_sum Gl.mcnt (fun t => by rw [← Gl.mcnts_sum, Gl.mcnt_eq]; omega) g c hc
end Go.Abs

/- Plain law, part 10: the choices that lead to a clause. -/
set_option linter.unusedVariables false
set_option linter.unusedSimpArgs false
namespace Go.Abs

/-- How many clauses a conjunction has. -/
def Gl.prd : List Gl → Nat
  | [] => 1
  | g :: r => g.clsS.length * Gl.prd r
mutual
def Gl.chI : Gl → Nat → List Int
  | .mk k _ _ gs, i => if k = 8 then Gl.chOr gs 0 i else if k = 7 then Gl.chAnd gs i else []
def Gl.chOr : List Gl → Nat → Nat → List Int
  | [], _, _ => []
  | g :: r, k, i => if i < g.clsS.length then (k : Int) :: Gl.chI g i else Gl.chOr r (k + 1) (i - g.clsS.length)
def Gl.chAnd : List Gl → Nat → List Int
  | [], _ => []
  | g :: r, i => Gl.chI g (i / Gl.prd r % g.clsS.length) ++ Gl.chAnd r i
end
theorem Gl.chI_eq (g : Gl) (i : Nat) : g.chI i = if g.kind = 8 then Gl.chOr g.goals 0 i else if g.kind = 7 then Gl.chAnd g.goals i else [] := by
  cases g; simp only [Gl.chI, Gl.kind, Gl.goals]; rfl
def Gl.chParts : List Gl → Nat → List (List Int)
  | [], _ => []
  | g :: r, i => Gl.chI g (i / Gl.prd r % g.clsS.length) :: Gl.chParts r i
theorem Gl.chParts_len : ∀ (l : List Gl) (i : Nat), (Gl.chParts l i).length = l.length
  | [], _ => rfl
  | g :: r, i => by simp [Gl.chParts, Gl.chParts_len r]
theorem Gl.chParts_flat : ∀ (l : List Gl) (i : Nat), (Gl.chParts l i).flatten = Gl.chAnd l i
  | [], _ => by simp [Gl.chParts, Gl.chAnd]
  | g :: r, i => by simp [Gl.chParts, Gl.chAnd, Gl.chParts_flat r]
theorem Gl.chAnd_mod : ∀ (l : List Gl) (i m : Nat), Gl.prd l ∣ m → Gl.chAnd l (i % m) = Gl.chAnd l i
  | [], i, m, _ => by simp [Gl.chAnd]
  | g :: r, i, m, h => by
    obtain ⟨c, rfl⟩ := h
    simp only [Gl.prd, Gl.chAnd]
    rw [Gl.chAnd_mod r i _ ⟨g.clsS.length * c, by rw [Nat.mul_comm g.clsS.length (Gl.prd r), Nat.mul_assoc]⟩]
    congr 2
    rw [show g.clsS.length * Gl.prd r * c = Gl.prd r * (g.clsS.length * c) by rw [Nat.mul_comm g.clsS.length (Gl.prd r), Nat.mul_assoc]]
    rw [Nat.mod_mul_right_div_self, Nat.mod_mod_of_dvd _ ⟨c, rfl⟩]
theorem Gl.chI_len : ∀ (g : Gl) (i : Nat), (g.chI i).length ≤ g.cnt := by
  intro g
  induction g using Gl.ind' with
  | h t ih =>
    intro i
    have key8 : ∀ (l : List Gl) (k i : Nat), (∀ x, x ∈ l → x ∈ t.goals) → (Gl.chOr l k i).length ≤ 1 + Gl.cnts l := by
      intro l
      induction l with
      | nil => intro k i _; simp [Gl.chOr]
      | cons x r ihr =>
        intro k i hl
        have h1 := ih x (hl x (by simp)) i
        have h2 := ihr (k + 1) (i - x.clsS.length) (fun x hx => hl x (by simp [hx]))
        simp only [Gl.chOr, Gl.cnts]
        split
        · simp; omega
        · omega
    have key7 : ∀ (l : List Gl) (i : Nat), (∀ x, x ∈ l → x ∈ t.goals) → (Gl.chAnd l i).length ≤ Gl.cnts l := by
      intro l
      induction l with
      | nil => intro i _; simp [Gl.chAnd]
      | cons x r ihr =>
        intro i hl
        have h1 := ih x (hl x (by simp)) (i / Gl.prd r % x.clsS.length)
        have h2 := ihr i (fun x hx => hl x (by simp [hx]))
        simp only [Gl.chAnd, Gl.cnts, List.length_append]
        omega
    rw [Gl.chI_eq, Gl.cnt_eq]
    split
    · exact key8 t.goals 0 i (fun x hx => hx)
    · split
      · have := key7 t.goals i (fun x hx => hx); omega
      · simp
theorem Gl.chAnd_len : ∀ (l : List Gl) (i : Nat), (Gl.chAnd l i).length ≤ Gl.cnts l
  | [], i => by simp [Gl.chAnd]
  | x :: r, i => by
    have h1 := x.chI_len (i / Gl.prd r % x.clsS.length)
    have h2 := Gl.chAnd_len r i
    simp only [Gl.chAnd, Gl.cnts, List.length_append]; omega
theorem Gl.andS_prd : ∀ (l : List Gl) (a : List (List Gl)), (Gl.andS l a).length ≤ 64 → (Gl.andS l a).length = a.length * Gl.prd l
  | [], a, h => by simp [Gl.andS, Gl.prd]
  | g :: r, a, h => by
    simp only [Gl.andS] at h ⊢
    by_cases h1 : 64 < g.clsS.length
    · rw [if_pos h1] at h; omega
    · rw [if_neg h1] at h ⊢
      by_cases h2 : 64 < (prodC a g.clsS).length
      · rw [if_pos h2] at h; omega
      · rw [if_neg h2] at h ⊢
        rw [Gl.andS_prd r _ h, prodC_len, Gl.prd, Nat.mul_assoc]
theorem Gl.prd_app : ∀ (a b : List Gl), Gl.prd (a ++ b) = Gl.prd a * Gl.prd b
  | [], b => by simp [Gl.prd]
  | g :: a, b => by simp only [List.cons_append, Gl.prd, Gl.prd_app a b, Nat.mul_assoc]
/-- The clauses of a conjunction, where one is asked for. -/
theorem Gl.and_parts {t : Gl} (h7 : t.kind = 7) {i : Nat} (hi : i < t.clsS.length) (hl : t.clsS.length ≤ 64) : i < Gl.prd t.goals ∧ Gl.prd t.goals ≤ 64 ∧ ∀ x, x ∈ t.goals → x.clsS.length ≤ 64 := by
  rw [Gl.clsS_eq, if_neg (by omega), if_neg (by omega), if_neg (by omega), if_pos h7] at hi hl
  have h1 := Gl.andS_prd _ _ hl
  have h2 := Gl.andS_parts _ _ hl
  simp only [List.length_cons, List.length_nil] at h1
  exact ⟨by omega, by omega, h2⟩
theorem Gl.or_parts {t : Gl} (h8 : t.kind = 8) {i : Nat} (hi : i < t.clsS.length) (hl : t.clsS.length ≤ 64) : i < (t.goals.map fun x => x.clsS.length).sum ∧ (t.goals.map fun x => x.clsS.length).sum ≤ 64 ∧ ∀ x, x ∈ t.goals → x.clsS.length ≤ 64 := by
  rw [Gl.clsS_eq, if_neg (by omega), if_neg (by omega), if_pos h8] at hi hl
  obtain ⟨h2, h1⟩ := Gl.orS_parts _ _ hl
  simp only [List.length_nil] at h1
  exact ⟨by omega, by omega, h2⟩
theorem Gl.prd_pos {l : List Gl} (h : 0 < Gl.prd l) : ∀ x, x ∈ l → 0 < x.clsS.length := by
  induction l with
  | nil => simp
  | cons g r ih =>
    intro x hx
    simp only [Gl.prd] at h
    have h1 := Nat.pos_of_mul_pos_right h
    have h2 := Nat.pos_of_mul_pos_left h
    rcases List.mem_cons.1 hx with rfl | hx
    · first | exact h1 | exact h2
    · first | exact ih h2 x hx | exact ih h1 x hx
end Go.Abs
