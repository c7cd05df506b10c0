/- Plain law, part 2: streams' sizes. -/
import Derived.Test.YtkmbaakiliafeaaPl1
set_option linter.unusedVariables false
namespace Go.Abs

mutual
def Stm.num : Stm → Int
  | .mk _ _ _ ks => 1 + Stm.nums ks
def Stm.nums : List Stm → Int
  | [] => 0
  | t :: r => Stm.num t + Stm.nums r
end
theorem Stm.num_eq (t : Stm) : t.num = 1 + Stm.nums t.kids := by cases t; simp only [Stm.num, Stm.kids]
theorem Stm.ind' {Q : Stm → Prop} (h : ∀ t : Stm, (∀ x, x ∈ t.kids → Q x) → Q t) : ∀ t, Q t := by
  intro t
  induction t using Stm.ind with
  | h k b g as ih => exact h _ ih
theorem Stm.wt_kids {t x : Stm} (h : x ∈ t.kids) : wtL x.enc < wtL t.enc := by
  have := wtL_lt (t.kids.map Stm.enc) x.enc (List.mem_map.2 ⟨x, h, rfl⟩)
  simp only [Stm.enc_eq t, wtL, D.wt]
  omega
theorem Stm.nums_pos : ∀ l : List Stm, (∀ x, x ∈ l → 1 ≤ x.num) → 0 ≤ Stm.nums l
  | [], _ => by simp [Stm.nums]
  | t :: r, h => by
    have h1 := h t (by simp)
    have h2 := Stm.nums_pos r (fun x hx => h x (by simp [hx]))
    simp only [Stm.nums]; omega
theorem Stm.num_le : ∀ t : Stm, 1 ≤ t.num ∧ t.num ≤ 1 + wtL t.enc := by
  intro t
  induction t using Stm.ind' with
  | h t ih =>
    have key : ∀ (l : List Stm), (∀ x, x ∈ l → x ∈ t.kids) → 0 ≤ Stm.nums l ∧ Stm.nums l ≤ wtR (l.map Stm.enc) := by
      intro l
      induction l with
      | nil => intro _; simp [Stm.nums, wtR]
      | cons t r ihr =>
        intro hl
        have h1 := ih t (hl t (by simp))
        have h2 := ihr (fun x hx => hl x (by simp [hx]))
        simp only [Stm.nums, List.map_cons, wtR]
        omega
    have := key t.kids (fun x hx => hx)
    rw [Stm.num_eq]
    simp only [Stm.enc_eq t, wtL, D.wt]
    omega
end Go.Abs
