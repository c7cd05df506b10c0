import Derived.Test.YtbncaodnnbldmaaGreatP3
set_option linter.unusedVariables false
set_option linter.unusedSimpArgs false
namespace Go.Abs
theorem wtR_app (a b : List (List D)) : wtR (a ++ b) = wtR a + wtR b := by
 induction a with
 | nil => simp [wtR]
 | cons x r ih => simp only [List.cons_append, wtR, ih]; omega
theorem wtR_mem {l : List (List D)} {x : List D} (h : x ∈ l) : 1 + wtL x ≤ wtR l := by
 induction l with
 | nil => simp at h
 | cons y r ih =>
  simp only [wtR]
  rcases List.mem_cons.1 h with rfl | h
  ·omega
  ·have := ih h; omega
theorem Gl.wtR_goals (t : Gl) : wtR (t.goals.map Gl.enc) ≤ wtL t.enc := by
 simp only [Gl.enc_eq t, wtL, D.wt]; omega
theorem Gl.clsS_wt : ∀ g : Gl, ∀ c, c ∈ g.clsS → wtR (c.map Gl.enc) ≤ 1 + wtL g.enc := by
 intro g
 induction g using Gl.ind' with
 | h t ih =>
  have hg := Gl.wtR_goals t
  have key8 : ∀ (l : List Gl) (a : List (List Gl)), (∀ x, x ∈ l → x ∈ t.goals) → (∀ c, c ∈ a → wtR (c.map Gl.enc) ≤ 1 + wtL t.enc) → ∀ c, c ∈ Gl.orS l a → wtR (c.map Gl.enc) ≤ 1 + wtL t.enc := by
   intro l
   induction l with
   | nil => intro a _ ha; simpa only [Gl.orS] using ha
   | cons x r ihr =>
    intro a hl ha
    have h1 := ih x (hl x (by simp))
    have h2 := Gl.wt_goals (hl x (by simp))
    have h3 : ∀ c, c ∈ x.clsS → wtR (c.map Gl.enc) ≤ 1 + wtL t.enc := fun c hc => by have := h1 c hc; omega
    simp only [Gl.orS]
    split
    ·exact h3
    ·refine ihr _ (fun y hy => hl y (by simp [hy])) fun c hc => ?_
     rcases List.mem_append.1 hc with h | h
     ·exact ha c h
     ·exact h3 c h
  have key7 : ∀ (l : List Gl) (a : List (List Gl)) (m : Nat), (∀ x, x ∈ l → x ∈ t.goals) → m + wtR (l.map Gl.enc) ≤ wtL t.enc → (∀ c, c ∈ a → wtR (c.map Gl.enc) ≤ m) → ∀ c, c ∈ Gl.andS l a → wtR (c.map Gl.enc) ≤ 1 + wtL t.enc := by
   intro l
   induction l with
   | nil => intro a m _ hm ha c hc; simp only [Gl.andS] at hc; have := ha c hc; simp only [List.map_nil, wtR] at hm; omega
   | cons x r ihr =>
    intro a m hl hm ha
    have h1 := ih x (hl x (by simp))
    simp only [List.map_cons, wtR] at hm
    have h4 : ∀ c, c ∈ prodC a x.clsS → wtR (c.map Gl.enc) ≤ m + (1 + wtL x.enc) := by
     intro c hc
     obtain ⟨u, v, hu, hv, rfl⟩ := mem_prodC hc
     have k1 := ha u hu
     have k2 := h1 v hv
     rw [List.map_append, wtR_app]; omega
    simp only [Gl.andS]
    split
    ·exact fun c hc => by have := h1 c hc; omega
    ·split
     ·exact fun c hc => by have := h4 c hc; omega
     ·exact ihr _ (m + (1 + wtL x.enc)) (fun y hy => hl y (by simp [hy])) (by omega) h4
  rw [Gl.clsS_eq]
  intro c hc
  split at hc
  ·simp at hc; subst hc; simp [wtR]
  ·split at hc
   ·simp at hc
   ·split at hc
    ·exact key8 t.goals [] (fun x hx => hx) (by simp) c hc
    ·split at hc
     ·exact key7 t.goals [[]] 0 (fun x hx => hx) (by omega) (by simp [wtR]) c hc
     ·simp at hc; subst hc
      simp only [List.map_cons, List.map_nil, wtR]; omega
end Go.Abs
