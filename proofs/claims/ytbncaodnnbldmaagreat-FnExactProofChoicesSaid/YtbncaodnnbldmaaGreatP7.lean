import Derived.Test.YtbncaodnnbldmaaGreatP5
set_option linter.unusedVariables false
set_option linter.unusedSimpArgs false
namespace Go.Abs
mutual
def Gl.nc : Gl → Nat → Nat
 | .mk k _ _ gs, i => if k = 8 then Gl.ncOr gs i else if k = 7 then Gl.ncAnd gs i else if k = 9 then 1 else 0
def Gl.ncOr : List Gl → Nat → Nat
 | [], _ => 0
 | g :: r, i => if i < g.clsS.length then Gl.nc g i else Gl.ncOr r (i - g.clsS.length)
def Gl.ncAnd : List Gl → Nat → Nat
 | [], _ => 0
 | g :: r, i => Gl.nc g (i / Gl.prd r % g.clsS.length) + Gl.ncAnd r i
end
theorem Gl.nc_eq (g : Gl) (i : Nat) : g.nc i = if g.kind = 8 then Gl.ncOr g.goals i else if g.kind = 7 then Gl.ncAnd g.goals i else if g.kind = 9 then 1 else 0 := by
 cases g; simp only [Gl.nc, Gl.kind, Gl.goals]; rfl
mutual
def Gl.cn : Gl → Nat → List (List UInt8)
 | .mk k n _ gs, i => if k = 8 then Gl.cnOr gs i else if k = 7 then Gl.cnAnd gs i else if k = 9 then [n] else []
def Gl.cnOr : List Gl → Nat → List (List UInt8)
 | [], _ => []
 | g :: r, i => if i < g.clsS.length then Gl.cn g i else Gl.cnOr r (i - g.clsS.length)
def Gl.cnAnd : List Gl → Nat → List (List UInt8)
 | [], _ => []
 | g :: r, i => Gl.cn g (i / Gl.prd r % g.clsS.length) ++ Gl.cnAnd r i
end
theorem Gl.cn_eq (g : Gl) (i : Nat) : g.cn i = if g.kind = 8 then Gl.cnOr g.goals i else if g.kind = 7 then Gl.cnAnd g.goals i else if g.kind = 9 then [g.name] else [] := by
 cases g; simp only [Gl.cn, Gl.kind, Gl.goals, Gl.name]; rfl
theorem Gl.cn_len : ∀ (g : Gl) (i : Nat), (g.cn i).length = g.nc i := by
 intro g
 induction g using Gl.ind' with
 | h t ih =>
  intro i
  have key8 : ∀ (l : List Gl) (i : Nat), (∀ x, x ∈ l → x ∈ t.goals) → (Gl.cnOr l i).length = Gl.ncOr l i := by
   intro l
   induction l with
   | nil => intro i _; rfl
   | cons x r ihr =>
    intro i hl
    have h1 := ih x (hl x (by simp)) i
    have h2 := ihr (i - x.clsS.length) (fun x hx => hl x (by simp [hx]))
    simp only [Gl.cnOr, Gl.ncOr]
    split
    ·exact h1
    ·exact h2
  have key7 : ∀ (l : List Gl) (i : Nat), (∀ x, x ∈ l → x ∈ t.goals) → (Gl.cnAnd l i).length = Gl.ncAnd l i := by
   intro l
   induction l with
   | nil => intro i _; rfl
   | cons x r ihr =>
    intro i hl
    have h1 := ih x (hl x (by simp)) (i / Gl.prd r % x.clsS.length)
    have h2 := ihr i (fun x hx => hl x (by simp [hx]))
    simp only [Gl.cnAnd, Gl.ncAnd, List.length_append, h1, h2]
  rw [Gl.cn_eq, Gl.nc_eq]
  by_cases h8 : t.kind = 8
  ·simp only [if_pos h8]; exact key8 t.goals i (fun x hx => hx)
  ·by_cases h7 : t.kind = 7
   ·simp only [if_neg h8, if_pos h7]; exact key7 t.goals i (fun x hx => hx)
   ·simp only [if_neg h8, if_neg h7]
    split <;> rfl
mutual
def Gl.chK : Gl → Nat → List (List Int) → List Int
 | .mk k _ _ gs, i, L => if k = 8 then Gl.chKOr gs 0 i L else if k = 7 then Gl.chKAnd gs i L else if k = 9 then L.headD [] else []
def Gl.chKOr : List Gl → Nat → Nat → List (List Int) → List Int
 | [], _, _, _ => []
 | g :: r, k, i, L => if i < g.clsS.length then (k : Int) :: Gl.chK g i L else Gl.chKOr r (k + 1) (i - g.clsS.length) L
def Gl.chKAnd : List Gl → Nat → List (List Int) → List Int
 | [], _, _ => []
 | g :: r, i, L => Gl.chK g (i / Gl.prd r % g.clsS.length) L ++ Gl.chKAnd r i (L.drop (Gl.nc g (i / Gl.prd r % g.clsS.length)))
end
theorem Gl.chK_eq (g : Gl) (i : Nat) (L : List (List Int)) : g.chK i L = if g.kind = 8 then Gl.chKOr g.goals 0 i L else if g.kind = 7 then Gl.chKAnd g.goals i L else if g.kind = 9 then L.headD [] else [] := by
 cases g; simp only [Gl.chK, Gl.kind, Gl.goals]; rfl
theorem Gl.cnAnd_mod : ∀ (l : List Gl) (i m : Nat), Gl.prd l ∣ m → Gl.cnAnd l (i % m) = Gl.cnAnd l i
 | [], i, m, _ => by simp [Gl.cnAnd]
 | g :: r, i, m, h => by
  obtain ⟨c, rfl⟩ := h
  have e : i % (Gl.prd (g :: r) * c) / Gl.prd r % g.clsS.length = i / Gl.prd r % g.clsS.length := by
   simp only [Gl.prd]
   rw [show g.clsS.length * Gl.prd r * c = Gl.prd r * (g.clsS.length * c) by rw [Nat.mul_comm g.clsS.length (Gl.prd r), Nat.mul_assoc]]
   rw [Nat.mod_mul_right_div_self, Nat.mod_mod_of_dvd _ ⟨c, rfl⟩]
  have hd : Gl.prd r ∣ Gl.prd (g :: r) * c := ⟨g.clsS.length * c, by simp only [Gl.prd]; rw [Nat.mul_comm g.clsS.length (Gl.prd r), Nat.mul_assoc]⟩
  simp only [Gl.cnAnd, e, Gl.cnAnd_mod r i _ hd]
theorem Gl.chKAnd_mod : ∀ (l : List Gl) (i m : Nat) (L : List (List Int)), Gl.prd l ∣ m → Gl.chKAnd l (i % m) L = Gl.chKAnd l i L ∧ Gl.ncAnd l (i % m) = Gl.ncAnd l i
 | [], i, m, L, _ => by simp [Gl.chKAnd, Gl.ncAnd]
 | g :: r, i, m, L, h => by
  obtain ⟨c, rfl⟩ := h
  have e : i % (Gl.prd (g :: r) * c) / Gl.prd r % g.clsS.length = i / Gl.prd r % g.clsS.length := by
   simp only [Gl.prd]
   rw [show g.clsS.length * Gl.prd r * c = Gl.prd r * (g.clsS.length * c) by rw [Nat.mul_comm g.clsS.length (Gl.prd r), Nat.mul_assoc]]
   rw [Nat.mod_mul_right_div_self, Nat.mod_mod_of_dvd _ ⟨c, rfl⟩]
  have hd : Gl.prd r ∣ Gl.prd (g :: r) * c := ⟨g.clsS.length * c, by simp only [Gl.prd]; rw [Nat.mul_comm g.clsS.length (Gl.prd r), Nat.mul_assoc]⟩
  have h1 := Gl.chKAnd_mod r i _ (L.drop (Gl.nc g (i / Gl.prd r % g.clsS.length))) hd
  simp only [Gl.chKAnd, Gl.ncAnd, e, h1.1, h1.2, and_self]
theorem Gl.or_pick : ∀ (l : List Gl) (k i : Nat), i < (l.map fun x => x.clsS.length).sum → ∃ j x idx, l[j]? = some x ∧ idx < x.clsS.length ∧ Gl.chOr l k i = ((k + j : Nat) : Int) :: x.chI idx ∧ (∀ L, Gl.chKOr l k i L = ((k + j : Nat) : Int) :: x.chK idx L) ∧ Gl.ncOr l i = x.nc idx ∧ Gl.cnOr l i = x.cn idx
 | [], _, _, h => by simp at h
 | x :: r, k, i, h => by
  by_cases hi : i < x.clsS.length
  ·exact ⟨0, x, i, rfl, hi, by simp [Gl.chOr, hi], fun L => by simp [Gl.chKOr, hi], by simp [Gl.ncOr, hi], by simp [Gl.cnOr, hi]⟩
  ·simp only [List.map_cons, List.sum_cons] at h
   obtain ⟨j, y, idx, h1, h2, h3, h4, h5, h6⟩ := Gl.or_pick r (k + 1) (i - x.clsS.length) (by omega)
   have e : k + 1 + j = k + (j + 1) := by omega
   rw [e] at h3 h4
   exact ⟨j + 1, y, idx, h1, h2, by simp only [Gl.chOr, if_neg hi]; exact h3, fun L => by simp only [Gl.chKOr, if_neg hi]; exact h4 L, by simp only [Gl.ncOr, if_neg hi]; exact h5, by simp only [Gl.cnOr, if_neg hi]; exact h6⟩
mutual
def Pg.chP (p : Pg) : Pf → List Int
 | .mk rel cl _ kids => match p.rels[(p.find rel).toNat]? with
  | some r => r.body.chK cl.toNat (Pg.chPs p kids)
  | none => []
def Pg.chPs (p : Pg) : List Pf → List (List Int)
 | [] => []
 | k :: r => p.chP k :: p.chPs r
end
theorem Pg.chPs_eq (p : Pg) : ∀ l : List Pf, p.chPs l = l.map p.chP
 | [] => rfl
 | k :: r => by simp only [Pg.chPs, List.map_cons, Pg.chPs_eq p r]
theorem Pg.chP_at {p : Pg} {t : Pf} {r : Rl} (h : p.rels[(p.find t.rel).toNat]? = some r) : p.chP t = r.body.chK t.clause.toNat (t.kids.map p.chP) := by
 cases t with
 | mk rel cl vs kids =>
  simp only [Pf.rel, Pf.clause, Pf.kids] at h ⊢
  simp only [Pg.chP, h, Pg.chPs_eq]
def calls9 (c : List Gl) : List (List UInt8) := (c.filter fun g => decide (g.kind = 9)).map Gl.name
theorem rel_drop {L : List Pf} {a b : List (List UInt8)} (h : L.map Pf.rel = a ++ b) : (L.drop a.length).map Pf.rel = b := by
 rw [List.map_drop, h, List.drop_left]
theorem FcV.eq_rel {a b : FcV} (h : a.eq b = true) : a.1 = b.1 := by
 simp only [FcV.eq, decide_eq_true_eq] at h
 unfold cmpFact at h
 split at h
 ·split at h <;> omega
 ·rename_i hh; exact Decidable.not_not.1 hh
theorem calls9_app (a b : List Gl) : calls9 (a ++ b) = calls9 a ++ calls9 b := by simp [calls9, List.filter_append]
theorem clsLoop_kids {f : Int → V} : ∀ {c : List Gl} {ks : List (Bool × FcV)}, clsLoop f c ks = true → (ks.map fun k => k.2.1) = calls9 c ∧ ∀ k, k ∈ ks → k.1 = true
 | [], ks, h => by
  simp only [clsLoop, List.isEmpty_iff] at h
  subst h; simp [calls9]
 | g :: r, ks, h => by
  simp only [clsLoop] at h
  by_cases h10 : g.kind = 10
  ·rw [if_pos h10] at h; cases h
  ·rw [if_neg h10] at h
   by_cases h9 : g.kind = 9
   ·rw [if_pos h9] at h
    cases ks with
    | nil => cases h
    | cons k ks =>
     simp only [Bool.and_eq_true] at h
     obtain ⟨i1, i2⟩ := clsLoop_kids h.2
     refine ⟨by rw [List.map_cons, i1, FcV.eq_rel h.1.2]; simp [calls9, h9, Gl.callV], fun x hx => ?_⟩
     rcases List.mem_cons.1 hx with rfl | hx
     ·exact h.1.1
     ·exact i2 x hx
   ·rw [if_neg h9] at h
    simp only [Bool.and_eq_true] at h
    obtain ⟨i1, i2⟩ := clsLoop_kids h.2
    exact ⟨by rw [i1]; simp [calls9, h9], i2⟩
theorem prodC_at {α : Type} : ∀ (a l : List (List α)) (i : Nat) (c : List α), (prodC a l)[i]? = some c → ∃ x y, a[i / l.length]? = some x ∧ l[i % l.length]? = some y ∧ c = x ++ y
 | [], l, i, c, h => by simp [prodC] at h
 | x :: a, l, i, c, h => by
  have hp : prodC (x :: a) l = (l.map fun y => x ++ y) ++ prodC a l := by simp [prodC]
  rw [hp] at h
  have hl0 : 0 < l.length := by
   rcases Nat.eq_zero_or_pos l.length with h0 | h0
   ·have : l = [] := List.length_eq_zero_iff.1 h0
    subst this
    have hz : (prodC a ([] : List (List α))).length = 0 := by rw [prodC_len]; simp
    rw [List.length_eq_zero_iff.1 hz] at h
    simp at h
   ·exact h0
  by_cases hi : i < l.length
  ·rw [List.getElem?_append_left (by simpa using hi)] at h
   simp only [List.getElem?_map, Option.map_eq_some_iff] at h
   obtain ⟨y, hy, rfl⟩ := h
   refine ⟨x, y, ?_, ?_, rfl⟩
   ·rw [Nat.div_eq_of_lt hi]; rfl
   ·rw [Nat.mod_eq_of_lt hi]; exact hy
  ·rw [List.getElem?_append_right (by simp; omega)] at h
   simp only [List.length_map] at h
   obtain ⟨u, y, h1, h2, h3⟩ := prodC_at a l _ c h
   obtain ⟨j, rfl⟩ : ∃ j, i = j + l.length := ⟨i - l.length, by omega⟩
   rw [Nat.add_sub_cancel] at h1 h2
   refine ⟨u, y, ?_, ?_, h3⟩
   ·rw [Nat.add_div_right _ hl0]; simpa using h1
   ·rw [Nat.add_mod_right]; exact h2
theorem Gl.cn_calls : ∀ (t : Gl), t.clsS.length ≤ 64 → ∀ (i : Nat) (c : List Gl), t.clsS[i]? = some c → calls9 c = t.cn i := by
 intro t
 induction t using Gl.ind' with
 | h t ih =>
  intro hl i c hc
  rw [Gl.cn_eq]
  rw [Gl.clsS_eq] at hl hc
  by_cases h0 : t.kind = 0
  ·rw [if_pos h0] at hc
   rw [if_neg (by omega), if_neg (by omega), if_neg (by omega)]
   cases i with
   | zero => simp at hc; subst hc; rfl
   | succ i => simp at hc
  rw [if_neg h0] at hl hc
  by_cases h1 : t.kind = 1
  ·rw [if_pos h1] at hc; simp at hc
  rw [if_neg h1] at hl hc
  by_cases h8 : t.kind = 8
  ·rw [if_pos h8] at hl hc ⊢
   have key : ∀ (l : List Gl) (a : List (List Gl)) (j : Nat), (∀ x, x ∈ l → x ∈ t.goals) → (Gl.orS l a).length ≤ 64 → (Gl.orS l a)[a.length + j]? = some c → calls9 c = Gl.cnOr l j := by
    intro l
    induction l with
    | nil => intro a j _ _ h; simp [Gl.orS] at h
    | cons g r ihr =>
     intro a j hm hle h
     have hp := (Gl.orS_parts _ _ hle).1
     have hg := hp g (by simp)
     simp only [Gl.orS, if_neg (show ¬ 64 < g.clsS.length by omega)] at h hle
     simp only [Gl.cnOr]
     by_cases hj : j < g.clsS.length
     ·rw [if_pos hj]
      refine ih g (hm g (by simp)) hg j c ?_
      have hpre : ∀ (l : List Gl) (a : List (List Gl)) (k : Nat), (Gl.orS l a).length ≤ 64 → k < a.length → (Gl.orS l a)[k]? = a[k]? := by
       intro l
       induction l with
       | nil => intro a k _ _; simp [Gl.orS]
       | cons x r ih2 =>
        intro a k h1 h2
        have := (Gl.orS_parts _ _ h1).1 x (by simp)
        simp only [Gl.orS, if_neg (show ¬ 64 < x.clsS.length by omega)] at h1 ⊢
        rw [ih2 _ k h1 (by simp; omega), List.getElem?_append_left h2]
      rw [hpre r _ _ hle (by simp; omega), List.getElem?_append_right (by omega)] at h
      simpa using h
     ·rw [if_neg hj]
      refine ihr (a ++ g.clsS) (j - g.clsS.length) (fun x hx => hm x (by simp [hx])) hle ?_
      rw [← h]; congr 1; simp; omega
   exact key t.goals [] i (fun x hx => hx) hl (by simpa using hc)
  rw [if_neg h8] at hl hc ⊢
  by_cases h7 : t.kind = 7
  ·rw [if_pos h7] at hl hc ⊢
   have key : ∀ (l : List Gl) (a : List (List Gl)) (j : Nat), (∀ x, x ∈ l → x ∈ t.goals) → (Gl.andS l a).length ≤ 64 → (Gl.andS l a)[j]? = some c → ∃ u, a[j / Gl.prd l]? = some u ∧ calls9 c = calls9 u ++ Gl.cnAnd l j := by
    intro l
    induction l with
    | nil => intro a j _ _ h; simp only [Gl.andS] at h; exact ⟨c, by simpa [Gl.prd] using h, by simp [Gl.cnAnd]⟩
    | cons g r ihr =>
     intro a j hm hle h
     have hg := Gl.andS_parts _ _ hle g (by simp)
     simp only [Gl.andS, if_neg (show ¬ 64 < g.clsS.length by omega)] at h hle
     by_cases h2 : 64 < (prodC a g.clsS).length
     ·rw [if_pos h2] at hle; omega
     rw [if_neg h2] at h hle
     obtain ⟨u, hu, hcu⟩ := ihr _ j (fun x hx => hm x (by simp [hx])) hle h
     obtain ⟨x, y, hx, hy, rfl⟩ := prodC_at _ _ _ _ hu
     have hny := ih g (hm g (by simp)) hg _ y hy
     refine ⟨x, ?_, ?_⟩
     ·rw [← hx]; congr 1
      simp only [Gl.prd]
      rw [Nat.div_div_eq_div_mul, Nat.mul_comm]
     ·simp only [Gl.cnAnd]
      rw [hcu, calls9_app, hny, List.append_assoc]
   obtain ⟨u, hu, he⟩ := key t.goals [[]] i (fun x hx => hx) hl hc
   rw [he]
   cases hq : i / Gl.prd t.goals with
   | zero => rw [hq] at hu; simp at hu; subst hu; simp [calls9]
   | succ n => rw [hq] at hu; simp at hu
  rw [if_neg h7] at hl hc ⊢
  cases i with
  | zero =>
   simp at hc; subst hc
   by_cases h9 : t.kind = 9
   ·simp [calls9, h9]
   ·simp [calls9, h9]
  | succ i => simp at hc
theorem Pg.prf_kids {p : Pg} {t : Pf} (h : p.prf t = true) : 0 ≤ p.find t.rel ∧ ∃ r, p.rels[(p.find t.rel).toNat]? = some r ∧ r ∈ p.rels ∧ r.body.clsS.length ≤ 64 ∧ 0 ≤ t.clause ∧ t.clause.toNat < r.body.clsS.length ∧ t.kids.map Pf.rel = r.body.cn t.clause.toNat ∧ ∀ k, k ∈ t.kids → p.prf k = true := by
 rw [Pg.prf_eq] at h
 unfold Pg.prfAt at h
 simp only [Bool.and_eq_true, decide_eq_true_eq] at h
 obtain ⟨h0, h1⟩ := h
 refine ⟨h0, ?_⟩
 split at h1
 ·exact absurd h1 (by simp)
 ·rename_i r hr
  simp only [Bool.and_eq_true, decide_eq_true_eq] at h1
  obtain ⟨_, _, h2, h3, h4⟩ := h1
  split at h4
  ·cases h4
  ·rename_i c hc
   obtain ⟨i1, i2⟩ := clsLoop_kids h4
   refine ⟨r, hr, List.mem_of_getElem? hr, h2, h3, (List.getElem?_eq_some_iff.1 hc).1, ?_, fun k hk => ?_⟩
   ·rw [← Gl.cn_calls _ h2 _ c hc, ← i1, Pg.prfs_eq, List.map_map]; rfl
   ·rw [Pg.prfs_eq] at i2
    exact i2 _ (List.mem_map.2 ⟨k, hk, rfl⟩)
theorem Gl.chK_len (f : Pf → List Int) : ∀ (g : Gl) (i : Nat) (L : List Pf), (∀ k, k ∈ L → (f k).length ≤ 60 * k.cnt) → (g.chK i (L.map f)).length + 60 * Pf.cnts (L.drop (g.nc i)) ≤ g.cnt + 60 * Pf.cnts L := by
 intro g
 induction g using Gl.ind' with
 | h t ih =>
  intro i L hL
  have key8 : ∀ (l : List Gl) (k i : Nat), (∀ x, x ∈ l → x ∈ t.goals) → (Gl.chKOr l k i (L.map f)).length + 60 * Pf.cnts (L.drop (Gl.ncOr l i)) ≤ 1 + Gl.cnts l + 60 * Pf.cnts L := by
   intro l
   induction l with
   | nil => intro k i _; simp [Gl.chKOr, Gl.ncOr]
   | cons x r ihr =>
    intro k i hl
    have h1 := ih x (hl x (by simp)) i L hL
    have h2 := ihr (k + 1) (i - x.clsS.length) (fun x hx => hl x (by simp [hx]))
    simp only [Gl.chKOr, Gl.ncOr, Gl.cnts]
    split
    ·simp only [List.length_cons]; omega
    ·omega
  have key7 : ∀ (l : List Gl) (i : Nat) (L : List Pf), (∀ k, k ∈ L → (f k).length ≤ 60 * k.cnt) → (∀ x, x ∈ l → x ∈ t.goals) → (Gl.chKAnd l i (L.map f)).length + 60 * Pf.cnts (L.drop (Gl.ncAnd l i)) ≤ Gl.cnts l + 60 * Pf.cnts L := by
   intro l
   induction l with
   | nil => intro i L _ _; simp [Gl.chKAnd, Gl.ncAnd]
   | cons x r ihr =>
    intro i L hL hl
    have h1 := ih x (hl x (by simp)) (i / Gl.prd r % x.clsS.length) L hL
    have h2 := ihr i (L.drop (x.nc (i / Gl.prd r % x.clsS.length))) (fun k hk => hL k (List.mem_of_mem_drop hk)) (fun x hx => hl x (by simp [hx]))
    rw [List.drop_drop] at h2
    simp only [Gl.chKAnd, Gl.ncAnd, Gl.cnts, List.length_append]
    rw [← List.map_drop]
    omega
  rw [Gl.chK_eq, Gl.nc_eq, Gl.cnt_eq]
  by_cases h8 : t.kind = 8
  ·simp only [if_pos h8]; exact key8 t.goals 0 i (fun x hx => hx)
  ·by_cases h7 : t.kind = 7
   ·simp only [if_neg h8, if_pos h7]; have := key7 t.goals i L hL (fun x hx => hx); omega
   ·simp only [if_neg h8, if_neg h7]
    by_cases h9 : t.kind = 9
    ·simp only [if_pos h9]
     cases L with
     | nil => simp
     | cons a r =>
      have := hL a (by simp)
      simp [Pf.cnts]; omega
    ·simp [if_neg h9]
theorem Pg.chP_len {p : Pg} (hp : pgOk p = true) : ∀ t : Pf, p.prf t = true → (p.chP t).length ≤ 60 * t.cnt := by
 intro t
 induction t using Pf.ind' with
 | h t ih =>
  intro ht
  obtain ⟨_, r, hr, hrm, _, h0, _, hk, hks⟩ := Pg.prf_kids ht
  obtain ⟨m, hm⟩ : ∃ m : Nat, (m : Int) = r.arity + r.locals := ⟨t.values.length, by
   obtain ⟨_, r', hr', h1, _⟩ := Pg.prf_head ht
   rw [hr] at hr'; cases hr'; exact h1⟩
  obtain ⟨_, _, _, _, _, hb⟩ := Pg.body_inst hp hrm hm
  have h1 := r.body.chK_len p.chP t.clause.toNat t.kids (fun k hk => ih k hk (hks k hk))
  rw [Pg.chP_at hr, Pf.cnt_eq]
  omega
def pcV (p : Pg) (t : Pf) : List Int := if p.prfOk t = true then p.chP t else []
end Go.Abs
