/- Plain law, part 4: variables, ascending lists, the keys of a map. -/
import Derived.Test.YtkmbaakiliafeaaPl3
import Derived.Test.YtkmbaakiliafeaaAbs32
set_option linter.unusedVariables false
set_option linter.unusedSimpArgs false
namespace Go.Abs

/-! ### Ascending lists -/
def insA : List Int → Int → List Int
  | [], n => [n]
  | x :: r, n => if x < n then x :: insA r n else if x = n then x :: r else n :: x :: r
abbrev Asc (l : List Int) : Prop := l.Pairwise (· < ·)

theorem insA_mem {x n : Int} : ∀ {l : List Int}, x ∈ insA l n ↔ x = n ∨ x ∈ l
  | [] => by simp [insA]
  | y :: r => by
    have ih := insA_mem (x := x) (n := n) (l := r)
    unfold insA
    split
    · simp only [List.mem_cons, ih]; constructor <;> (rintro (h | h | h) <;> simp [h])
    · split
      · rename_i h; subst h; simp
      · simp
theorem insA_asc {n : Int} : ∀ {l : List Int}, Asc l → Asc (insA l n)
  | [], _ => by simp [insA, Asc]
  | y :: r, h => by
    have h' := List.pairwise_cons.1 h
    unfold insA
    split
    · refine List.pairwise_cons.2 ⟨fun x hx => ?_, insA_asc h'.2⟩
      rcases insA_mem.1 hx with rfl | hx
      · assumption
      · exact h'.1 x hx
    · split
      · exact h
      · refine List.pairwise_cons.2 ⟨fun x hx => ?_, h⟩
        rcases List.mem_cons.1 hx with rfl | hx
        · omega
        · have := h'.1 x hx; omega
theorem insA_len {n : Int} : ∀ {l : List Int}, (insA l n).length ≤ l.length + 1
  | [] => by simp [insA]
  | y :: r => by
    have ih := insA_len (n := n) (l := r)
    unfold insA
    split
    · simp only [List.length_cons]; omega
    · split <;> simp
def headA (n : Int) : List Int → List Int
  | [] => [n]
  | x :: r => if x = n then x :: r else n :: x :: r
theorem insA_split {n : Int} {b : List Int} (hb : ∀ x, x ∈ b → n ≤ x) : ∀ {a : List Int}, (∀ x, x ∈ a → x < n) → insA (a ++ b) n = a ++ headA n b
  | [], _ => by
    cases b with
    | nil => rfl
    | cons x r =>
      have := hb x (by simp)
      simp only [List.nil_append, insA, headA]
      rw [if_neg (by omega)]
  | y :: a, ha => by
    have := ha y (by simp)
    simp only [List.cons_append, insA]
    rw [if_pos this, insA_split hb (fun x hx => ha x (by simp [hx]))]
theorem asc_ext : ∀ {l l' : List Int}, Asc l → Asc l' → (∀ x, x ∈ l ↔ x ∈ l') → l = l'
  | [], [], _, _, _ => rfl
  | [], y :: r, _, _, h => by have := (h y).2 (by simp); simp at this
  | y :: r, [], _, _, h => by have := (h y).1 (by simp); simp at this
  | x :: r, y :: r', h1, h2, h => by
    have a1 := List.pairwise_cons.1 h1
    have a2 := List.pairwise_cons.1 h2
    have exy : x = y := by
      rcases List.mem_cons.1 ((h x).1 (by simp)) with e | e
      · exact e
      · rcases List.mem_cons.1 ((h y).2 (by simp)) with e' | e'
        · exact e'.symm
        · have := a2.1 x e; have := a1.1 y e'; omega
    subst exy
    congr 1
    refine asc_ext a1.2 a2.2 (fun z => ⟨fun hz => ?_, fun hz => ?_⟩)
    · rcases List.mem_cons.1 ((h z).1 (by simp [hz])) with e | e
      · have := a1.1 z hz; omega
      · exact e
    · rcases List.mem_cons.1 ((h z).2 (by simp [hz])) with e | e
      · have := a2.1 z hz; omega
      · exact e

theorem insA_at {l : List Int} {n : Int} {k : Nat} (ha : Asc l) (h1 : ∀ j x, k ≤ j → l[j]? = some x → n ≤ x) (h2 : k = 0 ∨ ∃ x, l[k - 1]? = some x ∧ x < n) :
    insA l n = if l[k]? = some n then l else l.take k ++ ([n] ++ l.drop k) := by
  have hb : ∀ x, x ∈ l.drop k → n ≤ x := fun x hx => by
    obtain ⟨j, hj⟩ := List.mem_iff_getElem?.1 hx
    rw [List.getElem?_drop] at hj
    exact h1 _ x (by omega) hj
  have hlt : ∀ x, x ∈ l.take k → x < n := fun x hx => by
    obtain ⟨j, hj⟩ := List.mem_iff_getElem?.1 hx
    rw [List.getElem?_take] at hj
    split at hj
    · rename_i hjk
      rcases h2 with rfl | ⟨y, hy, hyn⟩
      · omega
      · by_cases e : j = k - 1
        · rw [e, hy] at hj; cases hj; exact hyn
        · obtain ⟨g1, g2⟩ := List.getElem?_eq_some_iff.1 hj
          obtain ⟨g3, g4⟩ := List.getElem?_eq_some_iff.1 hy
          have := List.pairwise_iff_getElem.1 ha j (k - 1) g1 g3 (by omega)
          omega
    · cases hj
  have hd : l[k]? = (l.drop k)[0]? := by rw [List.getElem?_drop]; simp
  have e := insA_split (n := n) hb hlt
  rw [List.take_append_drop] at e
  rw [e, hd]
  cases hq : l.drop k with
  | nil => simp [headA]
  | cons x r =>
    by_cases hxn : x = n
    · subst hxn
      simp only [headA, if_pos, List.getElem?_cons_zero]
      rw [← hq, List.take_append_drop]
    · simp [headA, hxn]
theorem nodup_le : ∀ (n : Nat) (l : List Nat), l.Nodup → (∀ x, x ∈ l → x < n) → l.length ≤ n
  | 0, l, _, h => by
    cases l with
    | nil => simp
    | cons x r => have := h x (by simp); omega
  | n + 1, l, hn, h => by
    have ih := nodup_le n (l.erase n) (hn.erase n) (fun x hx => by
      have h1 := (List.Nodup.mem_erase_iff hn).1 hx
      have := h x h1.2; have := h1.1; omega)
    have : l.length ≤ (l.erase n).length + 1 := by rw [List.length_erase]; split <;> omega
    omega
/-- A list's members, ascending. -/
def ascOf (l : List Int) : List Int := l.foldl insA []
theorem foldA_asc : ∀ {vs l : List Int}, Asc l → Asc (vs.foldl insA l)
  | [], _, h => h
  | v :: vs, l, h => foldA_asc (vs := vs) (insA_asc h)
theorem foldA_mem {x : Int} : ∀ {vs l : List Int}, x ∈ vs.foldl insA l ↔ x ∈ vs ∨ x ∈ l
  | [], l => by simp
  | v :: vs, l => by
    rw [List.foldl_cons, foldA_mem (vs := vs), insA_mem, List.mem_cons, or_left_comm, or_assoc]
theorem foldA_len : ∀ {vs l : List Int}, (vs.foldl insA l).length ≤ l.length + vs.length
  | [], l => by simp
  | v :: vs, l => by
    have := foldA_len (vs := vs) (l := insA l v)
    have := insA_len (n := v) (l := l)
    simp only [List.foldl_cons, List.length_cons]; omega
theorem ascOf_asc (l : List Int) : Asc (ascOf l) := foldA_asc (by simp [Asc])
theorem ascOf_mem {l : List Int} {x : Int} : x ∈ ascOf l ↔ x ∈ l := by unfold ascOf; rw [foldA_mem]; simp
theorem ascOf_ext {l l' : List Int} (h : ∀ x, x ∈ l ↔ x ∈ l') : ascOf l = ascOf l' := asc_ext (ascOf_asc l) (ascOf_asc l') (fun x => by rw [ascOf_mem, ascOf_mem, h])
theorem ascOf_nil_iff {l : List Int} : ascOf l = [] ↔ l = [] := by
  constructor
  · intro h
    cases l with
    | nil => rfl
    | cons x r => have : x ∈ ascOf (x :: r) := ascOf_mem.2 (by simp); rw [h] at this; simp at this
  · rintro rfl; rfl
theorem sort_asc {ks : List Int} (h : ks.Nodup) : (ks.mergeSort fun x y => decide (x ≤ y)) = ascOf ks := by
  refine asc_ext ?_ (ascOf_asc ks) (fun x => by rw [List.mem_mergeSort, ascOf_mem])
  have h1 : (ks.mergeSort fun x y => decide (x ≤ y)).Pairwise fun a b => decide (a ≤ b) = true :=
    List.pairwise_mergeSort (fun a b c h1 h2 => by simp at *; omega) (fun a b => by simp; omega) ks
  have h2 : (ks.mergeSort fun x y => decide (x ≤ y)).Nodup := (List.mergeSort_perm ks _).nodup_iff.2 h
  exact (h1.and h2).imp (fun ⟨a, b⟩ => by simp at a; omega)
theorem ascOf_foldl (l : List Int) : ∀ vs, vs.foldl insA (ascOf l) = ascOf (l ++ vs) := fun vs => by unfold ascOf; rw [List.foldl_append]

/-! ### The keys of a map of integers -/
def addK (ks : List Int) (n : Int) : List Int := if n ∈ ks then ks else ks ++ [n]
def keysM (ks : List Int) : List (D × D) := ks.map fun n => (.int .i64 n, .bool true)
theorem mset_keys (n : Int) : ∀ ks : List Int, mset (keysM ks) (.int .i64 n) (.bool true) = keysM (addK ks n)
  | [] => rfl
  | k :: r => by
    have ih := mset_keys n r
    unfold addK at ih ⊢
    simp only [keysM, List.map_cons, mset, kEq] at ih ⊢
    by_cases h : n = k
    · subst h; simp
    · have h2 : ¬ (n == k) = true := by simpa using h
      by_cases h3 : n ∈ r
      · rw [if_pos h3] at ih
        rw [if_pos (by simp [h3])]
        simp [h, ih]
      · rw [if_neg h3] at ih
        rw [if_neg (by simp [h, h3])]
        simp [h, ih]
theorem keysM_len (ks : List Int) : (keysM ks).length = ks.length := by simp [keysM]
theorem mget_keys (n : Int) : ∀ ks : List Int, mget (keysM ks) (.int .i64 n) = if n ∈ ks then some (.bool true) else none
  | [] => rfl
  | k :: r => by
    have ih := mget_keys n r
    simp only [keysM, List.map_cons, mget, kEq] at ih ⊢
    by_cases h : n = k
    · subst h; simp
    · have h3 : (n == k) = false := by simpa using h
      simp only [h3, Bool.false_eq_true, if_false, ih, List.mem_cons, h, false_or]
theorem addK_mem {ks : List Int} {n x : Int} : x ∈ addK ks n ↔ x = n ∨ x ∈ ks := by
  unfold addK
  split
  · constructor
    · exact .inr
    · rintro (rfl | h)
      · assumption
      · exact h
  · simp [or_comm]
theorem addK_nodup {ks : List Int} {n : Int} (h : ks.Nodup) : (addK ks n).Nodup := by
  unfold addK
  split
  · exact h
  · rename_i hn
    rw [List.nodup_append]
    exact ⟨h, by simp, fun a ha b hb => by simp at hb; subst hb; intro e; subst e; exact hn ha⟩
theorem addK_len {ks : List Int} {n : Int} : (addK ks n).length ≤ ks.length + 1 := by unfold addK; split <;> simp
theorem foldK_mem {x : Int} : ∀ {vs ks : List Int}, x ∈ vs.foldl addK ks ↔ x ∈ vs ∨ x ∈ ks
  | [], l => by simp
  | v :: vs, l => by
    rw [List.foldl_cons, foldK_mem (vs := vs), addK_mem, List.mem_cons, or_left_comm, or_assoc]
theorem foldK_nodup : ∀ {vs ks : List Int}, ks.Nodup → (vs.foldl addK ks).Nodup
  | [], _, h => h
  | v :: vs, l, h => foldK_nodup (vs := vs) (addK_nodup h)
theorem foldK_len : ∀ {vs ks : List Int}, (vs.foldl addK ks).length ≤ ks.length + vs.length
  | [], l => by simp
  | v :: vs, l => by
    have := foldK_len (vs := vs) (ks := addK l v)
    have := addK_len (n := v) (ks := l)
    simp only [List.foldl_cons, List.length_cons]; omega

/-! ### Variables -/
theorem intsD_append (a b : List Int) : intsD (a ++ b) = intsD a ++ intsD b := by simp [intsD]
theorem intsD_len (a : List Int) : (intsD a).length = a.length := by simp [intsD]
theorem intsD_one (n : Int) : intsD [n] = [[.int .i64 n]] := rfl
theorem keysM_at {ks : List Int} {i : Nat} {p : D × D} (h : (keysM ks)[i]? = some p) : ∃ k, ks[i]? = some k ∧ p = (.int .i64 k, .bool true) := by
  simp only [keysM, List.getElem?_map, Option.map_eq_some_iff] at h
  obtain ⟨k, h1, rfl⟩ := h; exact ⟨k, h1, rfl⟩
theorem idx_ints (l : List Int) (j : Nat) (Q : List D → Prop) : idx (intsD l) j Q = idx l j (fun n => Q [.int .i64 n]) := idx_map _ _ _ _
theorem intsD_take (l : List Int) (k : Nat) : (intsD l).take k = intsD (l.take k) := by simp [intsD]
theorem intsD_drop (l : List Int) (k : Nat) : (intsD l).drop k = intsD (l.drop k) := by simp [intsD]
theorem intsD_each (l : List Int) : (∀ y, y ∈ intsD l → y.length = 1) = True := by
  simp only [eq_iff_iff, iff_true]
  intro y hy
  obtain ⟨n, _, rfl⟩ := List.mem_map.1 hy; rfl
theorem intsD_snoc (a b : List Int) (n : Int) : intsD a ++ ([.int .i64 n] :: intsD b) = intsD (a ++ ([n] ++ b)) := by simp [intsD]
attribute [go_sem] idx_ints intsD_take intsD_drop intsD_each intsD_len keysM_len
/-- The keys in the order in which they were met. -/
theorem picks_spec {ks : List Int} {seen : List Nat} (hn : ks.Nodup) (h1 : seen.Nodup) (h2 : ∀ i, i ∈ seen → i < ks.length) (h3 : ∀ i, i < ks.length → i ∈ seen) :
    (seen.map fun i => ks.getD i 0).Nodup ∧ ∀ x, x ∈ (seen.map fun i => ks.getD i 0) ↔ x ∈ ks := by
  have hg : ∀ i (h : i < ks.length), ks.getD i 0 = ks[i] := fun i h => by simp [h]
  refine ⟨?_, fun x => ⟨fun hx => ?_, fun hx => ?_⟩⟩
  · refine List.pairwise_map.2 (List.Pairwise.imp_of_mem ?_ h1)
    intro a b ha hb hab e
    rw [hg a (h2 a ha), hg b (h2 b hb)] at e
    have hp := List.pairwise_iff_getElem.1 hn
    rcases Nat.lt_trichotomy a b with h | h | h
    · exact hp a b (h2 a ha) (h2 b hb) h e
    · exact hab h
    · exact hp b a (h2 b hb) (h2 a ha) h e.symm
  · obtain ⟨i, hi, rfl⟩ := List.mem_map.1 hx
    rw [hg i (h2 i hi)]; exact List.getElem_mem _
  · obtain ⟨i, hi, rfl⟩ := List.mem_iff_getElem.1 hx
    exact List.mem_map.2 ⟨i, h3 i hi, hg i hi⟩
mutual
def Tm.vars : Tm → List Int
  | .mk k i _ as => if k = 1 then [i] else Tm.varss as
def Tm.varss : List Tm → List Int
  | [] => []
  | t :: r => Tm.vars t ++ Tm.varss r
end
theorem Tm.vars_eq (t : Tm) : t.vars = if t.kind = 1 then [t.int] else Tm.varss t.args := by cases t; simp only [Tm.vars, Tm.kind, Tm.int, Tm.args]; rfl
theorem Tm.varss_eq : ∀ l : List Tm, Tm.varss l = l.flatMap Tm.vars
  | [] => rfl
  | t :: r => by simp only [Tm.varss, List.flatMap_cons, Tm.varss_eq r]
def V.vars : V → List Int
  | .var n => [n]
  | .pair a b => a.vars ++ b.vars
  | _ => []
theorem V.vars_tm : ∀ v : V, v.tm.vars = v.vars
  | .nil => rfl
  | .var n => by simp [V.tm, V.vars, Tm.vars]
  | .sym _ => by simp [V.tm, V.vars, Tm.vars, Tm.varss]
  | .num _ => by simp [V.tm, V.vars, Tm.vars, Tm.varss]
  | .pair a b => by simp [V.tm, V.vars, Tm.vars, Tm.varss, V.vars_tm a, V.vars_tm b]
theorem Tm.vars_cnt : ∀ t : Tm, t.vars.length ≤ t.cnt := by
  intro t
  induction t using Tm.ind with
  | h k i n as ih =>
    have key : ∀ (l : List Tm), (∀ x, x ∈ l → x ∈ as) → (Tm.varss l).length ≤ Tm.cnts l := by
      intro l
      induction l with
      | nil => intro _; simp [Tm.varss]
      | cons x r ihr =>
        intro hl
        have h1 := ih x (hl x (by simp))
        have h2 := ihr (fun x hx => hl x (by simp [hx]))
        simp only [Tm.varss, Tm.cnts, List.length_append]
        omega
    have := key as (fun x hx => hx)
    simp only [Tm.vars, Tm.cnt]
    split
    · simp only [List.length_cons, List.length_nil]; omega
    · omega
theorem Tm.vars_wt (t : Tm) : t.vars.length ≤ 1 + wtL t.enc := Nat.le_trans (Tm.vars_cnt t) (cnt_le_wt t)
theorem varss_wt : ∀ l : List Tm, (Tm.varss l).length ≤ wtR (l.map Tm.enc)
  | [] => by simp [Tm.varss]
  | t :: r => by
    have := varss_wt r
    have := Tm.vars_wt t
    simp only [Tm.varss, List.map_cons, wtR, List.length_append]; omega
mutual
def Gl.vars : Gl → List Int
  | .mk _ _ ts gs => Tm.varss ts ++ Gl.varss gs
def Gl.varss : List Gl → List Int
  | [] => []
  | t :: r => Gl.vars t ++ Gl.varss r
end
theorem Gl.vars_eq (t : Gl) : t.vars = Tm.varss t.terms ++ Gl.varss t.goals := by cases t; simp only [Gl.vars, Gl.terms, Gl.goals]
theorem Gl.varss_eq : ∀ l : List Gl, Gl.varss l = l.flatMap Gl.vars
  | [] => rfl
  | t :: r => by simp only [Gl.varss, List.flatMap_cons, Gl.varss_eq r]
theorem Gl.vars_wt : ∀ t : Gl, t.vars.length ≤ wtL t.enc := by
  intro t
  induction t using Gl.ind' with
  | h t ih =>
    have key : ∀ (l : List Gl), (∀ x, x ∈ l → x ∈ t.goals) → (Gl.varss l).length ≤ wtR (l.map Gl.enc) := by
      intro l
      induction l with
      | nil => intro _; simp [Gl.varss]
      | cons x r ihr =>
        intro hl
        have h1 := ih x (hl x (by simp))
        have h2 := ihr (fun x hx => hl x (by simp [hx]))
        simp only [Gl.varss, List.map_cons, wtR, List.length_append]
        omega
    have := key t.goals (fun x hx => hx)
    have := varss_wt t.terms
    rw [Gl.vars_eq, List.length_append]
    simp only [Gl.enc_eq t, wtL, D.wt]
    omega
mutual
/-- A goal and all goals in it, each ahead of those in it. -/
def Gl.subs : Gl → List Gl
  | .mk k n ts gs => .mk k n ts gs :: Gl.subss gs
def Gl.subss : List Gl → List Gl
  | [] => []
  | t :: r => Gl.subs t ++ Gl.subss r
end
theorem Gl.subs_eq (t : Gl) : t.subs = t :: Gl.subss t.goals := by cases t; simp only [Gl.subs, Gl.goals]
theorem Gl.subss_eq : ∀ l : List Gl, Gl.subss l = l.flatMap Gl.subs
  | [] => rfl
  | t :: r => by simp only [Gl.subss, List.flatMap_cons, Gl.subss_eq r]
theorem Gl.subs_ind {Q : Gl → Prop} (h : ∀ t, Q t → ∀ x, x ∈ t.goals → Q x) : ∀ (t : Gl), Q t → ∀ x, x ∈ t.subs → Q x := by
  intro t
  induction t using Gl.ind' with
  | h t ih =>
    intro hq x hx
    rw [Gl.subs_eq, Gl.subss_eq] at hx
    rcases List.mem_cons.1 hx with rfl | hx
    · exact hq
    · obtain ⟨y, hy, hxy⟩ := List.mem_flatMap.1 hx
      exact ih y hy (h t hq y hy) x hxy
theorem Gl.vars_subs : ∀ t : Gl, t.vars = t.subs.flatMap fun x => Tm.varss x.terms := by
  intro t
  induction t using Gl.ind' with
  | h t ih =>
    rw [Gl.vars_eq, Gl.subs_eq, List.flatMap_cons, Gl.varss_eq, Gl.subss_eq, List.flatMap_assoc]
    congr 1
    have : ∀ (l : List Gl), (∀ x, x ∈ l → x ∈ t.goals) → l.flatMap Gl.vars = l.flatMap fun x => x.subs.flatMap fun x => Tm.varss x.terms := by
      intro l
      induction l with
      | nil => intro _; rfl
      | cons x r ihr =>
        intro hl
        rw [List.flatMap_cons, List.flatMap_cons, ih x (hl x (by simp)), ihr (fun x hx => hl x (by simp [hx]))]
    exact this _ (fun x hx => hx)
theorem foldl_flatMap {α β γ : Type} (f : γ → β → γ) (g : α → List β) : ∀ (l : List α) (c : γ), (l.flatMap g).foldl f c = l.foldl (fun c x => (g x).foldl f c) c
  | [], _ => rfl
  | x :: r, c => by rw [List.flatMap_cons, List.foldl_append, foldl_flatMap f g r]; rfl
theorem tmOk_v {t : Tm} (h : tmOk t = true) : ∃ v : V, t = v.tm ∧ v.fine = true := by
  unfold tmOk Tm.ok? at h
  split at h
  · rename_i v hv; exact ⟨v, Tm.of_v? _ _ hv, Tm.fine_of _ _ hv⟩
  · cases h
theorem Gl.shape_sub {t : Gl} (h : t.shape = true) : ∀ x, x ∈ t.subs → x.shape = true :=
  Gl.subs_ind (Q := fun t => t.shape = true) (fun t h x hx => by
    rw [Gl.shape_eq] at h
    simp only [Bool.and_eq_true, List.all_eq_true] at h
    exact h.2 x hx) t h
theorem Gl.shape_terms {t : Gl} (h : t.shape = true) : ∀ x, x ∈ t.terms → tmOk x = true := by
  rw [Gl.shape_eq] at h
  simp only [Bool.and_eq_true, List.all_eq_true] at h
  exact h.1.2
end Go.Abs
