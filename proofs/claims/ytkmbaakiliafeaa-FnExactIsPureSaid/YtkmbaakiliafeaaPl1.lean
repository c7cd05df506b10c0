/- Plain law, part 1: names and terms. -/
import Derived.Test.YtkmbaakiliafeaaAbs28
set_option linter.unusedVariables false
set_option linter.unusedSimpArgs false
namespace Go.Abs

/-! ### Names -/
def byteAt (s : List UInt8) (i : Nat) : Int := ((s[i]?.getD 0).toNat : Int)
def okAt (s : List UInt8) (i : Nat) : Bool :=
  (decide (97 ≤ byteAt s i) && decide (byteAt s i ≤ 122)) || (i != 0 && (byteAt s i == 45 || (decide (48 ≤ byteAt s i) && decide (byteAt s i ≤ 57))))
/-- A name of the program. -/
def isName (s : List UInt8) : Bool := (List.range s.length).all (okAt s) && decide (1 ≤ s.length) && decide (s.length ≤ 12)

theorem isName_bad {s : List UInt8} {i : Nat} (hi : i < s.length) (h : okAt s i = false) : isName s = false := by
  unfold isName
  have : (List.range s.length).all (okAt s) = false := by
    rw [List.all_eq_false]
    exact ⟨i, by simp [hi], by simp [h]⟩
  simp [this]
theorem isName_end {s : List UInt8} (h : ∀ j, j < s.length → okAt s j = true) : isName s = (decide (1 ≤ s.length) && decide (s.length ≤ 12)) := by
  unfold isName
  rw [List.all_eq_true.2 (fun j hj => h j (by simpa using hj)), Bool.true_and]
theorem isName_len {s : List UInt8} (h : isName s = true) : 1 ≤ s.length ∧ s.length ≤ 12 := by
  unfold isName at h
  simp at h; omega

/-! ### Valid terms -/
inductive V where
  | nil
  | var (n : Int)
  | sym (s : List UInt8)
  | num (n : Int)
  | pair (a b : V)
deriving DecidableEq

namespace V
def tm : V → Tm
  | nil => .mk 0 0 [] []
  | var n => .mk 1 n [] []
  | sym s => .mk 2 0 s []
  | num n => .mk 3 n [] []
  | pair a b => .mk 4 0 [] [a.tm, b.tm]
def size : V → Nat
  | pair a b => 1 + a.size + b.size
  | _ => 1
theorem size_pos : ∀ v : V, 1 ≤ v.size
  | nil => Nat.le_refl _
  | var _ => Nat.le_refl _
  | sym _ => Nat.le_refl _
  | num _ => Nat.le_refl _
  | pair a b => by simp only [size]; omega
def enc (v : V) : List D := v.tm.enc
theorem enc_nil : enc nil = [.int .i64 0, .int .i64 0, .str [], .sl []] := rfl
theorem enc_var (n : Int) : enc (var n) = [.int .i64 1, .int .i64 n, .str [], .sl []] := rfl
theorem enc_sym (s : List UInt8) : enc (sym s) = [.int .i64 2, .int .i64 0, .str s, .sl []] := rfl
theorem enc_num (n : Int) : enc (num n) = [.int .i64 3, .int .i64 n, .str [], .sl []] := rfl
theorem enc_pair (a b : V) : enc (pair a b) = [.int .i64 4, .int .i64 0, .str [], .sl [a.enc, b.enc]] := rfl
theorem enc_len (v : V) : v.enc.length = 4 := Tm.enc_len _
def kind : V → Int
  | nil => 0 | var _ => 1 | sym _ => 2 | num _ => 3 | pair _ _ => 4
def int : V → Int
  | var n => n | num n => n | _ => 0
def name : V → List UInt8
  | sym s => s | _ => []
def kids : V → List V
  | pair a b => [a, b] | _ => []
theorem enc_eq (v : V) : v.enc = [.int .i64 v.kind, .int .i64 v.int, .str v.name, .sl (v.kids.map enc)] := by cases v <;> rfl
theorem enc_at0 (t : V) : (V.enc t)[0]? = some (.int .i64 t.kind) := by rw [enc_eq]; rfl
theorem enc_at1 (t : V) : (V.enc t)[1]? = some (.int .i64 t.int) := by rw [enc_eq]; rfl
theorem enc_at2 (t : V) : (V.enc t)[2]? = some (.str t.name) := by rw [enc_eq]; rfl
theorem enc_at3 (t : V) : (V.enc t)[3]? = some (.sl (t.kids.map enc)) := by rw [enc_eq]; rfl
theorem enc_pt0 (t : V) : ((V.enc t).drop 0).take 1 = [.int .i64 t.kind] := by rw [enc_eq]; rfl
theorem enc_pt0' (t : V) : (V.enc t).take 1 = [.int .i64 t.kind] := by rw [enc_eq]; rfl
theorem enc_pt1 (t : V) : ((V.enc t).drop 1).take 1 = [.int .i64 t.int] := by rw [enc_eq]; rfl
theorem enc_pt2 (t : V) : ((V.enc t).drop 2).take 1 = [.str t.name] := by rw [enc_eq]; rfl
theorem enc_pt3 (t : V) : ((V.enc t).drop 3).take 1 = [.sl (t.kids.map enc)] := by rw [enc_eq]; rfl
theorem encS : type_of% (And.intro enc_len <| And.intro enc_at0 <| And.intro enc_at1 <| And.intro enc_at2 <| And.intro enc_at3 <| And.intro enc_pt0 <| And.intro enc_pt0' <| And.intro enc_pt1 <| And.intro enc_pt2 <| enc_pt3) := And.intro enc_len <| And.intro enc_at0 <| And.intro enc_at1 <| And.intro enc_at2 <| And.intro enc_at3 <| And.intro enc_pt0 <| And.intro enc_pt0' <| And.intro enc_pt1 <| And.intro enc_pt2 <| enc_pt3
end V
attribute [go_sem] V.enc_len V.enc_at0 V.enc_at1 V.enc_at2 V.enc_at3 V.enc_pt0 V.enc_pt0' V.enc_pt1 V.enc_pt2 V.enc_pt3

/-- A term of the right form, its parts given. -/
def mkV (k i : Int) (n : List UInt8) (l : List (Option V)) : Option V :=
  if k = 4 then (if i = 0 ∧ n = [] then (match l with | [some a, some b] => some (.pair a b) | _ => none) else none)
  else if l ≠ [] then none
  else if k = 0 then (if i = 0 ∧ n = [] then some .nil else none)
  else if k = 1 then (if 0 ≤ i ∧ i ≤ 100000 ∧ n = [] then some (.var i) else none)
  else if k = 2 then (if i = 0 ∧ isName n = true then some (.sym n) else none)
  else if k = 3 then (if -1000000000 ≤ i ∧ i ≤ 1000000000 ∧ n = [] then some (.num i) else none)
  else none

mutual
def Tm.v? : Tm → Option V
  | .mk k i n as => mkV k i n (Tm.vs? as)
def Tm.vs? : List Tm → List (Option V)
  | [] => []
  | t :: r => Tm.v? t :: Tm.vs? r
end
theorem Tm.vs?_eq : ∀ l : List Tm, Tm.vs? l = l.map Tm.v?
  | [] => by simp only [Tm.vs?, List.map_nil]
  | t :: r => by simp only [Tm.vs?, List.map_cons, Tm.vs?_eq r]
theorem Tm.v?_mk (k i : Int) (n : List UInt8) (as : List Tm) : (Tm.mk k i n as).v? = mkV k i n (as.map Tm.v?) := by
  simp only [Tm.v?, Tm.vs?_eq]

theorem map_two {α β : Type} {f : α → β} : ∀ {l : List α} {a b : β}, l.map f = [a, b] → ∃ x y, l = [x, y] ∧ f x = a ∧ f y = b
  | [], _, _, h => by simp at h
  | [x], _, _, h => by simp at h
  | [x, y], _, _, h => by simp at h; exact ⟨x, y, rfl, h⟩
  | _ :: _ :: _ :: _, _, _, h => by simp at h

theorem mkV_some {k i : Int} {n : List UInt8} {as : List Tm} {v : V} (ih : ∀ x, x ∈ as → ∀ v, x.v? = some v → x = v.tm) (h : mkV k i n (as.map Tm.v?) = some v) : Tm.mk k i n as = v.tm := by
  unfold mkV at h
  split at h
  · rename_i hk
    split at h
    · rename_i hin
      obtain ⟨rfl, rfl⟩ := hin
      split at h
      · rename_i a b hl
        cases h
        obtain ⟨x, y, rfl, h1, h2⟩ := map_two hl
        rw [ih x (by simp) a h1, ih y (by simp) b h2, hk]; rfl
      · cases h
    · cases h
  · split at h
    · cases h
    · rename_i hl
      have : as = [] := by cases as <;> simp_all
      subst this
      split at h
      · split at h
        · rename_i hc; obtain ⟨rfl, rfl⟩ := hc; cases h; simp_all [V.tm]
        · cases h
      · split at h
        · split at h
          · rename_i hc; obtain ⟨_, _, rfl⟩ := hc; cases h; simp_all [V.tm]
          · cases h
        · split at h
          · split at h
            · rename_i hc; obtain ⟨rfl, _⟩ := hc; cases h; simp_all [V.tm]
            · cases h
          · split at h
            · split at h
              · rename_i hc; obtain ⟨_, _, rfl⟩ := hc; cases h; simp_all [V.tm]
              · cases h
            · cases h

theorem Tm.of_v? : ∀ (t : Tm) (v : V), t.v? = some v → t = v.tm := by
  intro t
  induction t using Tm.ind with
  | h k i n as ih =>
    intro v h
    rw [Tm.v?_mk] at h
    exact mkV_some ih h

/-- A valid value's own bounds. -/
def V.fine : V → Bool
  | .nil => true
  | .var n => decide (0 ≤ n ∧ n ≤ 100000)
  | .sym s => isName s
  | .num n => decide (-1000000000 ≤ n ∧ n ≤ 1000000000)
  | .pair a b => a.fine && b.fine

theorem V.v?_tm : ∀ v : V, v.fine = true → v.tm.v? = some v
  | .nil, _ => by simp [V.tm, Tm.v?_mk, mkV]
  | .var n, h => by simp [V.fine] at h; simp [V.tm, Tm.v?_mk, mkV, h]
  | .sym s, h => by simp [V.fine] at h; simp [V.tm, Tm.v?_mk, mkV, h]
  | .num n, h => by simp [V.fine] at h; simp [V.tm, Tm.v?_mk, mkV, h]
  | .pair a b, h => by
    simp [V.fine] at h
    simp [V.tm, Tm.v?_mk, mkV, V.v?_tm a h.1, V.v?_tm b h.2]

theorem Tm.fine_of : ∀ (t : Tm) (v : V), t.v? = some v → v.fine = true := by
  intro t
  induction t using Tm.ind with
  | h k i n as ih =>
    intro v h
    rw [Tm.v?_mk] at h
    unfold mkV at h
    split at h
    · split at h
      · split at h
        · rename_i a b hl
          cases h
          obtain ⟨x, y, rfl, h1, h2⟩ := map_two hl
          simp [V.fine, ih x (by simp) a h1, ih y (by simp) b h2]
        · cases h
      · cases h
    · split at h
      · cases h
      · split at h
        · split at h
          · cases h; rfl
          · cases h
        · split at h
          · split at h
            · rename_i hc; cases h; simp [V.fine, hc]
            · cases h
          · split at h
            · split at h
              · rename_i hc; cases h; simp [V.fine, hc]
              · cases h
            · split at h
              · split at h
                · rename_i hc; cases h; simp [V.fine, hc]
                · cases h
              · cases h

/-- What nodesOf answers. -/
def nodes (t : Tm) (room : Int) : Int := match t.v? with
  | some v => if (v.size : Int) ≤ room then v.size else -1
  | none => -1

/-- A valid term: of the right form, and not too large. -/
def Tm.ok? (t : Tm) : Option V := match t.v? with
  | some v => if v.size ≤ 5000 then some v else none
  | none => none
def tmOk (t : Tm) : Bool := t.ok?.isSome

theorem nodes_lt {t : Tm} {room : Int} (h : room < 1) : nodes t room = -1 := by
  unfold nodes
  split
  · rename_i v _
    have := v.size_pos
    rw [if_neg (by omega)]
  · rfl
theorem nodes_kids (k i : Int) (n : List UInt8) (a b : Tm) {room : Int} (hk : k = 4) (hi : i = 0) (hn : n = []) (h : 1 ≤ room) :
    nodes (.mk k i n [a, b]) room = if nodes a (room - 1) < 0 then -1 else if nodes b (room - 1 - nodes a (room - 1)) < 0 then -1 else 1 + nodes a (room - 1) + nodes b (room - 1 - nodes a (room - 1)) := by
  subst hk hi hn
  unfold nodes
  rw [Tm.v?_mk]
  simp only [mkV, if_pos, and_self, List.map_cons, List.map_nil]
  cases ha : a.v? with
  | none => simp
  | some x =>
    cases hb : b.v? with
    | none => simp
    | some y =>
      have := x.size_pos
      have := y.size_pos
      simp only [V.size]
      repeat' split
      all_goals omega
theorem nodes_ge {t : Tm} {room : Int} : nodes t room = -1 ∨ (1 ≤ nodes t room ∧ nodes t room ≤ room) := by
  unfold nodes
  split
  · rename_i v _
    have := v.size_pos
    split <;> omega
  · exact .inl rfl
theorem ite_nodes (c : Prop) [Decidable c] (v : V) {room : Int} (hs : v.size = 1) (h : 1 ≤ room) :
    (match (if c then some v else none : Option V) with | some v => if (v.size : Int) ≤ room then (v.size : Int) else -1 | none => -1) = if c then 1 else -1 := by
  by_cases hc : c
  · simp only [if_pos hc, hs]; rw [if_pos (by omega)]; rfl
  · simp only [if_neg hc]
/-- The leaves of a term. -/
theorem nodes_leaf (k i : Int) (n : List UInt8) (as : List Tm) {room : Int} (hk : k ≠ 4) (h : 1 ≤ room) :
    nodes (.mk k i n as) room = if as ≠ [] then -1 else if k = 0 then (if i = 0 ∧ n = [] then 1 else -1) else if k = 1 then (if 0 ≤ i ∧ i ≤ 100000 ∧ n = [] then 1 else -1)
      else if k = 2 then (if i = 0 ∧ isName n = true then 1 else -1) else if k = 3 then (if -1000000000 ≤ i ∧ i ≤ 1000000000 ∧ n = [] then 1 else -1) else -1 := by
  unfold nodes
  rw [Tm.v?_mk]
  simp only [mkV, if_neg hk]
  by_cases ha : as = []
  · subst ha
    simp only [List.map_nil, ne_eq, not_true_eq_false, if_false]
    by_cases h0 : k = 0
    · simp only [if_pos h0]; exact ite_nodes _ _ rfl h
    · simp only [if_neg h0]
      by_cases h1 : k = 1
      · simp only [if_pos h1]; exact ite_nodes _ _ rfl h
      · simp only [if_neg h1]
        by_cases h2 : k = 2
        · simp only [if_pos h2]; exact ite_nodes _ _ rfl h
        · simp only [if_neg h2]
          by_cases h3 : k = 3
          · simp only [if_pos h3]; exact ite_nodes _ _ rfl h
          · simp only [if_neg h3]
  · rw [if_pos (by simpa using ha), if_pos ha]
theorem nodes_bad (k i : Int) (n : List UInt8) (as : List Tm) {room : Int} (hk : k = 4) (h : i ≠ 0 ∨ n ≠ [] ∨ as.length ≠ 2) : nodes (.mk k i n as) room = -1 := by
  unfold nodes
  rw [Tm.v?_mk]
  simp only [mkV, if_pos hk]
  have : (if i = 0 ∧ n = [] then (match as.map Tm.v? with | [some a, some b] => some (V.pair a b) | _ => none) else none) = none := by
    split
    · split
      · rename_i hl
        obtain ⟨x, y, rfl, _⟩ := map_two hl
        simp_all
      · rfl
    · rfl
  rw [this]

theorem Tm.ind' {Q : Tm → Prop} (h : ∀ t : Tm, (∀ x, x ∈ t.args → Q x) → Q t) : ∀ t, Q t := by
  intro t
  induction t using Tm.ind with
  | h k i n as ih => exact h _ ih
theorem nodes_leaf' (t : Tm) {room : Int} (hk : t.kind ≠ 4) (h : 1 ≤ room) :
    nodes t room = if t.args ≠ [] then -1 else if t.kind = 0 then (if t.int = 0 ∧ t.name = [] then 1 else -1) else if t.kind = 1 then (if 0 ≤ t.int ∧ t.int ≤ 100000 ∧ t.name = [] then 1 else -1)
      else if t.kind = 2 then (if t.int = 0 ∧ isName t.name = true then 1 else -1) else if t.kind = 3 then (if -1000000000 ≤ t.int ∧ t.int ≤ 1000000000 ∧ t.name = [] then 1 else -1) else -1 := by
  cases t; exact nodes_leaf _ _ _ _ hk h
theorem nodes_bad' (t : Tm) {room : Int} (hk : t.kind = 4) (h : t.int ≠ 0 ∨ t.name ≠ [] ∨ t.args.length ≠ 2) : nodes t room = -1 := by
  cases t; exact nodes_bad _ _ _ _ hk h
theorem nodes_kids' (t a b : Tm) (ha : t.args = [a, b]) {room : Int} (hk : t.kind = 4) (hi : t.int = 0) (hn : t.name = []) (h : 1 ≤ room) :
    nodes t room = if nodes a (room - 1) < 0 then -1 else if nodes b (room - 1 - nodes a (room - 1)) < 0 then -1 else 1 + nodes a (room - 1) + nodes b (room - 1 - nodes a (room - 1)) := by
  cases t
  simp only [Tm.args] at ha
  subst ha
  exact nodes_kids _ _ _ _ _ hk hi hn h
theorem name_wt (t : Tm) : t.name.length ≤ wtL t.enc := by
  rw [Tm.enc_eq]; simp only [wtL, D.wt]; omega

theorem nodes_ok (t : Tm) : decide (0 < nodes t 5000) = tmOk t := by
  unfold nodes tmOk Tm.ok?
  cases h : t.v? with
  | none => simp
  | some v =>
    have := v.size_pos
    simp only
    by_cases h5 : v.size ≤ 5000
    · simp only [if_pos h5, if_pos (show (v.size : Int) ≤ 5000 by omega)]; simp; omega
    · simp only [if_neg h5, if_neg (show ¬ (v.size : Int) ≤ 5000 by omega)]; simp

/-! ### Counting with a limit -/
mutual
def countF : Tm → Int → Int
  | .mk _ _ _ as, most => countL as most 1
def countL : List Tm → Int → Int → Int
  | [], _, n => n
  | t :: r, most, n => if n > most then n else countL r most (n + countF t (most - n))
end
mutual
def Tm.cnt : Tm → Nat
  | .mk _ _ _ as => 1 + Tm.cnts as
def Tm.cnts : List Tm → Nat
  | [] => 0
  | t :: r => Tm.cnt t + Tm.cnts r
end

theorem count_spec : (∀ (t : Tm) (most : Int), 1 ≤ countF t most ∧ countF t most ≤ t.cnt ∧ ((t.cnt : Int) ≤ most → countF t most = t.cnt) ∧ (most < t.cnt → most < countF t most)) := by
  intro t
  induction t using Tm.ind with
  | h k i nm as ih =>
    have key : ∀ (l : List Tm), (∀ x, x ∈ l → x ∈ as) → ∀ (most n : Int), n ≤ countL l most n ∧ countL l most n ≤ n + Tm.cnts l ∧ (n + Tm.cnts l ≤ most → countL l most n = n + Tm.cnts l) ∧ (most < n + Tm.cnts l → most < countL l most n) := by
      intro l
      induction l with
      | nil => intro _ most n; simp only [countL, Tm.cnts]; omega
      | cons t r ihr =>
        intro hl most n
        have h1 := ih t (hl t (by simp)) (most - n)
        have h2 := ihr (fun x hx => hl x (by simp [hx])) most (n + countF t (most - n))
        simp only [countL, Tm.cnts]
        split <;> omega
    intro most
    have := key as (fun x hx => hx) most 1
    simp only [countF, Tm.cnt]
    omega

theorem cnt_of_v? : ∀ (t : Tm) (v : V), t.v? = some v → t.cnt = v.size := by
  intro t v h
  have := Tm.of_v? t v h
  subst this
  clear h
  induction v with
  | pair a b iha ihb => simp [V.tm, Tm.cnt, Tm.cnts, V.size, iha, ihb]; omega
  | _ => rfl

theorem count_ok (t : Tm) : (decide (countF t 5000 ≤ 5000) && t.v?.isSome) = tmOk t := by
  have h := count_spec t 5000
  unfold tmOk Tm.ok?
  cases hv : t.v? with
  | none => simp
  | some v =>
    have := cnt_of_v? t v hv
    simp only [Option.isSome_some, Bool.and_true]
    by_cases h5 : v.size ≤ 5000
    · rw [if_pos h5]; simp; omega
    · rw [if_neg h5]; simp; omega

theorem cnts_le_wt : ∀ t : Tm, (∀ n, n = t → t.cnt ≤ 1 + wtL t.enc) := by
  intro t
  induction t using Tm.ind with
  | h k i n as ih =>
    intro _ _
    have key : ∀ (l : List Tm), (∀ x, x ∈ l → x ∈ as) → Tm.cnts l ≤ wtR (l.map Tm.enc) := by
      intro l
      induction l with
      | nil => intro _; simp [Tm.cnts, wtR]
      | cons t r ihr =>
        intro hl
        have h1 := ih t (hl t (by simp)) t rfl
        have h2 := ihr (fun x hx => hl x (by simp [hx]))
        simp only [Tm.cnts, List.map_cons, wtR]
        omega
    have := key as (fun x hx => hx)
    simp only [Tm.cnt, Tm.enc_eq, wtL, D.wt, Tm.args, Tm.name]
    omega
theorem cnt_le_wt (t : Tm) : t.cnt ≤ 1 + wtL t.enc := cnts_le_wt t t rfl
theorem wt_args {t x : Tm} (h : x ∈ t.args) : wtL x.enc < wtL t.enc := by
  have := wtL_lt (t.args.map Tm.enc) x.enc (List.mem_map.2 ⟨x, h, rfl⟩)
  simp only [Tm.enc_eq t, wtL, D.wt]
  omega

/-- The right form, as the other text asks it. -/
theorem shape_mk (k i : Int) (n : List UInt8) (as : List Tm) : (Tm.mk k i n as).v?.isSome =
    if k ≠ 1 ∧ k ≠ 3 ∧ i ≠ 0 ∨ k ≠ 2 ∧ n ≠ [] ∨ k ≠ 4 ∧ 0 < as.length then false
    else if k = 0 then true else if k = 1 then (decide (0 ≤ i) && decide (i ≤ 100000)) else if k = 2 then isName n
    else if k = 3 then (decide (-1000000000 ≤ i) && decide (i ≤ 1000000000)) else if k = 4 then (match as with | [a, b] => a.v?.isSome && b.v?.isSome | _ => false) else false := by
  rw [Tm.v?_mk]
  unfold mkV
  by_cases h4 : k = 4
  · subst h4
    simp only [if_pos]
    by_cases hin : i = 0 ∧ n = []
    · obtain ⟨rfl, rfl⟩ := hin
      simp
      match as with
      | [] => rfl
      | [a] => simp
      | [a, b] => simp; cases a.v? <;> cases b.v? <;> simp
      | a :: b :: c :: r => simp
    · rw [if_neg hin, if_pos]; rfl
      by_cases h0 : i = 0
      · exact .inr (.inl ⟨by omega, fun h => hin ⟨h0, h⟩⟩)
      · exact .inl ⟨by omega, by omega, h0⟩
  · rw [if_neg h4]
    by_cases ha : as = []
    · subst ha
      simp
      by_cases h0 : k = 0
      · subst h0; simp; split <;> simp_all
      · by_cases h1 : k = 1
        · subst h1; simp; split <;> simp_all <;> (intro h1 h2; apply Int.not_le.1; intro h3; simp_all)
        · by_cases h2 : k = 2
          · subst h2; simp; split <;> simp_all
          · by_cases h3 : k = 3
            · subst h3; simp; split <;> simp_all <;> (intro h1 h2; apply Int.not_le.1; intro h3; simp_all)
            · simp [*]
    · have : 0 < as.length := by cases as <;> simp_all
      rw [if_pos (by simpa using ha), if_pos (.inr (.inr ⟨h4, this⟩))]; rfl

theorem shape_bad (t : Tm) (h : t.kind ≠ 1 ∧ t.kind ≠ 3 ∧ t.int ≠ 0 ∨ t.kind ≠ 2 ∧ t.name ≠ [] ∨ t.kind ≠ 4 ∧ 0 < t.args.length) : t.v?.isSome = false := by
  cases t; simp only [Tm.kind, Tm.int, Tm.name, Tm.args] at h; rw [shape_mk, if_pos h]
theorem shape_leaf (t : Tm) (h : ¬ (t.kind ≠ 1 ∧ t.kind ≠ 3 ∧ t.int ≠ 0 ∨ t.kind ≠ 2 ∧ t.name ≠ [] ∨ t.kind ≠ 4 ∧ 0 < t.args.length)) (hk : t.kind ≠ 4) :
    t.v?.isSome = if t.kind = 0 then true else if t.kind = 1 then (decide (0 ≤ t.int) && decide (t.int ≤ 100000)) else if t.kind = 2 then isName t.name
    else if t.kind = 3 then (decide (-1000000000 ≤ t.int) && decide (t.int ≤ 1000000000)) else false := by
  cases t; simp only [Tm.kind, Tm.int, Tm.name, Tm.args] at h hk ⊢
  rw [shape_mk, if_neg h]
  simp only [if_neg hk]; rfl
theorem shape_pair (t : Tm) (h : ¬ (t.kind ≠ 1 ∧ t.kind ≠ 3 ∧ t.int ≠ 0 ∨ t.kind ≠ 2 ∧ t.name ≠ [] ∨ t.kind ≠ 4 ∧ 0 < t.args.length)) (hk : t.kind = 4) :
    (t.args.length ≠ 2 → t.v?.isSome = false) ∧ ∀ a b, t.args = [a, b] → t.v?.isSome = (a.v?.isSome && b.v?.isSome) := by
  cases t; simp only [Tm.kind, Tm.int, Tm.name, Tm.args] at h hk ⊢
  rw [shape_mk, if_neg h]
  subst hk
  refine ⟨fun h2 => ?_, fun a b hab => ?_⟩
  · simp
    split
    · simp at h2
    · rfl
  · subst hab; simp

/-! ### Lists of valid terms -/
theorem ok?_tm {t : Tm} {v : V} (h : t.ok? = some v) : t = v.tm := by
  unfold Tm.ok? at h
  cases hv : t.v? with
  | none => simp [hv] at h
  | some v' =>
    simp only [hv] at h
    split at h
    · cases h; exact Tm.of_v? t v hv
    · cases h

/-- Valid, with all that is known of it. -/
def V.ok (v : V) : Bool := v.fine && decide (v.size ≤ 5000)
theorem ok?_ok {t : Tm} {v : V} (h : t.ok? = some v) : v.ok = true := by
  unfold Tm.ok? at h
  cases hv : t.v? with
  | none => simp [hv] at h
  | some v' =>
    simp only [hv] at h
    split at h
    · cases h; simp [V.ok, Tm.fine_of t v hv]; assumption
    · cases h
theorem tmOk_of {t : Tm} (h : tmOk t = true) : ∃ v : V, t = v.tm ∧ v.ok = true := by
  unfold tmOk at h
  obtain ⟨v, hv⟩ := Option.isSome_iff_exists.1 h
  exact ⟨v, ok?_tm hv, ok?_ok hv⟩
theorem tmOk_tm {v : V} (h : v.ok = true) : tmOk v.tm = true := by
  simp [V.ok] at h
  simp [tmOk, Tm.ok?, V.v?_tm v h.1, h.2]
theorem tmsOk_of : ∀ {l : List Tm}, l.all tmOk = true → ∃ vs : List V, l = vs.map V.tm ∧ vs.all V.ok = true
  | [], _ => ⟨[], rfl, rfl⟩
  | t :: r, h => by
    simp only [List.all_cons, Bool.and_eq_true] at h
    obtain ⟨v, rfl, hv⟩ := tmOk_of h.1
    obtain ⟨vs, rfl, hvs⟩ := tmsOk_of h.2
    exact ⟨v :: vs, rfl, by simp [hv]; simpa using hvs⟩
theorem enc_tms (vs : List V) : (vs.map V.tm).map Tm.enc = vs.map V.enc := by simp [V.enc]

/-! ### The order -/
def ordInt (a b : Int) : Int := if a < b then -1 else if a > b then 1 else 0
/-- The order of terms. -/
def V.cmp (a b : V) : Int :=
  if a.kind ≠ b.kind then (if a.kind < b.kind then -1 else 1)
  else if a.int ≠ b.int then (if a.int < b.int then -1 else 1)
  else if a.name ≠ b.name then (if Op.bytesLess a.name b.name then -1 else 1)
  else match a, b with
    | .pair a1 a2, .pair b1 b2 => if V.cmp a1 b1 ≠ 0 then V.cmp a1 b1 else V.cmp a2 b2
    | _, _ => 0
def V.cmpL : List V → List V → Int
  | a :: r, b :: q => if V.cmp a b ≠ 0 then V.cmp a b else V.cmpL r q
  | l, m => ordInt l.length m.length
theorem V.pair_or (v : V) : (∃ x y, v = .pair x y) ∨ (v.kind ≠ 4 ∧ v.kids = []) := by
  cases v <;> simp [V.kind, V.kids]
theorem V.cmp_pair (a1 a2 b1 b2 : V) : V.cmp (.pair a1 a2) (.pair b1 b2) = if V.cmp a1 b1 ≠ 0 then V.cmp a1 b1 else V.cmp a2 b2 := by
  rw [V.cmp]; simp [V.kind, V.int, V.name]
theorem V.cmp_else {a b : V} (h : a.kind ≠ 4 ∨ b.kind ≠ 4) : V.cmp a b = if a.kind ≠ b.kind then (if a.kind < b.kind then -1 else 1)
  else if a.int ≠ b.int then (if a.int < b.int then -1 else 1)
  else if a.name ≠ b.name then (if Op.bytesLess a.name b.name then -1 else 1) else 0 := by
  rw [V.cmp.eq_def]
  congr 1
  congr 1
  congr 1
  cases a <;> cases b <;> simp_all [V.kind]
theorem V.cmpL_nil_left (l : List V) : V.cmpL [] l = ordInt 0 l.length := by cases l <;> simp [V.cmpL]
theorem V.cmpL_nil_right (l : List V) : V.cmpL l [] = ordInt l.length 0 := by cases l <;> simp [V.cmpL]
theorem V.cmpL_cons (a b : V) (r q : List V) : V.cmpL (a :: r) (b :: q) = if V.cmp a b ≠ 0 then V.cmp a b else V.cmpL r q := by rw [V.cmpL]

/-- The order of facts, their arguments valid. -/
def cmpFact (r : List UInt8) (a : List V) (q : List UInt8) (b : List V) : Int :=
  if r ≠ q then (if Op.bytesLess r q then -1 else 1) else V.cmpL a b
/-- CompareFacts. -/
def compareFacts (a b : Fc) : Int :=
  if a.args.all tmOk && b.args.all tmOk then cmpFact a.rel (a.args.filterMap Tm.ok?) b.rel (b.args.filterMap Tm.ok?) else 2
theorem filterMap_ok : ∀ {vs : List V}, vs.all V.ok = true → (vs.map V.tm).filterMap Tm.ok? = vs
  | [], _ => rfl
  | v :: r, h => by
    simp only [List.all_cons, Bool.and_eq_true] at h
    have h1 : v.tm.ok? = some v := by
      have := h.1
      simp [V.ok] at this
      simp [Tm.ok?, V.v?_tm v this.1, this.2]
    simp only [List.map_cons, List.filterMap_cons, h1]
    rw [filterMap_ok h.2]
end Go.Abs
