/- The layer, part P4. -/
import Derived.Test.YtljdpohdfnileaaP2
/- Plain law, part 11: marks of programs; who calls whom. -/
set_option linter.unusedVariables false
set_option linter.unusedSimpArgs false
namespace Go.Abs

theorem Gl.mcnts_wt : ∀ l : List Gl, Gl.mcnts l ≤ 3 * wtR (l.map Gl.enc)
  | [] => by simp [Gl.mcnts]
  | t :: r => by
    have h1 := Gl.mcnts_wt r
    have h2 := Gl.mcnt_wt t
    simp only [Gl.mcnts, List.map_cons, wtR]; omega
def Rl.mcnt (t : Rl) : Nat := 5 + Tm.mcnts t.body.terms + Gl.mcnts t.body.goals
def Rl.mrk (k : Int) (t : Rl) : Rl := ⟨mText k, k + 1, k + 2, .mk (k + 3) (mText (k + 4)) (Tm.mrks (k + 5) t.body.terms) (Gl.mrks (k + 5 + Tm.mcnts t.body.terms) t.body.goals)⟩
def Rl.mcnts : List Rl → Nat
  | [] => 0
  | t :: r => Rl.mcnt t + Rl.mcnts r
def Rl.mrks (k : Int) : List Rl → List Rl
  | [] => []
  | t :: r => Rl.mrk k t :: Rl.mrks (k + t.mcnt) r
theorem Rl.mrks_len : ∀ (l : List Rl) (k : Int), (Rl.mrks k l).length = l.length
  | [], _ => rfl
  | t :: r, k => by simp [Rl.mrks, Rl.mrks_len r]
theorem Rl.mcnts_app : ∀ (a b : List Rl), Rl.mcnts (a ++ b) = Rl.mcnts a + Rl.mcnts b
  | [], b => by simp [Rl.mcnts]
  | t :: a, b => by simp only [List.cons_append, Rl.mcnts, Rl.mcnts_app a b]; omega
theorem Rl.mrks_app : ∀ (a b : List Rl) (k : Int), Rl.mrks k (a ++ b) = Rl.mrks k a ++ Rl.mrks (k + Rl.mcnts a) b
  | [], b, k => by simp [Rl.mrks, Rl.mcnts]
  | t :: a, b, k => by
    simp only [List.cons_append, Rl.mrks, Rl.mcnts, Rl.mrks_app a b]
    rw [show k + (t.mcnt : Int) + (Rl.mcnts a : Int) = k + ((t.mcnt + Rl.mcnts a : Nat) : Int) by omega]
theorem Rl.len_mcnts : ∀ l : List Rl, l.length ≤ Rl.mcnts l
  | [] => by simp
  | t :: r => by have := Rl.len_mcnts r; simp only [Rl.mcnts, Rl.mcnt, List.length_cons]; omega
theorem Rl.mcnts_wt : ∀ l : List Rl, Rl.mcnts l ≤ 5 * wtR (l.map Rl.enc)
  | [] => by simp [Rl.mcnts]
  | t :: r => by
    have h1 := Rl.mcnts_wt r
    have h2 := Tm.mcnts_wt t.body.terms
    have h3 := Gl.mcnts_wt t.body.goals
    simp only [Rl.mcnts, Rl.mcnt, List.map_cons, wtR, Rl.enc_eq, wtL, D.wt]; omega

/-! ### Who calls whom -/
def Pg.callNames (g : Gl) : List (List UInt8) := (g.subs.filter fun x => decide (x.kind = 9)).map Gl.name
def Pg.rowI (p : Pg) (g : Gl) : List Int := ascOf ((Pg.callNames g).map p.find)
theorem Gl.calls_mem : ∀ (g : Gl), g.shape = true → ∀ n, n ∈ Pg.callNames g ↔ n ∈ g.callsS false ++ g.callsS true := by
  intro g
  induction g using Gl.ind' with
  | h t ih =>
    intro hs n
    have hs' := hs
    rw [Gl.shape_eq] at hs'
    simp only [Bool.and_eq_true, List.all_eq_true] at hs'
    have hgs := hs'.2
    have hfm := Gl.form_inv hs'.1.1
    have hsub : ∀ m, m ∈ (((Gl.subss t.goals).filter fun x => decide (x.kind = 9)).map Gl.name) ↔ ∃ x, x ∈ t.goals ∧ m ∈ Pg.callNames x := by
      intro m
      rw [Gl.subss_eq]
      simp only [List.mem_map, List.mem_filter, List.mem_flatMap, Pg.callNames]
      constructor
      · rintro ⟨a, ⟨⟨x, hx, ha⟩, hk⟩, rfl⟩; exact ⟨x, hx, a, ⟨ha, hk⟩, rfl⟩
      · rintro ⟨x, hx, a, ⟨ha, hk⟩, rfl⟩; exact ⟨a, ⟨⟨x, hx, ha⟩, hk⟩, rfl⟩
    have hss : ∀ (b : Bool) m, m ∈ Gl.callsSs b t.goals ↔ ∃ x, x ∈ t.goals ∧ m ∈ x.callsS b := by
      intro b
      generalize t.goals = l
      intro m
      induction l with
      | nil => simp [Gl.callsSs]
      | cons y r ihr => simp [Gl.callsSs, ihr]
    rw [Gl.callsS_eq, Gl.callsS_eq]
    unfold Pg.callNames
    rw [Gl.subs_eq]
    by_cases h10 : t.kind = 10
    · obtain ⟨x, hx⟩ : ∃ x, t.goals = [x] ∧ x.kind = 9 := by
        rcases hfm with h | h | h | h
        · omega
        · omega
        · omega
        · obtain ⟨_, _, _, h4, h5⟩ := h
          match he : t.goals, h4 with
          | [x], _ => exact ⟨x, rfl, by rw [he] at h5; simpa [firstCall] using h5⟩
          | [], h4 => simp at h4
          | x :: y :: r, h4 => simp at h4; omega
      obtain ⟨hx, hxk⟩ := hx
      have hx0 : x.goals = [] := by
        have := hgs x (by rw [hx]; simp)
        rw [Gl.shape_eq] at this
        simp only [Bool.and_eq_true] at this
        have hfx := Gl.form_inv this.1.1
        rcases hfx with h | h | h | h
        · exact List.length_eq_zero_iff.1 (by omega)
        · omega
        · omega
        · omega
      have h9 : ¬ t.kind = 9 := by omega
      simp only [h10, if_true, hx, List.take_succ_cons, List.take_zero, List.map_cons, List.map_nil, Gl.subss_eq, List.flatMap_cons, List.flatMap_nil, List.append_nil]
      rw [Gl.subs_eq, hx0]
      simp [Gl.subss, h10, hxk]
    · have hmem : ∀ m, (m ∈ ((t :: Gl.subss t.goals).filter fun x => decide (x.kind = 9)).map Gl.name) ↔ (t.kind = 9 ∧ m = t.name) ∨ ∃ x, x ∈ t.goals ∧ m ∈ Pg.callNames x := by
        intro m
        rw [List.filter_cons]
        by_cases h9 : t.kind = 9
        · simp only [h9, decide_true, if_true, List.map_cons, List.mem_cons, hsub, true_and]
        · simp only [h9, decide_false, Bool.false_eq_true, if_false, hsub, false_and, false_or]
      rw [hmem]
      simp only [if_neg h10, List.mem_append, hss]
      have e : (∃ x, x ∈ t.goals ∧ n ∈ Pg.callNames x) ↔ (∃ x, x ∈ t.goals ∧ n ∈ x.callsS false) ∨ ∃ x, x ∈ t.goals ∧ n ∈ x.callsS true := by
        constructor
        · rintro ⟨x, hx, hn⟩
          rcases List.mem_append.1 ((ih x hx (hgs x hx) n).1 hn) with h | h
          · exact .inl ⟨x, hx, h⟩
          · exact .inr ⟨x, hx, h⟩
        · rintro (⟨x, hx, h⟩ | ⟨x, hx, h⟩)
          · exact ⟨x, hx, (ih x hx (hgs x hx) n).2 (List.mem_append.2 (.inl h))⟩
          · exact ⟨x, hx, (ih x hx (hgs x hx) n).2 (List.mem_append.2 (.inr h))⟩
      rw [e]
      by_cases h9 : t.kind = 9
      · simp [h9]
        constructor
        · rintro (h | h | h)
          · exact .inl (.inl h)
          · exact .inl (.inr h)
          · exact .inr h
        · rintro ((h | h) | h)
          · exact .inl h
          · exact .inr (.inl h)
          · exact .inr (.inr h)
      · simp [h9]
def Pg.rowS (p : Pg) (g : Gl) : List Int := ((g.callsS false ++ g.callsS true).map p.find).foldl insA []
theorem Pg.row_same (p : Pg) (g : Gl) (h : g.shape = true) : p.rowI g = p.rowS g := by
  unfold Pg.rowI Pg.rowS
  show _ = ascOf _
  refine ascOf_ext (fun x => ?_)
  simp only [List.mem_map, Gl.calls_mem g h]
end Go.Abs

/- Plain law, part 12: marks of lists of lists of integers. -/
set_option linter.unusedVariables false
set_option linter.unusedSimpArgs false
namespace Go.Abs

def cntII : List (List Int) → Nat
  | [] => 0
  | c :: r => c.length + cntII r
def mrkII (k : Int) : List (List Int) → List (List Int)
  | [] => []
  | c :: r => mrkI k c :: mrkII (k + c.length) r
theorem mrkII_len : ∀ (l : List (List Int)) (k : Int), (mrkII k l).length = l.length
  | [], _ => rfl
  | t :: r, k => by simp [mrkII, mrkII_len r]
theorem cntII_app : ∀ (a b : List (List Int)), cntII (a ++ b) = cntII a + cntII b
  | [], b => by simp [cntII]
  | t :: a, b => by simp only [List.cons_append, cntII, cntII_app a b]; omega
theorem mrkII_app : ∀ (a b : List (List Int)) (k : Int), mrkII k (a ++ b) = mrkII k a ++ mrkII (k + cntII a) b
  | [], b, k => by simp [mrkII, cntII]
  | t :: a, b, k => by
    simp only [List.cons_append, mrkII, cntII, mrkII_app a b]
    rw [show k + (t.length : Int) + (cntII a : Int) = k + ((t.length + cntII a : Nat) : Int) by omega]
theorem mrkII_at : ∀ (l : List (List Int)) (k : Int) (i : Nat) (x : List Int), l[i]? = some x → (mrkII k l)[i]? = some (mrkI (k + cntII (l.take i)) x)
  | [], k, i, x, h => by simp at h
  | t :: r, k, 0, x, h => by simp at h; subst h; simp [mrkII, cntII]
  | t :: r, k, i + 1, x, h => by
    simp only [List.getElem?_cons_succ] at h
    simp only [mrkII, List.getElem?_cons_succ, List.take_succ_cons, cntII]
    rw [mrkII_at r _ i x h]
    rw [show k + (t.length : Int) + (cntII (r.take i) : Int) = k + ((t.length + cntII (r.take i) : Nat) : Int) by omega]
theorem cntII_le {m : Nat} : ∀ (l : List (List Int)), (∀ c, c ∈ l → c.length ≤ m) → cntII l ≤ l.length * m
  | [], _ => by simp [cntII]
  | c :: r, h => by
    have h1 := cntII_le r (fun x hx => h x (by simp [hx]))
    have h2 := h c (by simp)
    simp only [cntII, List.length_cons, Nat.succ_mul]; omega
end Go.Abs
