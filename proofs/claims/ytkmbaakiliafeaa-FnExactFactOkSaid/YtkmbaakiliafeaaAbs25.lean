/- The plain-data layer, part 25: loops with the kept slots named, loops over a slice, words for templates. -/
import Derived.Test.YtkmbaakiliafeaaAbs24
set_option linter.unusedVariables false
set_option linter.unusedSimpArgs false
namespace Go.Abs

/-- The head's state: the slots that turn, the slots that stay. -/
def mkS (s : St) (keep : List Nat) (v : List (Nat × C)) (H : List O) : St := ⟨v ++ keep.map (fun t => (t, get s.σ t)), H⟩

section
variable {P : Program} {f : FuncId} {n n0 : Nat} {R : C → List O → Prop}

theorem RdD.len_le {w : World} {S : Nat → Nat → Prop} {xs : List (List D)} {v : Value} (h : RdD w S (.sl xs) v) : xs.length ≤ maxLen := by
  cases h with
  | nil => simp
  | sl _ _ _ _ _ _ _ hcap hmax => omega

theorem AW.len {k : List Item} {s : St} (t : Nat) {xs : List (List D)} (ht : get s.σ t = .d (.sl xs)) (h : xs.length ≤ maxLen → AW P f n n0 R k s) : AW P f n n0 R k s := by
  intro hn E a b cs hst hb hk
  have hv := hst.slot t
  rw [ht] at hv
  generalize a.tmps.getD t undef = v at hv
  cases hv with
  | d _ _ hd => exact h hd.len_le hn E a b cs hst hb hk

/-- A loop. -/
theorem AW.lp {Acc : Type} (keep : List Nat) (v : Acc → List (Nat × C)) (Hs : List O → Acc → List O) (I : Acc → Prop) (μ : Acc → Nat) (acc0 : Acc) {c : Code} {k : List Item} {s : St}
    (h0 : I acc0) (hw : Weak n0 s (mkS s keep (v acc0) (Hs s.H acc0)))
    (step : ∀ acc, I acc → (∀ acc' s', I acc' → μ acc' < μ acc → Weak n0 s' (mkS s keep (v acc') (Hs s.H acc')) → AW P f n n0 R (.inLoop c :: k) s') →
      AW P f n n0 R (.code c :: .inLoop c :: k) (mkS s keep (v acc) (Hs s.H acc))) : AW P f n n0 R (.code (.loop c) :: k) s :=
  AW.loop_ind (fun acc => mkS s keep (v acc) (Hs s.H acc)) I μ acc0 h0 hw step

/-- A loop over a slice's elements. -/
theorem AW.rng {α Acc : Type} (l : List α) (keep : List Nat) (ti tx : Nat) (v : Acc → List (Nat × C)) (Hs : List O → Acc → List O) (Inv : List α → Acc → Prop) (acc0 : Acc) {c : Code} {k : List Item} {s : St}
    {xs : List (List D)} (hx : get s.σ tx = .d (.sl xs)) (hl : xs.length = l.length)
    (h0 : Inv l acc0) (hw : Weak n0 s (mkS s keep ((ti, .d (.int .i64 0)) :: v acc0) (Hs s.H acc0)))
    (step : ∀ (i : Nat) (x : α) (r : List α) (acc : Acc), l[i]? = some x → l.drop i = x :: r → (i : Int) < l.length → (l.length : Int) ≤ 9223372036854775807 → Inv (x :: r) acc →
      (∀ acc' s', Inv r acc' → Weak n0 s' (mkS s keep ((ti, .d (.int .i64 (i + 1 : Int))) :: v acc') (Hs s.H acc')) → AW P f n n0 R (.inLoop c :: k) s') →
      AW P f n n0 R (.code c :: .inLoop c :: k) (mkS s keep ((ti, .d (.int .i64 i)) :: v acc) (Hs s.H acc)))
    (done : ∀ acc, Inv [] acc → AW P f n n0 R (.code c :: .inLoop c :: k) (mkS s keep ((ti, .d (.int .i64 l.length)) :: v acc) (Hs s.H acc))) :
    AW P f n n0 R (.code (.loop c) :: k) s := by
  refine AW.len tx hx (fun hm => ?_)
  have hm' : (l.length : Int) ≤ 9223372036854775807 := by simp only [maxLen] at hm; omega
  refine AW.loop_ind (fun p : Nat × Acc => mkS s keep ((ti, .d (.int .i64 p.1)) :: v p.2) (Hs s.H p.2)) (fun p => p.1 ≤ l.length ∧ Inv (l.drop p.1) p.2) (fun p => l.length - p.1) (0, acc0) ⟨Nat.zero_le _, h0⟩ hw ?_
  rintro ⟨i, acc⟩ ⟨hi, hinv⟩ hnext
  dsimp only at hi hinv hnext ⊢
  by_cases h : i < l.length
  · obtain ⟨x, hxi⟩ : ∃ x, l[i]? = some x := ⟨_, List.getElem?_eq_getElem h⟩
    have hd : l.drop i = x :: l.drop (i + 1) := by
      obtain ⟨h2, h3⟩ := List.getElem?_eq_some_iff.1 hxi
      rw [← h3]; exact List.drop_eq_getElem_cons h2
    rw [hd] at hinv
    refine step i x (l.drop (i + 1)) acc hxi hd (by omega) hm' hinv (fun acc' s' h1 h2 => hnext (i + 1, acc') s' ⟨h, h1⟩ (by dsimp only; omega) ?_)
    exact h2
  · have : i = l.length := by omega
    subst this
    rw [List.drop_length] at hinv
    exact done acc hinv
end

/-! ### Words of the walk -/

theorem toDs_map (s : St) : ∀ ds : List D, toDs ((ds.map C.d).map (norm1 s)) = some ds
  | [] => rfl
  | x :: r => by
    simp only [List.map_cons, norm1, toDs]
    have := toDs_map s r
    rw [this]; rfl

theorem norm_map (s : St) (ds : List D) : norm s (.agg (ds.map C.d)) = .d (.agg ds) := by
  simp only [norm, toDs_map]

theorem dataCells_map (s : St) (ds : List D) : dataCells s (.agg (ds.map C.d)) = some ds := by
  unfold dataCells cellsOf
  exact toDs_map s ds

theorem eltLen_of {P : Program} {t e : TypeId} {z : Nat} {l : List (List D)} (he : tElem P t = some e) (hz : tSize P e = some z) : eltLen P t l = ∀ x, x ∈ l → x.length = z := by
  unfold eltLen
  simp only [he, hz, Option.bind_some]

theorem take_all {α : Type} {l : List α} {n : Nat} (h : l.length = n) : l.take n = l := List.take_of_length_le (by omega)
theorem drop_all {α : Type} {l : List α} {n : Nat} (h : l.length = n) : l.drop n = [] := List.drop_eq_nil_of_le (by omega)
theorem map_len {α β : Type} {l : List α} {f : α → β} {n : Nat} (h : l.length = n) : (l.map f).length = n := by simp [h]
end Go.Abs
