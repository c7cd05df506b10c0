/- The plain-data layer, part 22: how much a datum weighs (what the laws' size functions count), and a few words for templates. -/
import Derived.Test.YtkmbaakiliafeaaAbs21
namespace Go.Abs

mutual
def D.wt : D → Nat
  | .int _ _ => 0
  | .bool _ => 0
  | .str s => s.length
  | .sl xs => wtR xs
  | .agg cs => wtL cs
def wtL : List D → Nat
  | [] => 0
  | c :: r => c.wt + wtL r
def wtR : List (List D) → Nat
  | [] => 0
  | x :: r => 1 + wtL x + wtR r
end

/-- A made row, one element further. -/
theorem row_step {xs : List (List D)} {z x : List D} {i k : Nat} (h : xs[i]? = some x) (hz : z.length = k) :
    (xs.take i ++ List.replicate (xs.length - i) z).set i (x ++ List.drop k ((xs.take i ++ List.replicate (xs.length - i) z)[i]?.getD [])) = xs.take (i + 1) ++ List.replicate (xs.length - (i + 1)) z := by
  obtain ⟨h1, h2⟩ := List.getElem?_eq_some_iff.1 h
  have hl : (xs.take i).length = i := by simp; omega
  obtain ⟨m, hm⟩ : ∃ m, xs.length - i = m + 1 := ⟨xs.length - i - 1, by omega⟩
  have e1 : (xs.take i ++ List.replicate (xs.length - i) z)[i]? = some z := by
    rw [List.getElem?_append_right (by omega), hl, hm]; simp [List.replicate_succ]
  rw [e1, Option.getD_some, ← hz, List.drop_length, List.append_nil, List.set_append, if_neg (by omega), hl, Nat.sub_self, hm, List.replicate_succ, List.set_cons_zero,
    List.take_add_one, h, show xs.length - (i + 1) = m by omega]
  simp

theorem row_all (xs : List (List D)) (z : List D) : xs.take xs.length ++ List.replicate (xs.length - xs.length) z = xs := by simp

/-- The weight of the first i elements. -/
def sumW : List (List D) → Nat → Nat
  | _, 0 => 0
  | [], _ + 1 => 0
  | x :: r, i + 1 => wtL x + sumW r i

theorem sumW_succ : ∀ (xs : List (List D)) (i : Nat), i < xs.length → sumW xs (i + 1) = sumW xs i + wtL (xs.getD i [])
  | [], _, h => by simp at h
  | x :: r, 0, _ => by simp [sumW]
  | x :: r, i + 1, h => by
    have := sumW_succ r i (by simpa using h)
    simp only [sumW] at this ⊢
    rw [this]
    simp
    omega

theorem sumW_at {xs : List (List D)} {i : Nat} {x : List D} (h : xs[i]? = some x) : sumW xs (i + 1) = sumW xs i + wtL x := by
  obtain ⟨h1, rfl⟩ := List.getElem?_eq_some_iff.1 h
  rw [sumW_succ xs i h1, List.getD, List.getElem?_eq_getElem h1]; rfl

theorem sumW_le : ∀ (xs : List (List D)) (i : Nat), sumW xs i + xs.length ≤ wtR xs
  | xs, 0 => by
    cases xs with
    | nil => simp [sumW]
    | cons x r => have := sumW_le r 0; simp only [sumW, wtR, List.length_cons] at this ⊢; omega
  | [], i + 1 => by simp [sumW]
  | x :: r, i + 1 => by have := sumW_le r i; simp only [sumW, wtR, List.length_cons] at this ⊢; omega

theorem sumW_all : ∀ (xs : List (List D)), sumW xs xs.length + xs.length = wtR xs
  | [] => rfl
  | x :: r => by have := sumW_all r; simp only [sumW, wtR, List.length_cons] at this ⊢; omega

theorem wtL_lt : ∀ (xs : List (List D)) (x : List D), x ∈ xs → wtL x < wtR xs
  | y :: r, x, h => by
    rcases List.mem_cons.1 h with rfl | h
    · simp only [wtR]; omega
    · have := wtL_lt r x h; simp only [wtR]; omega

theorem wtR_flat : ∀ (xs : List (List D)), (∀ x, x ∈ xs → wtL x = 0) → wtR xs = xs.length
  | [], _ => rfl
  | x :: r, h => by
    have h1 := h x (by simp)
    have h2 := wtR_flat r (fun y hy => h y (by simp [hy]))
    simp only [wtR, List.length_cons]; omega

/-- What the laws' size functions answer. -/
def szr (n : Int) (w : Nat) : Int := if (w : Int) ≤ n then n - w else -1

theorem szr_pos {n : Int} {w : Nat} (h : (w : Int) ≤ n) : szr n w = n - w := if_pos h
theorem szr_neg {n : Int} {w : Nat} (h : ¬ (w : Int) ≤ n) : szr n w = -1 := if_neg h
theorem szr_lt {n : Int} {w : Nat} (h : szr n w < 0) : ¬ (w : Int) ≤ n := fun hc => by rw [szr_pos hc] at h; omega
theorem szr_ge {n : Int} {w : Nat} (h : ¬ szr n w < 0) : (w : Int) ≤ n := Classical.byContradiction fun hc => by rw [szr_neg hc] at h; omega

theorem getD_mem {α : Type} {xs : List α} {i : Nat} (h : i < xs.length) (d : α) : xs.getD i d ∈ xs := by
  rw [List.getD, List.getElem?_eq_getElem h]; exact List.getElem_mem h

theorem wrap_ok {m : Int} (h1 : -9223372036854775808 ≤ m) (h2 : m ≤ 9223372036854775807) : IntKind.i64.wrap m = m := wrap64 h1 h2

theorem Weak.of {n0 : Nat} {s : St} {σ : List (Nat × C)} (h0 : n0 ≤ s.H.length) (hr : s.H.all (O.refsLt s.H.length) = true)
    (h : ∀ p, p ∈ σ → get s.σ p.1 = p.2 ∧ p.2.refsLtT s.H.length = true) : Weak n0 s ⟨σ, s.H⟩ :=
  ⟨h0, by simp, hr, h⟩

theorem vcPure_not (P : Program) (s : St) (K : C → Prop) (t : TypeId) (x : Operand) :
    vcPure P s (.unOp .not t x) K = (okOperand x = true ∧ match ev s x with | .d (.bool b) => K (.d (.bool (!b))) | _ => False) := by
  unfold vcPure
  dsimp only
  congr 1
  generalize ev s x = c
  split <;> split <;> simp_all

theorem vcPure_neg (P : Program) (s : St) (K : C → Prop) (t : TypeId) (x : Operand) :
    vcPure P s (.unOp .neg t x) K = (okOperand x = true ∧ match ev s x with | .d (.int k n) => K (.d (.int k (k.wrap (0 - n)))) | _ => False) := by
  unfold vcPure
  dsimp only
  congr 1
  generalize ev s x = c
  split <;> split <;> simp_all

theorem ShC.int_inv {P : Program} {k : IntKind} {d : D} (h : ShC P (.int k) d) : ∃ n, d = .int k n ∧ (Lit.int k n).wf = true := by
  cases h with
  | int _ n w => exact ⟨n, rfl, w⟩
theorem ShC.str_inv {P : Program} {d : D} (h : ShC P .str d) : ∃ s, d = .str s ∧ s.length ≤ maxLen := by
  cases h with
  | str s w => exact ⟨s, rfl, w⟩
theorem ShC.bool_inv {P : Program} {d : D} (h : ShC P .bool d) : ∃ b, d = .bool b ∧ True := by
  cases h with
  | bool b => exact ⟨b, rfl, trivial⟩

/-- The rewriting set of the walk, in one word. -/
theorem vcS : type_of% (And.intro @run.eq_1 <| And.intro @run.eq_2 <| And.intro @run.eq_3 <| And.intro @run.eq_4 <| And.intro @run.eq_5 <| And.intro @run.eq_6 <| And.intro @run.eq_7 <| And.intro @run.eq_8 <| And.intro @run.eq_9 <| And.intro @run.eq_10 <| And.intro @run.eq_11 <| And.intro @run.eq_12 <| And.intro @run.eq_13 <| And.intro @run.eq_14 <| And.intro @vcR.eq_1 <| And.intro @vcR.eq_2 <| And.intro @vcD.eq_1 <| And.intro @vcD.eq_2 <| And.intro @vcEff.eq_1 <| And.intro @vcPure.eq_1 <| And.intro @vcPure.eq_2 <| And.intro @vcPure.eq_3 <| And.intro @vcPure.eq_4 <| And.intro @vcPure.eq_5 <| And.intro @vcPure.eq_6 <| And.intro @vcPure.eq_7 <| And.intro @vcPure.eq_8 <| And.intro @vcPure.eq_9 <| And.intro @vcPure.eq_10 <| And.intro @vcPure_not <| And.intro @vcPure_neg <| And.intro @vcPure.eq_12 <| And.intro @vcPure.eq_13 <| And.intro @vcPure.eq_14 <| And.intro @vcPure.eq_15 <| And.intro @vcPure.eq_16 <| And.intro @vcPure.eq_17 <| And.intro @vcPure.eq_18 <| And.intro @vcPure.eq_19 <| And.intro @vcPure.eq_20 <| And.intro @vcBin.eq_1 <| And.intro @vcRet.eq_1 <| And.intro @resAll.eq_1 <| And.intro @resAll.eq_2 <| And.intro @resOne.eq_1 <| And.intro @resOne.eq_2 <| And.intro @vcFieldAddr.eq_1 <| And.intro @vcField.eq_1 <| And.intro @vcLoad.eq_1 <| And.intro @vcLoad.eq_2 <| And.intro @vcLoad.eq_3 <| And.intro @vcLoad.eq_4 <| And.intro @vcPart.eq_1 <| And.intro @vcPartD.eq_1 <| And.intro @vcLen.eq_1 <| And.intro @vcStore.eq_1 <| And.intro @vcAppend.eq_1 <| And.intro @vcElems.eq_1 <| And.intro @vcElems.eq_2 <| And.intro @fillA.eq_1 <| And.intro @fillA.eq_2 <| And.intro @vcQ.eq_1 <| And.intro @kR.eq_1 <| And.intro @kAt.eq_1 <| And.intro @kD.eq_1 <| And.intro @kSnoc.eq_1 <| And.intro @kRet.eq_1 <| And.intro @kNorm.eq_1 <| And.intro @kAgg.eq_1 <| And.intro @kCons.eq_1 <| And.intro @kSl.eq_1 <| And.intro @kSlQ.eq_1 <| And.intro @vcIndexAddr.eq_def <| And.intro @vcSlice.eq_def <| And.intro @vcMake.eq_def <| And.intro @allOk0 <| And.intro @allOk1 <| And.intro @allOk2 <| And.intro @allOk3 <| And.intro @allOk4 <| And.intro @allOk5 <| And.intro @allOk6 <| And.intro @allOk7 <| And.intro @br_true <| And.intro @br_false <| And.intro @app_eq <| And.intro @Nat.zero_add <| And.intro @Nat.add_zero <| And.intro @decide_true <| And.intro @decide_false <| And.intro @true_and <| And.intro @and_true <| And.intro @and_self <| And.intro @decide_eq_true_eq <| And.intro @Bool.false_eq_true <| And.intro @Bool.true_eq_false <| And.intro @Bool.not_true <| And.intro @Bool.not_false <| And.intro @Bool.true_and <| And.intro @Bool.and_true <| And.intro @Bool.and_self <| And.intro @Bool.true_or <| And.intro @Bool.false_or <| And.intro @Bool.or_true <| And.intro @Bool.or_false <| And.intro @Bool.and_false <| And.intro @Bool.false_and <| And.intro @not_false_eq_true <| And.intro @not_true_eq_false <| And.intro @Nat.le_refl <| @Bool.decide_eq_true) := And.intro @run.eq_1 <| And.intro @run.eq_2 <| And.intro @run.eq_3 <| And.intro @run.eq_4 <| And.intro @run.eq_5 <| And.intro @run.eq_6 <| And.intro @run.eq_7 <| And.intro @run.eq_8 <| And.intro @run.eq_9 <| And.intro @run.eq_10 <| And.intro @run.eq_11 <| And.intro @run.eq_12 <| And.intro @run.eq_13 <| And.intro @run.eq_14 <| And.intro @vcR.eq_1 <| And.intro @vcR.eq_2 <| And.intro @vcD.eq_1 <| And.intro @vcD.eq_2 <| And.intro @vcEff.eq_1 <| And.intro @vcPure.eq_1 <| And.intro @vcPure.eq_2 <| And.intro @vcPure.eq_3 <| And.intro @vcPure.eq_4 <| And.intro @vcPure.eq_5 <| And.intro @vcPure.eq_6 <| And.intro @vcPure.eq_7 <| And.intro @vcPure.eq_8 <| And.intro @vcPure.eq_9 <| And.intro @vcPure.eq_10 <| And.intro @vcPure_not <| And.intro @vcPure_neg <| And.intro @vcPure.eq_12 <| And.intro @vcPure.eq_13 <| And.intro @vcPure.eq_14 <| And.intro @vcPure.eq_15 <| And.intro @vcPure.eq_16 <| And.intro @vcPure.eq_17 <| And.intro @vcPure.eq_18 <| And.intro @vcPure.eq_19 <| And.intro @vcPure.eq_20 <| And.intro @vcBin.eq_1 <| And.intro @vcRet.eq_1 <| And.intro @resAll.eq_1 <| And.intro @resAll.eq_2 <| And.intro @resOne.eq_1 <| And.intro @resOne.eq_2 <| And.intro @vcFieldAddr.eq_1 <| And.intro @vcField.eq_1 <| And.intro @vcLoad.eq_1 <| And.intro @vcLoad.eq_2 <| And.intro @vcLoad.eq_3 <| And.intro @vcLoad.eq_4 <| And.intro @vcPart.eq_1 <| And.intro @vcPartD.eq_1 <| And.intro @vcLen.eq_1 <| And.intro @vcStore.eq_1 <| And.intro @vcAppend.eq_1 <| And.intro @vcElems.eq_1 <| And.intro @vcElems.eq_2 <| And.intro @fillA.eq_1 <| And.intro @fillA.eq_2 <| And.intro @vcQ.eq_1 <| And.intro @kR.eq_1 <| And.intro @kAt.eq_1 <| And.intro @kD.eq_1 <| And.intro @kSnoc.eq_1 <| And.intro @kRet.eq_1 <| And.intro @kNorm.eq_1 <| And.intro @kAgg.eq_1 <| And.intro @kCons.eq_1 <| And.intro @kSl.eq_1 <| And.intro @kSlQ.eq_1 <| And.intro @vcIndexAddr.eq_def <| And.intro @vcSlice.eq_def <| And.intro @vcMake.eq_def <| And.intro @allOk0 <| And.intro @allOk1 <| And.intro @allOk2 <| And.intro @allOk3 <| And.intro @allOk4 <| And.intro @allOk5 <| And.intro @allOk6 <| And.intro @allOk7 <| And.intro @br_true <| And.intro @br_false <| And.intro @app_eq <| And.intro @Nat.zero_add <| And.intro @Nat.add_zero <| And.intro @decide_true <| And.intro @decide_false <| And.intro @true_and <| And.intro @and_true <| And.intro @and_self <| And.intro @decide_eq_true_eq <| And.intro @Bool.false_eq_true <| And.intro @Bool.true_eq_false <| And.intro @Bool.not_true <| And.intro @Bool.not_false <| And.intro @Bool.true_and <| And.intro @Bool.and_true <| And.intro @Bool.and_self <| And.intro @Bool.true_or <| And.intro @Bool.false_or <| And.intro @Bool.or_true <| And.intro @Bool.or_false <| And.intro @Bool.and_false <| And.intro @Bool.false_and <| And.intro @not_false_eq_true <| And.intro @not_true_eq_false <| And.intro @Nat.le_refl <| @Bool.decide_eq_true

end Go.Abs
