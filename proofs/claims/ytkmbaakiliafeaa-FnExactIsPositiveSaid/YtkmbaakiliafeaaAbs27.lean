/- The plain-data layer, part 27: the rewriting set of the walk over the data types. -/
import Derived.Test.YtkmbaakiliafeaaAbs26
set_option linter.unusedVariables false
set_option linter.unusedSimpArgs false
namespace Go.Abs

theorem drop_map {α β : Type} (f : α → β) (l : List α) (i : Nat) : (l.map f).drop i = (l.drop i).map f := by simp
theorem take_map {α β : Type} (f : α → β) (l : List α) (i : Nat) : (l.map f).take i = (l.take i).map f := by simp
theorem eltLen_eq (P : Program) (t : TypeId) (l : List (List D)) : eltLen P t l = (match (tElem P t).bind (tSize P) with
  | some z => ∀ x, x ∈ l → x.length = z
  | none => False) := rfl
theorem lt_self (n : Int) : decide (n < n) = false := by simp
theorem ty_none : True := trivial

theorem vcT : type_of% (And.intro vcS <| And.intro @idx_map <| And.intro @idx_zero <| And.intro @idx_succ <| And.intro eltLen_eq <| And.intro toDs_map <| And.intro norm_map <| And.intro dataCells_map <| And.intro @drop_map <| And.intro @take_map <| And.intro lt_self <| tyE) :=
  And.intro vcS <| And.intro @idx_map <| And.intro @idx_zero <| And.intro @idx_succ <| And.intro eltLen_eq <| And.intro toDs_map <| And.intro norm_map <| And.intro dataCells_map <| And.intro @drop_map <| And.intro @take_map <| And.intro lt_self <| tyE
end Go.Abs
