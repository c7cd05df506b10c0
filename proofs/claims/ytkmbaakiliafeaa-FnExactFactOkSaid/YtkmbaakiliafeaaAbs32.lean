/- The plain-data layer, part 32: closures that turn some of the caller's objects. -/
import Derived.Test.YtkmbaakiliafeaaAbs31
namespace Go.Abs

/-- The closure g, called on x over the objects H a, leaves H (step a x) and returns nothing. -/
structure Clo {α Acc : Type} (P : Program) (g : FuncId) (caps : List C) (m : Nat) (enc : α → D) (Hs : Acc → List O) (Q : α → Prop) (step : Acc → α → Acc) : Prop where
  go : isGo P g = true
  hcaps : caps.all (C.refsLt1 m) = true
  len : ∀ a, (Hs a).length = m
  refs : ∀ a, (Hs a).all (O.refsLt m) = true
  call : ∀ a x, Q x → ACalls P g (.d (enc x) :: caps) (Hs a) (fun c H' => c = .tup [] ∧ H' = Hs (step a x))

theorem C.refsLt1_mono {m j : Nat} {c : C} (h : c.refsLt1 m = true) : c.refsLt1 (m + j) = true := by
  cases c <;> simp_all [C.refsLt1] <;> omega
theorem C.refsLt_of1 {m : Nat} {c : C} (h : c.refsLt1 m = true) : c.refsLt m = true := by
  cases c <;> simp_all [C.refsLt1, C.refsLt]
theorem C.refsLtT_of1 {m : Nat} {c : C} (h : c.refsLt1 m = true) : c.refsLtT m = true := by
  cases c <;> simp_all [C.refsLt1, C.refsLt, C.refsLtT]
theorem C.refsLt_mono {m j : Nat} {c : C} (h : c.refsLt m = true) : c.refsLt (m + j) = true := by
  cases c with
  | fn f cs => simp only [C.refsLt, List.all_eq_true] at h ⊢; exact fun c hc => C.refsLt1_mono (h c hc)
  | agg cs => simp only [C.refsLt, List.all_eq_true] at h ⊢; exact fun c hc => C.refsLt1_mono (h c hc)
  | _ => simp_all [C.refsLt, C.refsLt1] <;> omega
theorem O.refsLt_mono {m j : Nat} {o : O} (h : o.refsLt m = true) : o.refsLt (m + j) = true := by
  cases o with
  | box cs => simp only [O.refsLt, List.all_eq_true] at h ⊢; exact fun c hc => C.refsLt_mono (h c hc)
  | iter k _ _ _ => simp only [O.refsLt, decide_eq_true_eq] at h ⊢; omega
  | _ => rfl

theorem all_dmap (m : Nat) (ds : List D) : (ds.map C.d).all (C.refsLt m) = true := by
  rw [List.all_eq_true]; intro c hc
  obtain ⟨d, _, rfl⟩ := List.mem_map.1 hc; rfl
theorem all_dcomp (m : Nat) (ds : List D) : ds.all (C.refsLt m ∘ C.d) = true := by
  rw [List.all_eq_true]; intro c hc; rfl

namespace Clo
variable {α Acc : Type} {P : Program} {g : FuncId} {cs : List C} {m : Nat} {enc : α → D} {Hs : Acc → List O} {Q : α → Prop} {step : Acc → α → Acc}

theorem at0 (h : Clo P g cs m enc Hs Q step) (a : Acc) (X : List O) : (Hs a ++ X)[m]? = X[0]? := by
  rw [List.getElem?_append_right (by rw [h.len]; omega), h.len, Nat.sub_self]
theorem atj (h : Clo P g cs m enc Hs Q step) (a : Acc) (X : List O) (j : Nat) : (Hs a ++ X)[m + j]? = X[j]? := by
  rw [List.getElem?_append_right (by rw [h.len]; omega), h.len, Nat.add_sub_cancel_left]
theorem set0 (h : Clo P g cs m enc Hs Q step) (a : Acc) (X : List O) (o : O) : (Hs a ++ X).set m o = Hs a ++ X.set 0 o := by
  rw [List.set_append, if_neg (by rw [h.len]; omega), h.len, Nat.sub_self]
theorem setj (h : Clo P g cs m enc Hs Q step) (a : Acc) (X : List O) (j : Nat) (o : O) : (Hs a ++ X).set (m + j) o = Hs a ++ X.set j o := by
  rw [List.set_append, if_neg (by rw [h.len]; omega), h.len, Nat.add_sub_cancel_left]
theorem tk (h : Clo P g cs m enc Hs Q step) (a : Acc) : (Hs a).take m = Hs a := List.take_of_length_le (by rw [h.len]; omega)
theorem tk0 (h : Clo P g cs m enc Hs Q step) (a : Acc) (X : List O) : (Hs a ++ X).take m = Hs a := by
  rw [List.take_append_of_le_length (by rw [h.len]; omega), h.tk]
theorem tkj (h : Clo P g cs m enc Hs Q step) (a : Acc) (X : List O) (j : Nat) : (Hs a ++ X).take (m + j) = Hs a ++ X.take j := by
  rw [← h.len a, List.take_length_add_append]
theorem refsj (h : Clo P g cs m enc Hs Q step) (a : Acc) (j : Nat) : (Hs a).all (O.refsLt (m + j)) = true := by
  have := h.refs a
  simp only [List.all_eq_true] at this ⊢
  exact fun o ho => O.refsLt_mono (this o ho)
theorem capsj (h : Clo P g cs m enc Hs Q step) (j : Nat) : cs.all (C.refsLt1 (m + j)) = true := by
  have := h.hcaps
  simp only [List.all_eq_true] at this ⊢
  exact fun o ho => C.refsLt1_mono (this o ho)

theorem on (h : Clo P g cs m enc Hs Q step) {a : Acc} {x : α} {X : List O} {K : C → List O → Prop} (hq : Q x) (hk : K (.tup []) (Hs (step a x) ++ X)) : ACalls P g (.d (enc x) :: cs) (Hs a ++ X) K := by
  refine (h.call a x hq).frame ?_ (by rw [h.len]; exact h.refs a) (fun c H' hc hl => ?_)
  · have := h.hcaps
    simp only [List.all_cons, C.refsLtT, C.refsLt, C.refsLt1, Bool.true_and, List.all_eq_true, h.len] at this ⊢
    exact fun c hc => C.refsLtT_of1 (this c hc)
  · obtain ⟨rfl, rfl⟩ := hc; exact hk

theorem sub (h : Clo P g cs m enc Hs Q step) {f : FuncId} {d : D} {a a' : Acc} {X : List O} {K : C → List O → Prop} (hc : ACalls P f [.d d, .fn g cs] (Hs a) (fun c H' => c = .tup [] ∧ H' = Hs a'))
    (hk : K (.tup []) (Hs a' ++ X)) : ACalls P f [.d d, .fn g cs] (Hs a ++ X) K := by
  refine hc.frame ?_ (by rw [h.len]; exact h.refs a) (fun c H' hc hl => ?_)
  · have e1 : C.refsLtT m (.fn g cs) = cs.all (C.refsLt1 m) := rfl
    have e2 : C.refsLtT m (.d d) = true := rfl
    simp only [List.all_cons, List.all_nil, h.len, e1, e2, h.hcaps, Bool.and_self]
  · obtain ⟨rfl, rfl⟩ := hc; exact hk
end Clo
end Go.Abs
