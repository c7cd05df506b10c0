/- The plain-data layer, part 20: from a contract on plain data to a call in a world, and to what a row asks of a law that answers 'true'. -/
import Derived.Test.YtkmbaakiliafeaaAbs19
import Derived.ChangeSame
import Derived.RowKit3
set_option linter.unusedVariables false
set_option linter.unusedSimpArgs false
namespace Go.Abs
open Go.ChangeShapes Go.RowKit

theorem allOk0 : (#[] : Array Operand).all okOperand 0 0 = (true) := by simp [Bool.and_assoc]
theorem allOk1 (x0 : Operand) : (#[x0] : Array Operand).all okOperand 0 1 = (okOperand x0) := by simp [Bool.and_assoc]
theorem allOk2 (x0 x1 : Operand) : (#[x0, x1] : Array Operand).all okOperand 0 2 = (okOperand x0 && okOperand x1) := by simp [Bool.and_assoc]
theorem allOk3 (x0 x1 x2 : Operand) : (#[x0, x1, x2] : Array Operand).all okOperand 0 3 = (okOperand x0 && okOperand x1 && okOperand x2) := by simp [Bool.and_assoc]
theorem allOk4 (x0 x1 x2 x3 : Operand) : (#[x0, x1, x2, x3] : Array Operand).all okOperand 0 4 = (okOperand x0 && okOperand x1 && okOperand x2 && okOperand x3) := by simp [Bool.and_assoc]
theorem allOk5 (x0 x1 x2 x3 x4 : Operand) : (#[x0, x1, x2, x3, x4] : Array Operand).all okOperand 0 5 = (okOperand x0 && okOperand x1 && okOperand x2 && okOperand x3 && okOperand x4) := by simp [Bool.and_assoc]
theorem allOk6 (x0 x1 x2 x3 x4 x5 : Operand) : (#[x0, x1, x2, x3, x4, x5] : Array Operand).all okOperand 0 6 = (okOperand x0 && okOperand x1 && okOperand x2 && okOperand x3 && okOperand x4 && okOperand x5) := by simp [Bool.and_assoc]
theorem allOk7 (x0 x1 x2 x3 x4 x5 x6 : Operand) : (#[x0, x1, x2, x3, x4, x5, x6] : Array Operand).all okOperand 0 7 = (okOperand x0 && okOperand x1 && okOperand x2 && okOperand x3 && okOperand x4 && okOperand x5 && okOperand x6) := by simp [Bool.and_assoc]

section
variable {P : Program}

theorem Gives.below {f : FuncId} {args : List D} {r : C} (h : Gives P f args r) (w : World) (S : Nat → Nat → Prop) (hS : ∀ b i, S b i → b < w.heap.size) (vs : Array Value)
    (hs : vs.size = args.length) (ha : ∀ (i : Nat) (d : D) (v : Value), args[i]? = some d → vs[i]? = some v → RdD w S d v) :
    Calls P f vs w fun e w' => ∃ v E', e = .returned v ∧ Below w.heap.size w w' ∧ E'.w = w' ∧ Rd E' r v := by
  let E0 : Env := { w := w, S := S, N := 0, β := fun _ => 0, τ := fun _ => (0, .tuple #[]), pv := fun _ => False }
  have hE0 : RepH E0 [] := ⟨rfl, fun r o ho => by simp at ho, fun r o b ho => by simp at ho, fun r o b ho => by simp at ho, fun r r' o o' b ho => by simp at ho, hS⟩
  refine (h E0 vs hE0 (by simpa using hs) (fun i c v hc hv => ?_)).mono ?_
  · simp only [List.getElem?_map, Option.map_eq_some_iff] at hc
    obtain ⟨d, hd, rfl⟩ := hc
    exact .d _ _ (ha i d v hd hv)
  · rintro e w' ⟨v, c, E', H', rfl, rfl, h3, h4, h5, h6, rfl⟩
    exact ⟨v, E', rfl, ⟨h4.os, h4.tape, h4.output, h4.size, fun k hk => h4.blk k hk (fun hp => hp)⟩, rfl, h5⟩

theorem Gives.bool {f : FuncId} {args : List D} {b : Bool} (h : Gives P f args (.d (.bool b))) (w : World) (vs : Array Value)
    (hs : vs.size = args.length) (ha : ∀ (i : Nat) (d : D) (v : Value), args[i]? = some d → vs[i]? = some v → RdD w (fun b _ => b < w.heap.size) d v) :
    Calls P f vs w fun e w' => e = .returned (.bool b) ∧ Below w.heap.size w w' := by
  refine (h.below w _ (fun _ _ h => h) vs hs ha).mono ?_
  rintro e w' ⟨v, E', rfl, h1, h2, h3⟩
  cases h3 with
  | d _ _ hd => cases hd; exact ⟨rfl, h1⟩

end

section
variable {P : Program} {H : Type} {enc : TypeId × Value → H}

/-- As the kit's 'post_of_same', for a call that leaves all that was there as it was and may mark what is new. -/
theorem post_of_below {f : Func} {s : ChangeSpec} {apart fresh handsOn again : Bool} {W W' : World} {args : Array Value} {v : Value} {ds gs : List (DataW H)} {before pa pv : List MemPlace}
    (hW : DataW.Whole enc P f.params.toList s.vars apart W args.toList ds gs before)
    (hres : ∀ (b : Nat) (sp : Nat → Bool) (hd : Bool), DataW.TrodAll enc P W' b sp hd f.resultTypes.toList (v.resultList f.resultTypes.size) (s.fn H (ds ++ gs)).results [])
    (hargs : ∀ sp : Nat → Bool, (∀ p ∈ before, sp p.block = true) → DataW.TrodAll enc P W' 0 sp true f.params.toList args.toList (s.fn H (ds ++ gs)).args pa)
    (hvars : ∀ sp : Nat → Bool, (∀ p ∈ before, sp p.block = true) → DataW.TrodVars enc P W' sp s.vars (s.fn H (ds ++ gs)).vars pv)
    (hps : before = pa ++ pv) (hb : Below W.heap.size W W')
    (hok : ∀ (j : Nat) (t : TypeId) (r : Value), f.resultTypes[j]? = some t → (v.resultList f.resultTypes.size)[j]? = some r → Value.okWide P W' .any 0 t r) :
    s.post enc P f apart fresh handsOn again W args v W' := by
  have hold : ∀ p ∈ before, (fun b => decide (b < W.heap.size)) p.block = true := fun p hp => by simpa using hW.lt p hp
  have hlt : ∀ p ∈ before, p.block < W.heap.size := fun p hp => hW.lt p hp
  refine ⟨ds, gs, before, [], pa, pv, hW, hres _ _ _, hargs _ hold, hvars _ hold, World.keptBut_mono (fun p hp => ⟨hp, ?_⟩) (hb.frame (· ∈ before)), fun _ => ?_⟩
  · rw [hps, List.mem_append] at hp
    exact Or.inr hp
  · obtain ⟨_, _, _, _, _, hz, hn⟩ := hW
    refine ⟨hok, _, _, ([] ++ pa) ++ pv, ⟨[] ++ pa, pv, trodAll_append (hargs _ (fun _ _ => rfl)) (hres _ _ _), hvars _ (fun _ _ => rfl), rfl, ?_, ?_⟩, ?_⟩
    · intro b off hp
      have hp' : MemPlace.cell b off ∈ before := by rw [hps]; simpa using hp
      rw [hb.frozen (p := ⟨b, off, none⟩) (hlt _ hp')]
      exact hz b off hp'
    · intro ha
      have := hn ha
      rw [hps] at this
      simpa using this
    · intro p hp _
      rw [hps]
      simpa using hp

end
end Go.Abs
