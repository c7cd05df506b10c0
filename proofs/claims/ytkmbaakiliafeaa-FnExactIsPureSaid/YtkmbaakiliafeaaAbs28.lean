/- The plain-data layer, part 28: the rewriting set of the walk, kept ready; what of a walk's goal is looked at. -/
import Derived.Test.YtkmbaakiliafeaaAbs27
set_option linter.unusedVariables false
set_option linter.unusedSimpArgs false
namespace Go.Abs

section
variable {P : Program} {f : FuncId} {n n0 : Nat} {R : C → List O → Prop} {rs rs' : List ResultVar} {k : List Item} {s s' : St} {ops : Array Oper} {os : List Oper} {KS : St → Prop}
  {o : Oper} {K : C → Prop} {KH : C → List O → Prop} {t u : TypeId} {p p' x x' y y' i i' : C}

@[congr] theorem run_cg {fuel : Nat} (h : s = s') : run P f n n0 R rs fuel k s = run P f n n0 R rs fuel k s' := by rw [h]
@[congr] theorem vcR_cg (h : s = s') : vcR P n ops KS os s = vcR P n ops KS os s' := by rw [h]
@[congr] theorem vcD_cg (h : s = s') : vcD P n ops KS os s = vcD P n ops KS os s' := by rw [h]
@[congr] theorem AW_cg (h : s = s') : AW P f n n0 R k s = AW P f n n0 R k s' := by rw [h]
@[congr] theorem br_cg {b b' : Bool} {F G : Unit → Prop} (h : b = b') : br b F G = br b' F G := by rw [h]
@[congr] theorem idx_cg {α : Type} {l l' : List α} {j j' : Nat} {Q : α → Prop} (h : l = l') (hj : j = j') : idx l j Q = idx l' j' Q := by rw [h, hj]
@[congr] theorem ACalls_cg {a a' : List C} {H H' : List O} (h : a = a') (hH : H = H') : ACalls P f a H KH = ACalls P f a' H' KH := by rw [h, hH]
@[congr] theorem CallQ_cg {a a' : List C} {H H' : List O} (h : a = a') (hH : H = H') : CallQ P f a H K = CallQ P f a' H' K := by rw [h, hH]
@[congr] theorem vcStore_cg {K : List O → Prop} (hp : p = p') (hx : x = x') : vcStore P s t p x K = vcStore P s t p' x' K := by rw [hp, hx]
@[congr] theorem vcAppend_cg (hx : x = x') (hy : y = y') : vcAppend P s t u x y KH = vcAppend P s t u x' y' KH := by rw [hx, hy]
@[congr] theorem vcMake_cg (hx : x = x') : vcMake P s t x KH = vcMake P s t x' KH := by rw [hx]
@[congr] theorem fillA_cg {pl : List (Nat × Nat)} {K : List C → Prop} {ps : List (Nat × Operand)} {cs cs' : List C} (h : cs = cs') : fillA pl s K ps cs = fillA pl s K ps cs' := by rw [h]
@[congr] theorem vcRet_cg (hr : rs = rs') (h : s = s') : vcRet P rs n0 R s = vcRet P rs' n0 R s' := by rw [hr, h]
@[congr] theorem resAll_cg {K : List C → Prop} {acc acc' : List C} (h : acc = acc') : resAll P s K rs acc = resAll P s K rs acc' := by rw [h]
@[congr] theorem vcPart_cg {cs cs' : List C} {j j' : Nat} (h : cs = cs') (hj : j = j') : vcPart P cs j u K = vcPart P cs' j' u K := by rw [h, hj]
@[congr] theorem vcPartD_cg {cs cs' : List D} {j j' : Nat} (h : cs = cs') (hj : j = j') : vcPartD P cs j u K = vcPartD P cs' j' u K := by rw [h, hj]
@[congr] theorem vcLoad_cg (hp : p = p') : vcLoad P s t p K = vcLoad P s t p' K := by rw [hp]
@[congr] theorem vcFieldAddr_cg {j : Nat} (hp : p = p') : vcFieldAddr P t j p K = vcFieldAddr P t j p' K := by rw [hp]
@[congr] theorem vcField_cg {j : Nat} (hx : x = x') : vcField P s t j x K = vcField P s t j x' K := by rw [hx]
@[congr] theorem vcIndexAddr_cg (hx : x = x') (hi : i = i') : vcIndexAddr P s t x i K = vcIndexAddr P s t x' i' K := by rw [hx, hi]
@[congr] theorem vcBin_cg {op : BinOp} (hx : x = x') (hy : y = y') : vcBin P s op t x y K = vcBin P s op t x' y' K := by rw [hx, hy]
@[congr] theorem vcSlice_cg {lo lo' hi hi' : Option C} (hx : x = x') (h1 : lo = lo') (h2 : hi = hi') : vcSlice P s t x lo hi K = vcSlice P s t x' lo' hi' K := by rw [hx, h1, h2]
@[congr] theorem vcLen_cg (hx : x = x') : vcLen P s t x K = vcLen P s t x' K := by rw [hx]

@[congr] theorem vcLookup_cg {ok : Bool} (hx : x = x') (hi : i = i') : vcLookup P s t x i ok K = vcLookup P s t x' i' ok K := by rw [hx, hi]
@[congr] theorem vcEntry_cg (hx : x = x') : vcEntry s x K = vcEntry s x' K := by rw [hx]
@[congr] theorem vcInsert_cg {K : List O → Prop} (hp : p = p') (hx : x = x') (hy : y = y') : vcInsert P s t p x y K = vcInsert P s t p' x' y' K := by rw [hp, hx, hy]
@[congr] theorem vcRange_cg (hx : x = x') : vcRange s x KH = vcRange s x' KH := by rw [hx]
@[congr] theorem vcNext_cg (hx : x = x') : vcNext s x KH = vcNext s x' KH := by rw [hx]
@[congr] theorem anyNext_cg {es es' : List (D × D)} {l l' : List Nat} {e : Unit → Prop} {g : Nat → D × D → Prop} (h : es = es') (hl : l = l') : anyNext es l e g = anyNext es' l' e g := by rw [h, hl]

theorem run_region {fuel id : Nat} {l : List Oper} {σ : List (Nat × C)} {H : List O} : run P f n n0 R rs (fuel + 1) (.code (.region id (List.toArray l) false) :: k) ⟨σ, H⟩ = vcR P n (List.toArray l) (run P f n n0 R rs fuel k) l ⟨σ, H⟩ := by
  rw [run]
theorem run_draw {fuel id : Nat} {l : List Oper} {σ : List (Nat × C)} {H : List O} : run P f n n0 R rs (fuel + 1) (.code (.region id (List.toArray l) true) :: k) ⟨σ, H⟩ = vcD P n (List.toArray l) (run P f n n0 R rs fuel k) l ⟨σ, H⟩ := by
  rw [run]
theorem run_loop {fuel : Nat} {c : Code} {σ : List (Nat × C)} {H : List O} : run P f n n0 R rs (fuel + 1) (.code (.loop c) :: k) ⟨σ, H⟩ = AW P f n n0 R (.code (.loop c) :: k) ⟨σ, H⟩ := by
  rw [run] <;> simp
theorem run_inLoop {fuel : Nat} {c : Code} {σ : List (Nat × C)} {H : List O} : run P f n n0 R rs (fuel + 1) (.inLoop c :: k) ⟨σ, H⟩ = AW P f n n0 R (.inLoop c :: k) ⟨σ, H⟩ := by
  rw [run] <;> simp
/-- On behind the block that is left. -/
def exK (P : Program) (f : FuncId) (n n0 : Nat) (R : C → List O → Prop) (rs : List ResultVar) (fuel j : Nat) (k : List Item) (s : St) : Prop :=
  match Go.exitTo j k with
  | some k' => run P f n n0 R rs fuel k' s
  | none => False
@[congr] theorem exK_cg {fuel j : Nat} (h : s = s') : exK P f n n0 R rs fuel j k s = exK P f n n0 R rs fuel j k s' := by rw [h]
theorem run_exit {fuel j : Nat} {σ : List (Nat × C)} {H : List O} : run P f n n0 R rs (fuel + 1) (.code (.exit j) :: k) ⟨σ, H⟩ = exK P f n n0 R rs fuel j k ⟨σ, H⟩ := by
  rw [run]; rfl
theorem exK_code {fuel j : Nat} {c : Code} : exK P f n n0 R rs fuel j (.code c :: k) s = exK P f n n0 R rs fuel j k s := rfl
theorem exK_inLoop {fuel j : Nat} {c : Code} : exK P f n n0 R rs fuel j (.inLoop c :: k) s = exK P f n n0 R rs fuel j k s := rfl
theorem exK_block {fuel j j' : Nat} : exK P f n n0 R rs fuel j (.inBlock j' :: k) s = if j' = j then run P f n n0 R rs fuel k s else exK P f n n0 R rs fuel j k s := by
  unfold exK
  rw [exitTo.eq_1]
  by_cases h : j' = j
  · simp [h]
  · rw [if_neg (by simpa using h), if_neg h]
end

attribute [go_sem ↓] vcEff.eq_1 vcPure.eq_1 vcPure.eq_2 vcPure.eq_3 vcPure.eq_4 vcPure.eq_5 vcPure.eq_6 vcPure.eq_7 vcPure.eq_8 vcPure.eq_9 vcPure.eq_10 vcPure_not
attribute [go_sem ↓] vcPure_neg vcPure.eq_12 vcPure.eq_13 vcPure.eq_14 vcPure.eq_15 vcPure.eq_16 vcPure.eq_17 vcPure.eq_18 vcPure.eq_19 vcPure.eq_20 resOne.eq_1 resOne.eq_2
attribute [go_sem ↓] vcElems.eq_1 vcElems.eq_2 vcQ.eq_1 kR.eq_1 kAt.eq_1 kD.eq_1 kSnoc.eq_1 kRet.eq_1 kNorm.eq_1 kAgg.eq_1 kCons.eq_1 kSl.eq_1
attribute [go_sem ↓] kSlQ.eq_1 app_eq
attribute [go_sem] run_region run_draw run_loop run_inLoop run_exit exK_code exK_inLoop exK_block  run.eq_2 run.eq_3 run.eq_4 run.eq_5 run.eq_6 run.eq_7 run.eq_8  run.eq_10
attribute [go_sem]     vcR.eq_1 vcR.eq_2 vcD.eq_1 vcD.eq_2 vcBin.eq_1 vcRet.eq_1 resAll.eq_1 resAll.eq_2
attribute [go_sem] vcFieldAddr.eq_1 vcField.eq_1 vcLoad.eq_1 vcLoad.eq_2 vcLoad.eq_3 vcLoad.eq_4 vcPart.eq_1 vcPartD.eq_1 vcLen.eq_1 vcStore.eq_1 vcAppend.eq_1 fillA.eq_1
attribute [go_sem] fillA.eq_2 vcIndexAddr.eq_def vcSlice.eq_def vcMake.eq_def allOk0 allOk1 allOk2 allOk3 allOk4 allOk5 allOk6 allOk7
attribute [go_sem] br_true br_false Nat.zero_add Nat.add_zero decide_true decide_false and_self decide_eq_true_eq Bool.false_eq_true Bool.true_eq_false Bool.not_true Bool.not_false
attribute [go_sem] Bool.true_and Bool.and_true Bool.and_self Bool.true_or Bool.false_or Bool.or_true Bool.or_false Bool.and_false Bool.false_and not_false_eq_true not_true_eq_false Nat.le_refl
attribute [go_sem] Bool.decide_eq_true idx_map idx_zero idx_succ eltLen_eq toDs_map norm_map dataCells_map drop_map take_map lt_self Tm.enc_len
attribute [go_sem] Tm.enc_at0 Tm.enc_pt0 Tm.enc_at1 Tm.enc_pt1 Tm.enc_at2 Tm.enc_pt2 Tm.enc_at3 Tm.enc_pt3 Gl.enc_len Gl.enc_at0 Gl.enc_pt0 Gl.enc_at1
attribute [go_sem] Gl.enc_pt1 Gl.enc_at2 Gl.enc_pt2 Gl.enc_at3 Gl.enc_pt3 Pf.enc_len Pf.enc_at0 Pf.enc_pt0 Pf.enc_at1 Pf.enc_pt1 Pf.enc_at2 Pf.enc_pt2
attribute [go_sem] Pf.enc_at3 Pf.enc_pt3 Fc.enc_len Fc.enc_at0 Fc.enc_pt0 Fc.enc_at1 Fc.enc_pt1 Bd.enc_len Bd.enc_at0 Bd.enc_pt0 Bd.enc_at1 Bd.enc_pt1
attribute [go_sem] Bd.enc_at2 Bd.enc_pt2 Bd.enc_at3 Bd.enc_pt3 Bd.enc_at4 Bd.enc_pt4 Bd.enc_st0 Vk.enc_len Vk.enc_at0 Vk.enc_pt0 Vk.enc_at1 Vk.enc_pt1
attribute [go_sem] Mk.enc_len Mk.enc_at0 Mk.enc_pt0 Mk.enc_at1 Mk.enc_pt1 Sta.enc_len Sta.enc_at0 Sta.enc_pt0 Sta.enc_at1 Sta.enc_pt1 Sta.enc_at2 Sta.enc_pt2
attribute [go_sem] Sta.enc_at3 Sta.enc_pt3 Sta.enc_at4 Sta.enc_pt4 Bra.enc_len Bra.enc_at0 Bra.enc_pt0 Bra.enc_at1 Bra.enc_pt1 Bra.enc_at2 Bra.enc_pt2 Bra.enc_at3
attribute [go_sem] Bra.enc_pt3 Bra.enc_at4 Bra.enc_pt4 Bra.enc_at5 Bra.enc_pt5 Bra.enc_st0 Stm.enc_len Stm.enc_at0 Stm.enc_pt0 Stm.enc_at1 Stm.enc_pt1 Stm.enc_at2
attribute [go_sem] Stm.enc_pt2 Stm.enc_at3 Stm.enc_pt3 Stm.enc_at4 Stm.enc_pt4 Stm.enc_at5 Stm.enc_pt5 Stm.enc_at6 Stm.enc_pt6 Stm.enc_at7 Stm.enc_pt7 Stm.enc_at8
attribute [go_sem] Stm.enc_pt8 Stm.enc_at9 Stm.enc_pt9 Stm.enc_at10 Stm.enc_pt10 Stm.enc_at11 Stm.enc_pt11 Stm.enc_st0 Stm.enc_st1 Stm.enc_st2 Rl.enc_len Rl.enc_at0
attribute [go_sem] Rl.enc_pt0 Rl.enc_at1 Rl.enc_pt1 Rl.enc_at2 Rl.enc_pt2 Rl.enc_at3 Rl.enc_pt3 Rl.enc_at4 Rl.enc_pt4 Rl.enc_at5 Rl.enc_pt5 Rl.enc_at6
attribute [go_sem] Rl.enc_pt6 Rl.enc_st0 Pg.enc_len Pg.enc_at0 Pg.enc_pt0 Ru.enc_len Ru.enc_at0 Ru.enc_pt0 Ru.enc_at1 Ru.enc_pt1 Ru.enc_at2 Ru.enc_pt2
attribute [go_sem] Ru.enc_at3 Ru.enc_pt3 Ru.enc_at4 Ru.enc_pt4 Ru.enc_at5 Ru.enc_pt5 Ru.enc_st0 encI_len encS_len encB_len encL_len ev
attribute [go_sem] Abs.get Abs.put okDst okOperand Abs.Value.flat cv cv1 norm1 norm single C.refsLtT C.refsLt
attribute [go_sem] C.refsLt1 O.refsLt okCells cellsOf dataCells toDs C.cell D.cell cvD cvDs  mkS
attribute [go_sem] List.length List.range List.range.loop List.zip List.zipWith List.map List.take List.drop List.all List.any List.getD List.set
attribute [go_sem] ne_eq List.nil_append List.cons_append List.append_nil List.getElem?_cons_zero List.getElem?_cons_succ List.getElem?_map List.length_map List.length_append List.forall_mem_map Option.getD_some Option.getD_none
attribute [go_sem] Option.map_some Option.map_none Option.bind_some Option.bind_none Option.all_some Option.all_none List.getElem?_toArray List.size_toArray List.toList_toArray List.all_toArray List.length_nil List.length_cons
attribute [go_sem] beq_self_eq_true bne_self_eq_false implies_true Int.toNat_natCast Int.natCast_nonneg Int.lt_irrefl Int.natCast_add gt_iff_lt ge_iff_le beq_iff_eq Bool.beq_eq_decide_eq List.drop_zero
attribute [go_sem] take_all drop_all List.mem_cons List.not_mem_nil forall_eq_or_imp forall_eq false_or or_false false_implies true_and and_true
attribute [go_sem ↓] vcPure.eq_21
attribute [go_sem] vcLookup.eq_def vcEntry.eq_def vcInsert.eq_def vcRange.eq_def vcNext.eq_def mget.eq_1 mget.eq_2 mset.eq_1 mset.eq_2 kEq.eq_1 kEq.eq_2 keyOk.eq_1 keyOk.eq_2
attribute [go_sem] Tm.enc_tk0 Gl.enc_tk0 Pf.enc_tk0 Fc.enc_tk0 Bd.enc_tk0 Vk.enc_tk0 Mk.enc_tk0 Sta.enc_tk0 Bra.enc_tk0 Bra.enc_tk5 Stm.enc_tk0 Rl.enc_tk0 Pg.enc_tk0 Ru.enc_tk0 Ru.enc_tk2
end Go.Abs
