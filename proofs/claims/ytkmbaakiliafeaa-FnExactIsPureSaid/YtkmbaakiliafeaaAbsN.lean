/- The plain-data layer: operations that make maps, write them, go over them. -/
import Derived.Test.YtkmbaakiliafeaaAbs13
import Derived.Laws.IdiomRangeMap
set_option linter.unusedVariables false
set_option linter.unusedSimpArgs false
namespace Go.Abs

section
variable {P : Program} {E : Env}

/-- The world after block b has been given a new content. -/
def Env.setObj (E : Env) (b : Nat) (o : Obj) : Env := { E with w := { E.w with heap := E.w.heap.setIfInBounds b o } }

theorem setObj_other (w : World) (b b' : Nat) (o : Obj) (h : b' ≠ b) : ({ w with heap := w.heap.setIfInBounds b o } : World).heap[b']? = w.heap[b']? := by
  show (w.heap.setIfInBounds b o)[b']? = _
  rw [Array.getElem?_setIfInBounds_ne (fun e => h e.symm)]
theorem setObj_self (w : World) (b : Nat) (o : Obj) (h : b < w.heap.size) : ({ w with heap := w.heap.setIfInBounds b o } : World).heap[b]? = some o := by
  show (w.heap.setIfInBounds b o)[b]? = _
  rw [Array.getElem?_setIfInBounds_self_of_lt h]
theorem cell_setObj_other (w : World) (b b' i : Nat) (o : Obj) (h : b' ≠ b) : ({ w with heap := w.heap.setIfInBounds b o } : World).cell? ⟨b', i, none⟩ = w.cell? ⟨b', i, none⟩ := by
  unfold World.cell?
  rw [setObj_other w b b' o h]

theorem le_setObj {b : Nat} {o : Obj} (hp : E.pv b) (hS : ∀ i, ¬ E.S b i) : Le E (E.setObj b o) where
  os := rfl
  tape := rfl
  output := rfl
  size := by simp [Env.setObj]
  N := Nat.le_refl _
  β r hr := rfl
  τ r hr := ⟨Nat.le_refl _, fun _ => rfl⟩
  S b i hs := hs
  cell b' i hs := cell_setObj_other E.w b b' i o (fun e => hS i (by subst e; exact hs))
  blk b' hb hp' := setObj_other E.w b b' o (fun e => hp' (by subst e; exact hp))
  newS b i hs := .inl hs
  newP b hp := .inl hp

theorem rep_setObj {H : List O} (h : RepH E H) {r0 : Nat} {o o0 : O} {ob : Obj} (ho : H[r0]? = some o) (hb0 : o.block E r0 = some (E.β r0)) (hb1 : ∀ E' : Env, o0.block E' r0 = some (E'.β r0))
    (hS : ∀ i, ¬ E.S (E.β r0) i) (hrep : RepO (E.setObj (E.β r0) ob) r0 o0) : Le E (E.setObj (E.β r0) ob) ∧ RepH (E.setObj (E.β r0) ob) (H.set r0 o0) := by
  have hl : Le E (E.setObj (E.β r0) ob) := le_setObj (h.pv r0 o _ ho hb0) hS
  refine ⟨hl, h.turn (r0 := r0) (o0 := o0) hl (by simp [Env.setObj, h.N]) (fun r hr => ?_) (fun o' ho' => ?_) (fun r hr hr' => rfl) (fun r o' b hr ho' hb => ?_) (fun b hb => hb) (fun b i hs => ?_) hrep (fun b hb => ?_)⟩
  · rw [List.getElem?_set_ne (fun e => hr e.symm)]
  · rw [List.getElem?_set_self (List.getElem?_eq_some_iff.1 ho).1] at ho'
    exact (Option.some.inj ho').symm
  · refine ⟨setObj_other E.w _ b ob (fun e => ?_), fun i hs => hs⟩
    subst e
    exact hr (h.apart r r0 o' o _ ho' ho hb hb0)
  · have := h.Slt b i hs
    simpa [Env.setObj] using this
  · rw [hb1] at hb
    simp only [Option.some.injEq] at hb
    subst hb
    refine ⟨h.pv r0 o _ ho hb0, by simpa [Env.setObj] using h.lt r0 o _ ho hb0, fun r o' hr ho' hb => hr (h.apart r r0 o' o _ ho' ho hb hb0)⟩

/-- A new object at a new block. -/
theorem rep_newAny {H : List O} (h : RepH E H) {o : O} {ob : Obj} (hb : ∀ E' r, o.block E' r = some (E'.β r)) (hrep : RepO (E.newObj ob) H.length o) : RepH (E.newObj ob) (H ++ [o]) := by
  have hl := le_newObj h ob
  refine h.turn (r0 := H.length) (o0 := o) hl (by simp [Env.newObj, h.N]) (fun r hr => ?_) (fun o ho => ?_) (fun r hr hr' => rfl) (fun r o b hr ho hb => ?_) (fun b hb => .inl hb) (fun b i hs => ?_) hrep (fun b hbb => ?_)
  · by_cases hlt : r < H.length
    · rw [List.getElem?_append_left hlt]
    · rw [List.getElem?_eq_none (by simp; omega), List.getElem?_eq_none (by omega)]
  · simpa using ho.symm
  · exact ⟨Go.heap_alloc_old E.w _ (h.lt r o b ho hb), fun i hs => hs⟩
  · have := h.Slt b i hs
    simp only [Env.newObj, World.size_alloc]; omega
  · have hβ : (E.newObj ob).β H.length = E.w.heap.size := by simp [Env.newObj, h.N]
    rw [hb, hβ] at hbb
    simp only [Option.some.injEq] at hbb
    subst hbb
    refine ⟨.inr rfl, by simp [Env.newObj], fun r o hr ho hb => ?_⟩
    have := h.lt r o _ ho hb
    omega

theorem effOk_makeMap {s : St} {o : Oper} {K : C → List O → Prop} {t : TypeId} (ho : o.op = .makeMap t none)
    (h : match tMap P t with | some (sk, _) => K (.map s.H.length) (s.H ++ [.map sk []]) | none => False) : EffOk P s o K := by
  intro E n a hst
  split at h
  · rename_i sk zd hm
    have hβ : (E.newObj (.map #[] 0)).β s.H.length = E.w.heap.size := by simp [Env.newObj, hst.heap.N]
    unfold Oper.wp execOp
    simp only [ho, Option.map_none, Instr.makeMap, Sem.run_bind, Sem.run_pure, run_newObj, Result.andThen_ok, Oper.upon]
    refine ⟨_, E.newObj (.map #[] 0), _, _, rfl, rfl, ?_, rep_newAny hst.heap (fun _ _ => rfl) ?_, le_newObj hst.heap _, h⟩
    · rw [← hβ]
      exact .map _ (by simp [Env.newObj, hst.heap.N])
    · refine ⟨#[], by rw [hβ]; exact Go.heap_alloc_new E.w _, rfl, fun i x m hx => by simp at hx, fun i hs => ?_⟩
      rw [hβ] at hs
      have := hst.heap.Slt _ i hs
      omega
  · exact h.elim

theorem effOk_insert {s : St} {o : Oper} {K : C → List O → Prop} {t : TypeId} {m k v : Operand} (ho : o.op = .insert t m k v ∨ o.op = .mapUpdate t m k v) (hm : okOperand m = true) (hk : okOperand k = true) (hv : okOperand v = true)
    (h : vcInsert P s t (ev s m) (norm1 s (ev s k)) (norm1 s (ev s v)) (K .top)) : EffOk P s o K := by
  intro E n a hst
  unfold vcInsert at h
  split at h
  · rename_i r kd vd hpm hpk hpv
    split at h
    · rename_i sk es sk' zd hob htm
      obtain ⟨rfl, hko, hvc, hK⟩ := h
      obtain ⟨kt, e, inf, zv, hu, huk, hinf, hzv, hzd⟩ := und_of_tMap htm
      have rm := rd_ev hst m hm
      have rk := rd_norm1 hst (rd_ev hst k hk)
      have rv := rd_norm1 hst (rd_ev hst v hv)
      rw [hpm] at rm
      rw [hpk] at rk
      rw [hpv] at rv
      generalize em : a.eval m = vm at rm
      generalize ek : a.eval k = vk at rk
      generalize evv : a.eval v = vv at rv
      cases rm with
      | map _ hr =>
        cases rk with
        | d _ _ rk =>
          cases rv with
          | d _ _ rv =>
            obtain ⟨arr, h1, h2, h3, h4⟩ := hst.heap.obj r _ hob
            have hlt : E.β r < E.w.heap.size := hst.heap.lt r _ _ hob rfl
            have hvo : vv.oneCell' = true := rv.oneCell hvc
            have run : ∃ arr' : Array MapEntry, (Instr.mapUpdate t (.map (some (E.β r))) vk vv).run P E.w = .ok () { E.w with heap := E.w.heap.setIfInBounds (E.β r) (.map arr' (mset es kd vd).length) } ∧
                arr'.size = (mset es kd vd).length ∧ ∀ (i : Nat) (x : D × D) (m : MapEntry), (mset es kd vd)[i]? = some x → arr'[i]? = some m → keyOk sk x.1 = true ∧ RdD E.w E.S x.1 m.key ∧ RdD E.w E.S x.2 m.val ∧ m.val.oneCell' = true ∧ m.born = i := by
              have hfn := findNow_of (desc := if sk then .string else .int .i64) rfl hko rk es arr.toList 0 (by simpa using h2.symm) (fun i x m hx hm => by
                obtain ⟨a1, a2, _⟩ := h3 i x m hx (by simpa using hm)
                exact ⟨a1, a2⟩)
              rcases hfn with ⟨e1, e2⟩ | ⟨j, p, m', e1, e2, e3, e4⟩
              · have hms := mset_none es kd vd e1
                refine ⟨arr.push { key := vk, val := vv, born := es.length }, ?_, by rw [hms]; simp [h2], fun i x m hx hm => ?_⟩
                · rw [hms]
                  simp [Instr.mapUpdate, run_underlying hu, MapKept.run_getObj_map h1, run_checkKey E.w _ huk, run_findKey huk e2, MapKept.run_setObj_map _ h1]
                · rw [hms] at hx
                  by_cases hi : i < es.length
                  · rw [List.getElem?_append_left hi] at hx
                    rw [Array.getElem?_push_lt (by omega), ← Array.getElem?_eq_getElem] at hm
                    exact h3 i x m hx hm
                  · rw [List.getElem?_append_right (by omega)] at hx
                    have : i = es.length := by
                      have := (List.getElem?_eq_some_iff.1 hx).1
                      simp at this; omega
                    subst this
                    simp at hx
                    subst hx
                    rw [← h2, Array.getElem?_push_size] at hm
                    cases hm
                    exact ⟨hko, rk, rv, hvo, h2⟩
              · obtain ⟨q, hq, hms⟩ := mset_some es kd vd j e1
                rw [e2] at hq; cases hq
                have hj : arr[j]? = some m' := by simpa using e3
                obtain ⟨a0, a1, a2, a3, a4⟩ := h3 j p m' e2 hj
                have hkeep : (Instr.keyThatStays m'.key vk).run P E.w = .ok vk E.w ∨ True := .inr trivial
                have hsame : m'.key = vk := by
                  have hkq : kEq kd p.1 = true := by
                    clear hms hkeep
                    have gen : ∀ (es : List (D × D)) (j : Nat) (p : D × D), mfind es kd = some j → es[j]? = some p → kEq kd p.1 = true := by
                      intro es
                      induction es with
                      | nil => intro j p h; simp [mfind] at h
                      | cons y r ih =>
                        intro j p h hp
                        simp only [mfind] at h
                        split at h
                        · rename_i hk; cases h; simp at hp; subst hp; exact hk
                        · obtain ⟨j', hj', rfl⟩ := Option.map_eq_some_iff.1 h
                          exact ih j' p hj' (by simpa using hp)
                    exact gen es j p e1 e2
                  rcases keyOk_inv hko with ⟨_, s1, rfl⟩ | ⟨_, n1, rfl⟩
                  · generalize hpp : p.1 = p1 at hkq a1 a0
                    rcases keyOk_inv a0 with ⟨_, s2, rfl⟩ | ⟨_, n2, rfl⟩
                    · simp [kEq] at hkq
                      subst hkq
                      generalize hmk : m'.key = mk at a1
                      cases a1; cases rk; rfl
                    · simp [kEq] at hkq
                  · generalize hpp : p.1 = p1 at hkq a1 a0
                    rcases keyOk_inv a0 with ⟨_, s2, rfl⟩ | ⟨_, n2, rfl⟩
                    · simp [kEq] at hkq
                    · simp [kEq] at hkq
                      subst hkq
                      generalize hmk : m'.key = mk at a1
                      cases a1; cases rk; rfl
                have hstay : (Instr.keyThatStays m'.key vk).run P E.w = .ok vk E.w := by
                  rw [hsame]
                  rcases keyOk_inv hko with ⟨_, s1, rfl⟩ | ⟨_, n1, rfl⟩
                  · cases rk; exact MapKept.run_keyThatStays (d := .string) trivial
                  · cases rk; exact MapKept.run_keyThatStays (d := .int .i64) rfl
                have hlen : (mset es kd vd).length = es.length := by rw [hms]; simp
                refine ⟨arr.modify j fun e => { e with key := vk, val := vv }, ?_, by rw [hlen]; simp [h2], fun i x m hx hm => ?_⟩
                · rw [hlen]
                  rw [Nat.zero_add] at e4
                  simp [Instr.mapUpdate, run_underlying hu, MapKept.run_getObj_map h1, run_checkKey E.w _ huk, run_findKey huk e4, hj, hstay, MapKept.run_setObj_map _ h1]
                · rw [hms] at hx
                  rw [Array.getElem?_modify] at hm
                  by_cases hij : j = i
                  · subst hij
                    rw [if_pos rfl, hj] at hm
                    simp at hm
                    subst hm
                    rw [List.getElem?_set_self (List.getElem?_eq_some_iff.1 e2).1] at hx
                    cases hx
                    exact ⟨a0, by rw [← hsame]; exact a1, rv, hvo, a4⟩
                  · rw [if_neg hij] at hm
                    rw [List.getElem?_set_ne hij] at hx
                    exact h3 i x m hx hm
            obtain ⟨arr', hrun, hsz, hall⟩ := run
            obtain ⟨hle, hrep⟩ := rep_setObj hst.heap (o0 := .map sk (mset es kd vd)) (ob := .map arr' (mset es kd vd).length) hob rfl (fun _ => rfl) h4 (by
              refine ⟨arr', setObj_self E.w _ _ hlt, hsz, fun i x m hx hm => ?_, h4⟩
              have hle := le_setObj (E := E) (o := .map arr' (mset es kd vd).length) (hst.heap.pv r _ _ hob rfl) h4
              obtain ⟨b0, b1, b2, b3⟩ := hall i x m hx hm
              exact ⟨b0, b1.le hle, b2.le hle, b3⟩)
            unfold Oper.wp execOp
            rcases ho with ho | ho <;>
              (simp only [ho, em, ek, evv, Sem.run_bind, hrun, Result.andThen_ok, Sem.run_pure, Oper.upon]
               exact ⟨_, E.setObj (E.β r) _, .top, _, rfl, rfl, .top _, hrep, hle, hK⟩)
    · exact h.elim
  · exact h.elim

theorem effOk_range {s : St} {o : Oper} {K : C → List O → Prop} {t : TypeId} {x : Operand} (ho : o.op = .range t x) (hx : okOperand x = true) (ht : tIsMap P t = true) (h : vcRange s (ev s x) K) : EffOk P s o K := by
  intro E n a hst
  obtain ⟨k, e, hu⟩ : ∃ k e, P.underlying t = some (.map k e) := by
    unfold tIsMap at ht
    split at ht
    · exact ⟨_, _, by assumption⟩
    · simp at ht
  unfold vcRange at h
  split at h
  · rename_i r hp
    split at h
    · rename_i sk es hob
      have hv := rd_ev hst x hx
      rw [hp] at hv
      generalize ea : a.eval x = v at hv
      cases hv with
      | map _ hr =>
        obtain ⟨arr, h1, h2, h3, h4⟩ := hst.heap.obj r _ hob
        have hrl : r < s.H.length := (List.getElem?_eq_some_iff.1 hob).1
        have hβ : (E.newObj (.mapIter (some (E.β r)) es.length #[] es.length)).β s.H.length = E.w.heap.size := by simp [Env.newObj, hst.heap.N]
        have hβr : (E.newObj (.mapIter (some (E.β r)) es.length #[] es.length)).β r = E.β r := by
          have : r ≠ E.N := by rw [hst.heap.N]; omega
          simp [Env.newObj, this]
        unfold Oper.wp execOp
        simp only [ho, ea, Instr.range, Sem.run_bind, run_underlying hu, MapKept.run_getObj_map h1, Result.andThen_ok, Sem.run_pure, run_newObj, Oper.upon]
        refine ⟨_, E.newObj (.mapIter (some (E.β r)) es.length #[] es.length), _, _, rfl, rfl, ?_, rep_newAny hst.heap (fun _ _ => rfl) ?_, le_newObj hst.heap _, h⟩
        · rw [← hβ]
          exact .ptr _ _ (by simp [Env.newObj, hst.heap.N])
        · refine ⟨hrl, by rw [hβ, hβr]; exact Go.heap_alloc_new E.w _, fun i hs => ?_⟩
          rw [hβ] at hs
          have := hst.heap.Slt _ i hs
          omega
    · exact h.elim
  · exact h.elim

theorem run_choose (n : Nat) (hn : 0 < n) (w : World) : ∃ j w1, j < n ∧ (w1 = w ∨ w1 = w.drew) ∧ (choose (.mapNext n)).run P w = .ok j w1 := by
  by_cases hf : n ≤ 1
  · exact ⟨0, w, by omega, .inl rfl, by simp [choose, Sem.run, Question.forced, hf]⟩
  · exact ⟨_, w.drew, Nat.mod_lt _ (by omega), .inr rfl, by
      simp only [choose, Sem.run, Question.forced, decide_eq_true_eq, hf, if_false, Question.cut]
      rfl⟩

theorem effOk_next {s : St} {o : Oper} {K : C → List O → Prop} {x : Operand} (ho : o.op = .next x false) (hx : okOperand x = true) (h : vcNext s (ev s x) K) : EffOk P s o K := by
  intro E n a hst
  unfold vcNext at h
  split at h
  · rename_i r hp
    split at h
    · rename_i m since c0 seen hob
      split at h
      · rename_i sk es hom
        obtain ⟨rfl, rfl, hend, hgo⟩ := h
        have hv := rd_ev hst x hx
        rw [hp] at hv
        generalize ea : a.eval x = v at hv
        cases hv with
        | ptr _ _ hr =>
          obtain ⟨h0, h1, h2⟩ := hst.heap.obj r _ hob
          obtain ⟨arr, g1, g2, g3, g4⟩ := hst.heap.obj m _ hom
          have hlt : E.β r < E.w.heap.size := hst.heap.lt r _ _ hob rfl
          have born : ∀ i (hi : i < arr.size), arr[i].born = i := fun i hi => (g3 i es[i] arr[i] (List.getElem?_eq_getElem (by omega)) (Array.getElem?_eq_getElem hi)).2.2.2.2
          have hget : (getObj (E.β r)).run P E.w = .ok (.mapIter (some (E.β m)) es.length seen.toArray es.length) E.w := by simp [getObj, Sem.run, h1]
          have hold : ∀ y ∈ arr.toList, y.born < es.length := fun y hy => by
            obtain ⟨i, hi, rfl⟩ := List.getElem_of_mem hy
            simp only [Array.length_toList] at hi
            rw [Array.getElem_toList, born i hi]; omega
          have htest := next_test_false seen.toArray arr es.length es.length hold (Nat.le_refl _)
          have hrun : ((∀ i, i < es.length → i ∈ seen) ∧ (Instr.next (.pointer (some ⟨E.β r, 0, none⟩)) false o.type).run P E.w = .ok (.tuple #[.bool false]) E.w) ∨
              ∃ i, ∃ hi : i < arr.size, i ∉ seen ∧ ∃ w1, (w1 = E.w ∨ w1 = E.w.drew) ∧ (Instr.next (.pointer (some ⟨E.β r, 0, none⟩)) false o.type).run P E.w =
                .ok (.tuple #[.bool true, arr[i].key, arr[i].val]) { w1 with heap := w1.heap.setIfInBounds (E.β r) (.mapIter (some (E.β m)) es.length (seen ++ [i]).toArray es.length) } := by
            simp only [Instr.next, Sem.run_bind, hget, MapKept.run_getObj_map g1, Result.andThen_ok, htest, Bool.false_eq_true, if_false]
            have hmem : ∀ y ∈ (Array.filter (fun e => !seen.toArray.contains e.born) arr), y.born < es.length ∧ ∃ i, ∃ hi : i < arr.size, y = arr[i] ∧ i ∉ seen := fun y hy => by
              rw [Array.mem_filter] at hy
              obtain ⟨hy1, hy2⟩ := hy
              obtain ⟨i, hi, rfl⟩ := Array.getElem_of_mem hy1
              refine ⟨by rw [born i hi]; omega, i, hi, rfl, fun hs => ?_⟩
              rw [born i hi] at hy2
              simp [hs] at hy2
            have hall : (Array.filter (fun e => !seen.toArray.contains e.born) arr).size = 0 → ∀ i, i < es.length → i ∈ seen := fun hz i hi => by
              apply Classical.byContradiction
              intro hns
              have hia : i < arr.size := by omega
              have : arr[i] ∈ (Array.filter (fun e => !seen.toArray.contains e.born) arr) := by
                rw [Array.mem_filter]
                refine ⟨Array.getElem_mem hia, ?_⟩
                rw [born i hia]; simp [hns]
              rw [Array.eq_empty_of_size_eq_zero hz] at this
              simp at this
            generalize Array.filter (fun e => !seen.toArray.contains e.born) arr = L at hmem hall ⊢
            have f1 : L.filter (fun y => decide (y.born < es.length)) = L := Array.filter_eq_self.2 (fun y hy => by simpa using (hmem y hy).1)
            have f2 : L.filter (fun y => decide (y.born ≥ es.length)) = #[] := by
              rw [Array.filter_eq_empty_iff]
              intro y hy
              have := (hmem y hy).1
              simp
              omega
            simp only [f1, f2, Array.append_empty]
            by_cases hz : L.size = 0
            · left
              have hLe : L = #[] := Array.eq_empty_of_size_eq_zero hz
              refine ⟨hall hz, ?_⟩
              subst hLe
              simp [choose, Sem.run, Question.forced]
            · right
              have hne : L.isEmpty = false := by simp [Array.isEmpty, hz]
              simp only [hne, Bool.false_eq_true, if_false, Array.empty_append, Array.size_map]
              obtain ⟨j, w1, hj, hw1, hch⟩ := run_choose (P := P) L.size (by omega) E.w
              obtain ⟨_, i, hi, hLi, hns⟩ := hmem L[j] (Array.getElem_mem hj)
              have h1' : w1.heap[E.β r]? = some (.mapIter (some (E.β m)) es.length seen.toArray es.length) := by
                rcases hw1 with rfl | rfl <;> exact h1
              refine ⟨i, hi, hns, w1, hw1, ?_⟩
              simp only [hch, Result.andThen_ok, Array.getElem?_map, Array.getElem?_eq_getElem hj, Option.map_some, Sem.run_bind, setObj, Sem.run, h1', hLi]
              simp [born i hi]
          rcases hrun with ⟨hall, hrun⟩ | ⟨i, hi, hns, w1, hw1, hrun⟩
          · unfold Oper.wp execOp
            simp only [ho, ea, Sem.run_bind, hrun, Result.andThen_ok, Sem.run_pure, Oper.upon]
            refine ⟨_, E, _, _, rfl, rfl, .tup _ _ rfl (fun i c u hc hu => ?_), hst.heap, Le.refl E, hend hall⟩
            match i with
            | 0 => simp at hc hu; subst hc hu; exact .d _ _ (.bool _)
            | i + 1 => simp at hc
          · have hie : i < es.length := by omega
            have hes : es[i]? = some es[i] := List.getElem?_eq_getElem hie
            obtain ⟨_, k1, k2, _, _⟩ := g3 i es[i] arr[i] hes (Array.getElem?_eq_getElem hi)
            have hE1 : ∃ E1, E1.w = w1 ∧ Le E E1 ∧ RepH E1 s.H ∧ E1.β = E.β := by
              rcases hw1 with rfl | rfl
              · exact ⟨E, rfl, Le.refl E, hst.heap, rfl⟩
              · exact ⟨E.drew, rfl, le_drew E, rep_drew hst.heap, rfl⟩
            obtain ⟨E1, rfl, hl1, hr1, hβ1⟩ := hE1
            have hlt1 : E.β r < E1.w.heap.size := Nat.lt_of_lt_of_le hlt hl1.size
            obtain ⟨hle, hrep⟩ := rep_setObj hr1 (o0 := .iter m es.length es.length (seen ++ [i])) (ob := .mapIter (some (E.β m)) es.length (seen ++ [i]).toArray es.length) hob rfl (fun _ => rfl) (fun i hs => (hr1.obj r _ hob).2.2 i hs)
              ⟨h0, by
                show (E1.w.heap.setIfInBounds (E1.β r) _)[E1.β r]? = some (.mapIter (some (E1.β m)) _ _ _)
                rw [hβ1]; exact setObj_self E1.w _ _ hlt1, fun i hs => (hr1.obj r _ hob).2.2 i hs⟩
            rw [hβ1] at hle hrep
            unfold Oper.wp execOp
            simp only [ho, ea, Sem.run_bind, hrun, Result.andThen_ok, Sem.run_pure, Oper.upon]
            refine ⟨_, E1.setObj (E.β r) _, _, _, rfl, rfl, .tup _ _ rfl (fun j c u hc hu => ?_), hrep, hl1.trans hle, hgo i es[i] hes hns⟩
            match j with
            | 0 => simp at hc hu; subst hc hu; exact .d _ _ (.bool _)
            | 1 => simp at hc hu; subst hc hu; exact .d _ _ ((k1.le hl1).le hle)
            | 2 => simp at hc hu; subst hc hu; exact .d _ _ ((k2.le hl1).le hle)
            | j + 3 => simp at hc
      · exact h.elim
    · exact h.elim
  · exact h.elim
end
end Go.Abs
