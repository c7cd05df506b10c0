/- The plain-data layer, part 12: stores, literals of slices, make. -/
import Derived.Test.YtkmbaakiliafeaaAbs11
namespace Go.Abs

section
variable {P : Program} {E : Env}

theorem toDs_rd {s : St} {n : Nat} {a : Act} (hst : RepSt E n s a) {c : C} {v : Value} (hr : Rd E c v) (hok : okCells c = true) {ds : List D} (h : dataCells s c = some ds) :
    v.cells.size = ds.length ∧ ∀ (i : Nat) (d : D) (u : Value), ds[i]? = some d → v.cells[i]? = some u → RdD E.w E.S d u ∧ u.oneCell' = true := by
  have main : toDs ((cellsOf c).map (norm1 s)) = some ds → v.cells.size = ds.length ∧ ∀ (i : Nat) (d : D) (u : Value), ds[i]? = some d → v.cells[i]? = some u → RdD E.w E.S d u ∧ u.oneCell' = true := by
    intro h
    obtain ⟨h1, h2⟩ := cellsOf_rd hr hok
    have e := toDs_get h
    have hl := congrArg List.length e
    simp at hl
    refine ⟨by omega, fun i d u hd hu => ?_⟩
    have h3 : ((cellsOf c).map (norm1 s))[i]? = some (.d d) := by rw [e]; simp [hd]
    simp only [List.getElem?_map, Option.map_eq_some_iff] at h3
    obtain ⟨c0, h4, h5⟩ := h3
    obtain ⟨h6, h7⟩ := h2 i c0 u h4 hu
    have := rd_norm1 hst h6
    rw [h5] at this
    cases this with
    | d _ _ hd => exact ⟨hd, h7⟩
  unfold dataCells at h
  split at h
  · rename_i ds'
    simp only [Option.some.injEq] at h
    subst h
    cases hr with
    | d _ _ hd =>
      cases hd with
      | agg _ vs hl h1 hr => exact ⟨by simpa [Value.cells] using hl, fun i d u hd hu => ⟨hr i d u hd hu, h1 i u hu⟩⟩
  · exact main h

theorem setRow_cells {arr : Array Value} {off : Nat} {vs : Array Value} (h : off + vs.size ≤ arr.size) :
    (arr.toList.take off ++ vs.toList ++ arr.toList.drop (off + vs.toList.length)).toArray.size = arr.size ∧
    ∀ k, (arr.toList.take off ++ vs.toList ++ arr.toList.drop (off + vs.toList.length)).toArray[k]? = if off ≤ k ∧ k < off + vs.size then vs[k - off]? else arr[k]? := by
  refine ⟨by simp; omega, fun k => ?_⟩
  rw [List.getElem?_toArray, List.append_assoc]
  by_cases h1 : k < off
  · rw [List.getElem?_append_left (by simp; omega), List.getElem?_take, if_pos h1, if_neg (by omega), Array.getElem?_toList]
  · rw [List.getElem?_append_right (by simp; omega)]
    have hmin : min off arr.size = off := by omega
    simp only [List.length_take, Array.length_toList, hmin]
    by_cases h2 : k < off + vs.size
    · rw [List.getElem?_append_left (by simp; omega), if_pos (by omega), Array.getElem?_toList]
    · rw [List.getElem?_append_right (by simp; omega), if_neg (by omega), List.getElem?_drop, Array.getElem?_toList]
      congr 1
      simp; omega

theorem run_storeAt {t : TypeId} {n b off : Nat} {e : TypeId} {arr : Array Value} {v : Value} (hn : tSize P t = some n) (hv : v.cells.size = n) (h1 : ∀ (i : Nat) (u : Value), v.cells[i]? = some u → u.oneCell' = true)
    (hb : E.w.heap[b]? = some (.cells arr e (0, 0))) (hle : off + n ≤ arr.size) :
    (Instr.storeAt t (.pointer (some ⟨b, off, none⟩)) v).run P E.w = .ok () (E.w.setRow b (arr.toList.take off ++ v.cells.toList ++ arr.toList.drop (off + v.cells.toList.length)).toArray) := by
  have hst := run_storeCells_at P b off e v.cells.toList 0 arr E.w hb (by simp; omega) (fun u hu => by
    obtain ⟨i, hi⟩ := List.mem_iff_getElem?.1 hu
    exact h1 i u (by simpa using hi))
  simp only [Nat.add_zero] at hst
  simp [Instr.storeAt, Instr.sureAddr, storeVar, run_sizeOf hn, hv, hst]

theorem effOk_store {s : St} {o : Oper} {K : C → List O → Prop} {t : TypeId} {p x : Operand} (ho : o.op = .store t p x) (hp : okOperand p = true) (hx : okOperand x = true)
    (h : vcStore P s t (ev s p) (ev s x) (K .top)) : EffOk P s o K := by
  unfold vcStore at h
  split at h
  · rename_i n hn
    obtain ⟨hok, hlen, h⟩ := h
    intro E ns a hst
    have hfx := cellsOf_rd (rd_ev hst x hx) hok
    have hone : ∀ (i : Nat) (u : Value), (a.eval x).cells[i]? = some u → u.oneCell' = true := fun i u hu => by
      have hi : i < (cellsOf (ev s x)).length := by rw [← hfx.1]; exact (Array.getElem?_eq_some_iff.1 hu).1
      exact (hfx.2 i _ u (List.getElem?_eq_getElem hi) hu).2
    have hpv := rd_ev hst p hp
    split at h
    · rename_i r off hpe
      split at h
      · rename_i cs hr
        obtain ⟨hle, hk⟩ := h
        rw [hpe] at hpv
        generalize hg : a.eval p = pv at hpv
        cases hpv with
        | ptr _ _ hrN =>
          obtain ⟨arr, e, h1, h2, h3, h4⟩ := hst.heap.obj r _ hr
          have hrun := run_storeAt (P := P) hn (by rw [hfx.1, hlen]) hone h1 (off := off) (by omega)
          generalize hnew : (arr.toList.take off ++ (a.eval x).cells.toList ++ arr.toList.drop (off + (a.eval x).cells.toList.length)).toArray = arr' at hrun
          have hcells := setRow_cells (arr := arr) (off := off) (vs := (a.eval x).cells) (by rw [hfx.1, hlen]; omega)
          rw [hnew] at hcells
          have hl0 : Le E (E.setRow (E.β r) arr') := le_setRow (hst.heap.pv r _ _ hr rfl) h4
          obtain ⟨hl, hH⟩ := rep_setRow hst.heap (o0 := .box (cs.take off ++ cellsOf (ev s x) ++ cs.drop (off + n))) (arr := arr') hr rfl (fun _ => rfl) h4 (by
            refine ⟨arr', e, setRow_heap _ _ _ _ _ _ h1, by rw [hcells.1, h2]; simp; omega, fun i c v hc hv => ?_, h4⟩
            rw [hcells.2] at hv
            rw [List.append_assoc] at hc
            by_cases hi : off ≤ i ∧ i < off + (a.eval x).cells.size
            · rw [if_pos hi] at hv
              rw [List.getElem?_append_right (by simp; omega), List.getElem?_append_left (by simp; rw [← hfx.1]; omega)] at hc
              simp only [List.length_take] at hc
              rw [show min off cs.length = off by omega] at hc
              obtain ⟨k1, k2⟩ := hfx.2 _ c v hc hv
              exact ⟨k1.le hl0, k2⟩
            · rw [if_neg hi] at hv
              rw [hfx.1, hlen] at hi
              have : cs[i]? = some c := by
                by_cases hio : i < off
                · rw [List.getElem?_append_left (by simp; omega), List.getElem?_take, if_pos hio] at hc; exact hc
                · rw [List.getElem?_append_right (by simp; omega), List.getElem?_append_right (by simp; omega), List.getElem?_drop] at hc
                  simp only [List.length_take] at hc
                  rw [show off + n + (i - min off cs.length - (cellsOf (ev s x)).length) = i by omega] at hc
                  exact hc
              obtain ⟨k1, k2⟩ := h3 i c v this hv
              exact ⟨k1.le hl0, k2⟩)
          unfold Oper.wp execOp
          simp only [ho, hg, Sem.run_bind, hrun, Result.andThen_ok, Sem.run_pure, Oper.upon]
          exact ⟨undef, _, _, _, rfl, rfl, .top _, hH, hl, hk⟩
      · exact h.elim
    · rename_i r z i off hpe
      split at h
      · rename_i z' e xs ds hr hds
        obtain ⟨rfl, hi, hle, hdl, hk⟩ := h
        rw [hpe] at hpv
        generalize hg : a.eval p = pv at hpv
        cases hpv with
        | eptr _ _ _ _ hrN =>
          obtain ⟨arr, h1, h2, h3, h3', h4, h5⟩ := hst.heap.obj r _ hr
          obtain ⟨hd1, hd2⟩ := toDs_rd hst (rd_ev hst x hx) hok hds
          have hiz : i * z + z ≤ xs.length * z := by
            have : (i + 1) * z ≤ xs.length * z := Nat.mul_le_mul_right _ hi
            rw [Nat.add_mul] at this; omega
          have hrun := run_storeAt (P := P) hn (by rw [hfx.1, hlen]) hone h1 (off := i * z + off) (by omega)
          generalize hnew : (arr.toList.take (i * z + off) ++ (a.eval x).cells.toList ++ arr.toList.drop (i * z + off + (a.eval x).cells.toList.length)).toArray = arr' at hrun
          have hcells := setRow_cells (arr := arr) (off := i * z + off) (vs := (a.eval x).cells) (by rw [hfx.1, hlen]; omega)
          rw [hnew] at hcells
          have hl0 : Le E (E.setRow (E.β r) arr') := le_setRow (hst.heap.pv r _ _ hr rfl) h5
          have hxi : xs[i]? = some (xs.getD i []) := by rw [List.getD_eq_getElem?_getD, List.getElem?_eq_getElem hi]; rfl
          have hxl : (xs.getD i []).length = z := h3 _ (List.mem_of_getElem? hxi)
          generalize xs.getD i [] = y0 at hk hxl hxi
          obtain ⟨hl, hH⟩ := rep_setRow hst.heap (o0 := .row z e (xs.set i (y0.take off ++ ds ++ y0.drop (off + n)))) (arr := arr') hr rfl (fun _ => rfl) h5 (by
            refine ⟨arr', setRow_heap _ _ _ _ _ _ h1, by rw [hcells.1, h2]; simp, fun y hy => ?_, by simpa using h3', fun k j y c hy hj => ?_, h5⟩
            · rcases List.mem_or_eq_of_mem_set hy with hy | rfl
              · exact h3 y hy
              · simp; omega
            · by_cases hki : i = k
              · subst hki
                rw [List.getElem?_set_self hi] at hy
                simp only [Option.some.injEq] at hy
                subst hy
                rw [List.append_assoc] at hj
                have hcell : ∀ j', j' < z → ∃ c', y0[j']? = some c' := fun j' hj' => ⟨_, List.getElem?_eq_getElem (by omega)⟩
                have old : ∀ c, y0[j]? = some c → ¬ (off ≤ j ∧ j < off + n) → ∃ v, arr'[i * z + j]? = some v ∧ v.oneCell' = true ∧ RdD (E.setRow (E.β r) arr').w (E.setRow (E.β r) arr').S c v := by
                  intro c hc hno
                  obtain ⟨v, k1, k2, k3⟩ := h4 i j _ c hxi hc
                  refine ⟨v, ?_, k2, k3.le hl0⟩
                  rw [hcells.2, if_neg (by rw [hfx.1, hlen]; omega)]; exact k1
                by_cases hj1 : j < off
                · rw [List.getElem?_append_left (by simp; omega), List.getElem?_take, if_pos hj1] at hj
                  exact old c hj (by omega)
                · rw [List.getElem?_append_right (by simp; omega)] at hj
                  have hmin : min off y0.length = off := by omega
                  simp only [List.length_take, hmin] at hj
                  by_cases hj2 : j < off + n
                  · rw [List.getElem?_append_left (by omega)] at hj
                    have hv : (a.eval x).cells[j - off]? = some ((a.eval x).cells[j - off]'(by omega)) := Array.getElem?_eq_getElem _
                    obtain ⟨k1, k2⟩ := hd2 _ c _ hj hv
                    refine ⟨_, ?_, k2, k1.le hl0⟩
                    rw [hcells.2, if_pos (by rw [hfx.1, hlen]; omega), show i * z + j - (i * z + off) = j - off by omega]
                    exact hv
                  · rw [List.getElem?_append_right (by omega), List.getElem?_drop] at hj
                    rw [show off + n + (j - off - ds.length) = j by omega] at hj
                    exact old c hj (by omega)
              · rw [List.getElem?_set_ne hki] at hy
                obtain ⟨v, k1, k2, k3⟩ := h4 k j y c hy hj
                have hjz : j < z := by rw [← h3 y (List.mem_of_getElem? hy)]; exact (List.getElem?_eq_some_iff.1 hj).1
                refine ⟨v, ?_, k2, k3.le hl0⟩
                rw [hcells.2, if_neg]
                · exact k1
                · rw [hfx.1, hlen]
                  rcases Nat.lt_or_gt_of_ne hki with hlt | hlt
                  · have : (i + 1) * z ≤ k * z := Nat.mul_le_mul_right _ hlt
                    rw [Nat.add_mul] at this; omega
                  · have : (k + 1) * z ≤ i * z := Nat.mul_le_mul_right _ hlt
                    rw [Nat.add_mul] at this; omega)
          unfold Oper.wp execOp
          simp only [ho, hg, Sem.run_bind, hrun, Result.andThen_ok, Sem.run_pure, Oper.upon]
          exact ⟨undef, _, _, _, rfl, rfl, .top _, hH, hl, hk⟩
      · exact h.elim
    · exact h.elim
  · exact h.elim

end
end Go.Abs
