/- The plain-data layer, part 13: slice literals, make, append, calls; part 11's operations together. -/
import Derived.Test.YtkmbaakiliafeaaAbs12
namespace Go.Abs

section
variable {P : Program}

/-- What the parts of a slice literal read as, one by one. -/
theorem elems_sound {s : St} {z : Nat} {K : List (List D) → Prop} : ∀ (ps : List (Nat × Operand)) (k : Nat), vcElems s z K ps k →
    ∃ l, K l ∧ l.length = ps.length ∧ (∀ x, x ∈ l → x.length = z) ∧ ps.map (·.1) = (List.range ps.length).map (k + ·) ∧
      ∀ E n a, RepSt E n s a → ∀ (i : Nat) (p : Nat × Operand) (ds : List D), ps[i]? = some p → l[i]? = some ds →
        (a.eval p.2).cells.size = z ∧ ∀ (j : Nat) (d : D) (u : Value), ds[j]? = some d → (a.eval p.2).cells[j]? = some u → RdD E.w E.S d u ∧ u.oneCell' = true
  | [], k, h => ⟨[], h, rfl, by simp, rfl, fun E n a _ i p ds hp => by simp at hp⟩
  | (i0, x) :: r, k, h => by
    unfold vcElems at h
    obtain ⟨rfl, hx, hok, h⟩ := h
    split at h
    · rename_i ds0 hds
      obtain ⟨hz, h⟩ := h
      obtain ⟨l, hk, hl, hlz, hidx, hall⟩ := elems_sound r (i0 + 1) h
      refine ⟨ds0 :: l, hk, by simp [hl], fun y hy => ?_, ?_, fun E n a hst i p ds hp hd => ?_⟩
      · rcases List.mem_cons.1 hy with rfl | hy
        · exact hz
        · exact hlz y hy
      · simp only [List.map_cons, List.length_cons, List.range_succ_eq_map, List.map_map]
        rw [hidx]
        simp only [Nat.add_zero, List.cons.injEq, true_and]
        apply List.map_congr_left
        intro j _
        simp only [Function.comp]
        omega
      · cases i with
        | zero =>
          simp only [List.getElem?_cons_zero, Option.some.injEq] at hp hd
          subst hp hd
          obtain ⟨h1, h2⟩ := toDs_rd hst (rd_ev hst x hx) hok hds
          exact ⟨by rw [h1, hz], h2⟩
        | succ i =>
          simp only [List.getElem?_cons_succ] at hp hd
          exact hall E n a hst i p ds hp hd
    · exact h.elim

theorem fill_elems {z : Nat} (hz : 0 < z) : ∀ (vs : List Value) (k : Nat) (arr : Array Value), (∀ v, v ∈ vs → v.cells.size = z) → (k + vs.length) * z ≤ arr.size →
    ∃ arr', Instr.fill (fun i => some (i * z, z)) arr (vs.zipIdx k |>.map fun x => (x.2, x.1)) = some arr' ∧ arr'.size = arr.size ∧
      (∀ i j v, vs[i]? = some v → j < z → arr'[(k + i) * z + j]? = v.cells[j]?) ∧ ∀ m, m < k * z → arr'[m]? = arr[m]?
  | [], k, arr, _, _ => ⟨arr, rfl, rfl, fun i j v h => by simp at h, fun _ _ => rfl⟩
  | v :: vs, k, arr, hv, hs => by
    have hvz := hv v (by simp)
    have hf : v.cells.zipIdx.foldl (fun (cs : Array Value) (x : Value × Nat) => cs.setIfInBounds (k * z + x.2) x.1) arr = (v.cells.toList.zipIdx 0).foldl (fun (cs : Array Value) (x : Value × Nat) => cs.setIfInBounds (k * z + x.2) x.1) arr := by
      rw [← Array.foldl_toList, Array.toList_zipIdx]
    obtain ⟨h1, h2⟩ := foldl_set (k * z) v.cells.toList 0 arr
    rw [← hf] at h1 h2
    have hkz : (k + 1) * z = k * z + z := by rw [Nat.add_mul]; omega
    have hsz : (k + 1 + vs.length) * z ≤ arr.size := by rw [show k + 1 + vs.length = k + (v :: vs).length by simp; omega]; exact hs
    have hk1 : k * z + z ≤ arr.size := by
      have : (k + 1) * z ≤ (k + 1 + vs.length) * z := Nat.mul_le_mul_right _ (by omega)
      omega
    obtain ⟨arr', h3, h4, h5, h6⟩ := fill_elems hz vs (k + 1) _ (fun u hu => hv u (by simp [hu])) (by rw [h1]; exact hsz)
    refine ⟨arr', ?_, by rw [h4, h1], fun i j u hi hj => ?_, fun m hm => ?_⟩
    · simp only [List.zipIdx_cons, List.map_cons, Instr.fill]
      have hno : ¬ (v.cells.size ≠ z ∨ k * z + v.cells.size > arr.size) := by omega
      rw [if_neg (by simpa using hno)]
      exact h3
    · cases i with
      | zero =>
        simp only [List.getElem?_cons_zero, Option.some.injEq] at hi
        subst hi
        rw [h6 _ (by rw [Nat.add_zero]; omega), h2]
        simp only [Nat.add_zero, Array.length_toList]
        rw [if_pos (by omega), show k * z + j - k * z = j by omega, Array.getElem?_toList]
      | succ i =>
        simp only [List.getElem?_cons_succ] at hi
        have := h5 i j u hi hj
        rw [show k + (i + 1) = k + 1 + i by omega]
        exact this
    · rw [h6 m (by omega), h2, if_neg (by omega)]

theorem effOk_buildSlice {s : St} {o : Oper} {K : C → List O → Prop} {t : TypeId} {n : Nat} {ps : Array (Nat × Operand)} (ho : o.op = .buildSlice t n ps)
    (h : match tSlice P t with
      | some (_, z, _) => n * z ≤ 16777216 ∧ ps.size = n ∧ vcElems s z (kSl K n s.H) ps.toList 0
      | none => False) : EffOk P s o K := by
  split at h
  · rename_i e z by_ ht
    obtain ⟨hbig, hps, h⟩ := h
    obtain ⟨hte, hz, i, zv, hi, hzv, hzs, hiz, hib⟩ := of_tSlice ht
    obtain ⟨l, hk, hl, hlz, hidx, hall⟩ := elems_sound _ _ h
    intro E ns a hst
    change K (if n = 0 then .nil0 else .d (.sl l)) s.H at hk
    have hln : l.length = n := by rw [hl, Array.length_toList, hps]
    -- the run
    have hparts : (ps.map fun (i, x) => (i, a.eval x)).toList = ((ps.toList.map fun p => a.eval p.2).zipIdx 0).map fun x => (x.2, x.1) := by
      apply List.ext_getElem?
      intro j
      simp only [Array.toList_map, List.getElem?_map, List.getElem?_zipIdx]
      cases hp : ps.toList[j]? with
      | none => simp
      | some p =>
        have hj : j < ps.toList.length := (List.getElem?_eq_some_iff.1 hp).1
        have : (ps.toList.map (·.1))[j]? = some j := by
          rw [hidx]
          have hj' : j < ps.size := by simpa using hj
          simp [List.getElem?_range hj']
        simp only [List.getElem?_map, hp, Option.map_some, Option.some.injEq] at this
        simp [this]
    have hbigN : ¬ (n * i.size > 2 ^ 24) := by rw [hiz]; omega
    unfold Oper.wp execOp
    simp only [ho]
    by_cases hn : n = 0
    · subst hn
      have hps0 : ps = #[] := by
        apply Array.eq_empty_of_size_eq_zero; exact hps
      subst hps0
      simp only [if_pos] at hk
      have hrun0 : (Instr.buildSlice t 0 (#[].map fun (i, x) => (i, a.eval x))).run P E.w = .ok (.slice (some ⟨E.w.heap.size, 0, none⟩) 0 0) (E.w.alloc (.cells #[] e)) := by
        have hr0 : ∀ (f : Nat → Value), Array.map f (Array.range 0) = #[] := fun f => Array.eq_empty_of_size_eq_zero (by simp)
        simp [Instr.buildSlice, run_underlying hte, sizeOf, typeInfo, hi, Instr.fill, newRow, hr0]
      simp only [Sem.run_bind, hrun0, Result.andThen_ok, Sem.run_pure, Oper.upon]
      exact ⟨_, E.newData (.cells #[] e), _, _, rfl, rfl, .nil0 _, rep_newData hst.heap _, le_newData hst.heap _, hk⟩
    · rw [if_neg hn] at hk
      have hnz : 0 < n * z := Nat.mul_pos (by omega) hz
      generalize hbase : (Array.range (n * z)).map (zv.cells[· % zv.cells.size]!) = base0
      have hbs : base0.size = n * z := by subst hbase; simp
      have hvs : ∀ v, v ∈ (ps.toList.map fun p => a.eval p.2) → v.cells.size = z := by
        intro v hv
        obtain ⟨p, hp, rfl⟩ := List.mem_map.1 hv
        obtain ⟨j, hj⟩ := List.mem_iff_getElem?.1 hp
        have hjl : j < l.length := by rw [hl]; exact (List.getElem?_eq_some_iff.1 hj).1
        exact (hall E ns a hst j p _ hj (List.getElem?_eq_getElem hjl)).1
      obtain ⟨arr', h1, h2, h3, _⟩ := fill_elems hz (ps.toList.map fun p => a.eval p.2) 0 base0 hvs (by simp only [List.length_map, Array.length_toList, hps, Nat.zero_add]; omega)
      rw [← hparts] at h1
      have hrun : (Instr.buildSlice t n (ps.map fun (i, x) => (i, a.eval x))).run P E.w = .ok (.slice (some ⟨E.w.heap.size, 0, none⟩) n n) (E.w.alloc (.cells arr' e)) := by
        have hne : ¬ (n * i.size = 0) := by rw [hiz]; omega
        have hb2 : Array.map (fun x => zv.cells[x % zv.cells.size]!) (Array.range (n * i.size)) = base0 := by rw [hiz]; exact hbase
        have h1' : Instr.fill (fun j => some (j * i.size, i.size)) base0 (ps.map fun (i, x) => (i, a.eval x)).toList = some arr' := by rw [hiz]; exact h1
        unfold Instr.buildSlice
        simp only [Sem.run_bind, run_underlying hte, Result.andThen_ok, sizeOf, typeInfo, run_program, hi, Sem.run_pure, Sem.run_ite, if_neg hbigN, if_neg hne, zeroValue, hzv, hb2, h1', newRow, run_newObj]
        rfl
      simp only [Sem.run_bind, hrun, Result.andThen_ok, Sem.run_pure, Oper.upon]
      have hcellnew : ∀ j, (E.newData (.cells arr' e)).w.cell? ⟨E.w.heap.size, j, none⟩ = arr'[j]? := fun j => World.cell?_alloc_new E.w arr' e j
      refine ⟨_, E.newData (.cells arr' e), _, _, rfl, rfl, ?_, rep_newData hst.heap _, le_newData hst.heap _, hk⟩
      have hget : ∀ i j, i < n → j < z → ∃ p u, ps.toList[i]? = some p ∧ (a.eval p.2).cells[j]? = some u ∧ arr'[i * z + j]? = some u := by
        intro i j hi hj
        have hp : ps.toList[i]? = some (ps.toList[i]'(by simp; omega)) := List.getElem?_eq_getElem _
        have hv := hvs _ (List.mem_map_of_mem (List.getElem_mem (l := ps.toList) (n := i) (by simp; omega)))
        have hu : (a.eval (ps.toList[i]'(by simp; omega)).2).cells[j]? = some _ := Array.getElem?_eq_getElem (by omega)
        refine ⟨_, _, hp, hu, ?_⟩
        have := h3 i j _ (by rw [List.getElem?_map, hp]; rfl) hj
        rw [Nat.zero_add] at this
        rw [this]; exact hu
      have hslice : RdD (E.newData (.cells arr' e)).w (E.newData (.cells arr' e)).S (.sl l) (.slice (some ⟨E.w.heap.size, 0, none⟩) l.length n) := by
        refine .sl E.w.heap.size 0 n z l (fun i j => arr'.getD (i * z + j) undef) (fun e => by subst e; simp at hln; omega) (by omega) ?_ hlz (fun i j hi hj => ?_) (fun i j x c hx hc => ?_)
        · have : n ≤ n * z := Nat.le_mul_of_pos_right n hz
          simp only [maxLen]; omega
        · obtain ⟨p, u, h5, h6, h7⟩ := hget i j (by omega) hj
          refine ⟨.inr rfl, ?_, ?_⟩
          · rw [Nat.zero_add, hcellnew, Array.getD_eq_getD_getElem?, h7]; rfl
          · rw [Array.getD_eq_getD_getElem?, h7]
            have hxi : l[i]? = some l[i] := List.getElem?_eq_getElem hi
            have hjl : j < (l[i]).length := by rw [hlz _ (List.getElem_mem _)]; exact hj
            exact ((hall E ns a hst i p _ h5 hxi).2 j _ u (List.getElem?_eq_getElem hjl) h6).2
        · have hin : i < n := by rw [← hln]; exact (List.getElem?_eq_some_iff.1 hx).1
          have hjz : j < z := by rw [← hlz x (List.mem_of_getElem? hx)]; exact (List.getElem?_eq_some_iff.1 hc).1
          obtain ⟨p, u, h5, h6, h7⟩ := hget i j hin hjz
          rw [Array.getD_eq_getD_getElem?, h7]
          exact ((hall E ns a hst i p x h5 hx).2 j c u hc h6).1.le (le_newData hst.heap _)
      rw [hln] at hslice
      exact .d _ _ hslice
  · exact h.elim


theorem cvDs_rd : ∀ {vs : List Value} {ds : List D}, cvDs vs = some ds → ds.length = vs.length ∧ ∀ (w : World) (S : Nat → Nat → Prop) (i : Nat) (d : D) (v : Value), ds[i]? = some d → vs[i]? = some v → RdD w S d v
  | [], ds, h => by simp [cvDs] at h; subst h; exact ⟨rfl, fun w S i d v hd => by simp at hd⟩
  | v :: r, ds, h => by
    unfold cvDs at h
    split at h
    · rename_i d l h1 h2
      simp only [Option.some.injEq] at h
      subst h
      obtain ⟨h3, h4⟩ := cvDs_rd h2
      refine ⟨by simp [h3], fun w S i d' v' hd hv => ?_⟩
      cases i with
      | zero =>
        simp only [List.getElem?_cons_zero, Option.some.injEq] at hd hv
        subst hd hv
        unfold cvD at h1
        split at h1 <;> simp at h1 <;> subst h1
        · exact .int _ _
        · exact .bool _
        · rename_i s
          have : s = ⟨s.data.toList.toArray⟩ := by cases s; simp
          rw [this]; exact .str _
        · exact .nil _ _
      | succ i => exact h4 w S i d' v' (by simpa using hd) (by simpa using hv)
    · simp at h

theorem getD_zeroFill (zs : Array Value) (n : Nat) (i j : Nat) (hi : i < n) (hj : j < zs.size) :
    ((Array.range (n * zs.size)).map (zs[· % zs.size]!))[i * zs.size + j]? = zs[j]? := by
  have hlt : i * zs.size + j < n * zs.size := by
    have : (i + 1) * zs.size ≤ n * zs.size := Nat.mul_le_mul_right _ hi
    rw [Nat.add_mul] at this; omega
  have h2 : (i * zs.size + j) % zs.size = j := by rw [Nat.mul_comm, Nat.mul_add_mod, Nat.mod_eq_of_lt hj]
  rw [Array.getElem?_map]
  simp [hlt, h2, hj]

theorem wrap64 {m : Int} (h1 : -9223372036854775808 ≤ m) (h2 : m ≤ 9223372036854775807) : IntKind.i64.wrap m = m := by
  have e : IntKind.i64.wrap m = if 9223372036854775808 ≤ m % 18446744073709551616 then m % 18446744073709551616 - 18446744073709551616 else m % 18446744073709551616 := by
    simp [IntKind.wrap, IntKind.signed, IntKind.bits]
  rw [e]
  split <;> omega

theorem effOk_make {s : St} {o : Oper} {K : C → List O → Prop} {t : TypeId} {x : Operand} (ho : o.op = .makeSlice t x x) (hx : okOperand x = true) (h : vcMake P s t (ev s x) K) : EffOk P s o K := by
  unfold vcMake at h
  split at h
  · rename_i e z by_ m ht hev
    split at h
    · rename_i zs hzs0
      obtain ⟨hzl, h0, hmax, hbytes, hk⟩ := h
      obtain ⟨hte, hz, i, zv, hi, hzv, hzs, hiz, hib⟩ := of_tSlice ht
      intro E ns a hst
      have hvx := rd_ev hst x hx
      rw [hev] at hvx
      generalize hg : a.eval x = v at hvx
      cases hvx with
      | d _ _ hd =>
        cases hd
        have hzv' : tZero P e = some zv.cells.toList := by
          unfold tZero at hzs0 ⊢
          simp only [hi, hzv, Option.bind_some] at hzs0 ⊢
          split
          · rfl
          · rename_i hno
            simp [hno] at hzs0
        have hone : zv.cells.all (·.oneCell') = true := by
          unfold tZero at hzv'
          simp only [hi, hzv, Option.bind_some] at hzv'
          split at hzv'
          · assumption
          · simp at hzv'
        rw [hzv', Option.bind_some] at hzs0
        obtain ⟨hl, hrd⟩ := cvDs_rd hzs0
        have hwrap : IntKind.i64.wrap m = m := wrap64 (by omega) (by simp only [maxLen] at hmax; omega)
        have hrun : (Instr.makeSlice t (.int .i64 m) (.int .i64 m)).run P E.w = .ok (.slice (some ⟨E.w.heap.size, 0, none⟩) m.toNat m.toNat) (E.w.alloc (.cells ((Array.range (m.toNat * z)).map (zv.cells[· % zv.cells.size]!)) e)) := by
          have hno1 : ¬ (m < 0) := by omega
          have hno2 : ¬ ((by_ : Int) * m > 281474976710656) := by rw [Int.mul_comm]; omega
          by_cases hm0 : m.toNat * z = 0
          · have hmz : m.toNat = 0 := by
              rcases Nat.mul_eq_zero.1 hm0 with h' | h'
              · exact h'
              · omega
            have hm00 : m = 0 := by omega
            subst hm00
            have hr0 : ∀ (f : Nat → Value), Array.map f (Array.range 0) = #[] := fun f => Array.eq_empty_of_size_eq_zero (by simp)
            simp [Instr.makeSlice, run_underlying hte, asInt, asIntOf, typeInfo, hi, hwrap, sizeOf, newRow, hr0]
          · have hne : ¬ (m.toNat * i.size = 0) := by rw [hiz]; exact hm0
            have hcond : ¬ ((decide (IntKind.i64.wrap m < 0) || decide (i.bytes * IntKind.i64.wrap m > 2 ^ 48)) = true ∨ IntKind.i64.wrap m < 0 ∨ IntKind.i64.wrap m > IntKind.i64.wrap m) := by
              rw [hwrap, hib]
              simp
              omega
            have hno2' : ¬ (281474976710656 < (i.bytes : Int) * m) := by rw [hib]; omega
            simp [Instr.makeSlice, run_underlying hte, asInt, asIntOf, typeInfo, hi, hwrap, sizeOf, newRow, hno1, hno2', hne, zeroValue, hzv]
            rw [hiz]
        unfold Oper.wp execOp
        simp only [ho, hg, Sem.run_bind, hrun, Result.andThen_ok, Sem.run_pure, Oper.upon]
        have hzz : zv.cells.size = z := hzs
        refine ⟨_, E.newObj _, _, _, rfl, rfl, ?_, rep_newRow hst.heap (z := z) (xs := List.replicate m.toNat zs) (by simp) (fun y hy => by rw [List.eq_of_mem_replicate hy, hzl]) (by simp only [List.length_replicate]; omega) (fun k j y c hy hc => ?_), le_newObj hst.heap _, hk⟩
        · have e1 : (⟨E.w.heap.size, 0, none⟩ : Addr) = ⟨(E.newObj (.cells ((Array.range (m.toNat * z)).map (zv.cells[· % zv.cells.size]!)) e)).β s.H.length, 0, none⟩ := by
            simp [Env.newObj, hst.heap.N]
          rw [e1]
          exact .rsl _ _ (by simp [Env.newObj, hst.heap.N])
        · have hkm : k < m.toNat := by simpa using (List.getElem?_eq_some_iff.1 hy).1
          have hyz : y = zs := List.eq_of_mem_replicate (List.mem_of_getElem? hy)
          subst hyz
          have hjz : j < zv.cells.size := by rw [hzz, ← hzl]; exact (List.getElem?_eq_some_iff.1 hc).1
          have hget := getD_zeroFill zv.cells m.toNat k j hkm hjz
          obtain ⟨u, hv⟩ : ∃ u, zv.cells[j]? = some u := ⟨_, Array.getElem?_eq_getElem hjz⟩
          have hu1 : u.oneCell' = true := by
            simp only [Array.all_eq_true] at hone
            obtain ⟨hlt, rfl⟩ := Array.getElem?_eq_some_iff.1 hv
            exact hone j hlt
          refine ⟨u, ?_, hu1, hrd _ _ j c _ hc (by rw [Array.getElem?_toList]; exact hv)⟩
          rw [← hv, ← hget, hzz]
    · exact h.elim
  · exact h.elim

end
end Go.Abs
