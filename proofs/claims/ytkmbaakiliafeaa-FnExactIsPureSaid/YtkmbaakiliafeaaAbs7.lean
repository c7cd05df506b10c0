/- The plain-data layer, part 7: struct literals, and part 3's operations together. -/
import Derived.Test.YtkmbaakiliafeaaAbsM
import Derived.Laws.BytesArg
namespace Go.Abs

section
variable {P : Program} {E : Env}

theorem cellsOf_rd {c : C} {v : Value} (hr : Rd E c v) (hok : okCells c = true) :
    v.cells.size = (cellsOf c).length ∧ ∀ (i : Nat) (c' : C) (v' : Value), (cellsOf c)[i]? = some c' → v.cells[i]? = some v' → Rd E c' v' ∧ v'.oneCell' = true := by
  have single : ∀ c v, Rd E c v → c.cell = true → cellsOf c = [c] → v.cells.size = (cellsOf c).length ∧ ∀ (i : Nat) (c' : C) (v' : Value), (cellsOf c)[i]? = some c' → v.cells[i]? = some v' → Rd E c' v' ∧ v'.oneCell' = true := by
    intro c v hr hc he
    have h1 := hr.oneCell hc
    have hv : v.cells = #[v] := by cases v <;> first | rfl | simp [Value.oneCell'] at h1
    rw [he, hv]
    refine ⟨rfl, fun i c' v' hi hj => ?_⟩
    match i, hi, hj with
    | 0, hi, hj => simp at hi hj; subst hi hj; exact ⟨hr, h1⟩
    | i + 1, hi, hj => simp at hi
  cases c with
  | agg cs =>
    cases hr with
    | agg _ vs hl h1 hr => exact ⟨hl, fun i c' v' hi hj => ⟨hr i c' v' hi hj, h1 i v' hj⟩⟩
  | d x =>
    cases x with
    | agg ds =>
      cases hr with
      | d _ _ hd =>
        cases hd with
        | agg _ vs hl h1 hr =>
          refine ⟨by simpa [cellsOf, Value.cells] using hl, fun i c' v' hi hj => ?_⟩
          simp only [cellsOf, List.getElem?_map, Option.map_eq_some_iff] at hi
          obtain ⟨d, hd, rfl⟩ := hi
          exact ⟨.d _ _ (hr i d v' hd hj), h1 i v' hj⟩
    | _ => exact single _ _ hr (by simpa [okCells] using hok) rfl
  | _ => exact single _ _ hr (by simpa [okCells] using hok) rfl

theorem foldl_set (off : Nat) : ∀ (l : List Value) (j0 : Nat) (cells : Array Value),
    ((l.zipIdx j0).foldl (fun (cs : Array Value) (x : Value × Nat) => cs.setIfInBounds (off + x.2) x.1) cells).size = cells.size ∧
    ∀ k, ((l.zipIdx j0).foldl (fun (cs : Array Value) (x : Value × Nat) => cs.setIfInBounds (off + x.2) x.1) cells)[k]? =
      if off + j0 ≤ k ∧ k < off + j0 + l.length ∧ k < cells.size then l[k - (off + j0)]? else cells[k]?
  | [], j0, cells => by
    refine ⟨rfl, fun k => ?_⟩
    simp only [List.zipIdx_nil, List.foldl_nil]
    rw [if_neg (by simp; omega)]
  | v :: l, j0, cells => by
    obtain ⟨h1, h2⟩ := foldl_set off l (j0 + 1) (cells.setIfInBounds (off + j0) v)
    simp only [List.zipIdx_cons, List.foldl_cons]
    refine ⟨by rw [h1]; simp, fun k => ?_⟩
    rw [h2 k]
    simp only [Array.size_setIfInBounds, List.length_cons]
    by_cases e : k = off + j0
    · subst e
      rw [if_neg (by omega)]
      by_cases hk : off + j0 < cells.size
      · rw [if_pos (by omega)]; simp [hk]
      · rw [if_neg (by omega)]
        rw [Array.getElem?_eq_none (by simp; omega), Array.getElem?_eq_none (by omega)]
    · by_cases hk : off + (j0 + 1) ≤ k ∧ k < off + (j0 + 1) + l.length ∧ k < cells.size
      · rw [if_pos hk, if_pos (by omega), show k - (off + j0) = (k - (off + (j0 + 1))) + 1 by omega]
        simp
      · rw [if_neg hk, if_neg (by omega), Array.getElem?_setIfInBounds_ne (fun h => e h.symm)]

/-- Cells that fit, one by one. -/
def Fits (E : Env) (cs : List C) (arr : Array Value) : Prop :=
  arr.size = cs.length ∧ ∀ (i : Nat) (c : C) (v : Value), cs[i]? = some c → arr[i]? = some v → Rd E c v ∧ v.oneCell' = true

theorem Fits.splice {cs ys : List C} {arr vs : Array Value} {o : Nat} (h : Fits E cs arr) (k : Fits E ys vs) (hn : o + ys.length ≤ cs.length) :
    Fits E (cs.take o ++ ys ++ cs.drop (o + ys.length)) (vs.zipIdx.foldl (fun (cs : Array Value) (x : Value × Nat) => cs.setIfInBounds (o + x.2) x.1) arr) := by
  have hf : vs.zipIdx.foldl (fun (cs : Array Value) (x : Value × Nat) => cs.setIfInBounds (o + x.2) x.1) arr = (vs.toList.zipIdx 0).foldl (fun (cs : Array Value) (x : Value × Nat) => cs.setIfInBounds (o + x.2) x.1) arr := by
    rw [← Array.foldl_toList, Array.toList_zipIdx]
  obtain ⟨h1, h2⟩ := foldl_set o vs.toList 0 arr
  obtain ⟨a1, a2⟩ := h
  obtain ⟨b1, b2⟩ := k
  rw [hf]
  refine ⟨by rw [h1, a1]; simp; omega, fun i c v hc hv => ?_⟩
  rw [h2 i] at hv
  simp only [Nat.add_zero, Array.length_toList] at hv
  simp only [List.append_assoc] at hc
  by_cases hi : o ≤ i ∧ i < o + vs.size ∧ i < arr.size
  · rw [if_pos hi] at hv
    rw [List.getElem?_append_right (by simp; omega), List.getElem?_append_left (by simp; omega)] at hc
    simp only [List.length_take] at hc
    rw [show min o cs.length = o by omega] at hc
    exact b2 _ c v hc (by simpa using hv)
  · rw [if_neg hi] at hv
    have hia := (Array.getElem?_eq_some_iff.1 hv).1
    refine a2 i c v ?_ hv
    by_cases hio : i < o
    · rw [List.getElem?_append_left (by simp; omega), List.getElem?_take, if_pos hio] at hc
      exact hc
    · rw [List.getElem?_append_right (by simp; omega), List.getElem?_append_right (by simp; omega), List.getElem?_drop] at hc
      simp only [List.length_take] at hc
      rw [show o + ys.length + (i - min o cs.length - ys.length) = i by omega] at hc
      exact hc

theorem fill_sound {places : List (Nat × Nat)} {s : St} {K : List C → Prop} : ∀ (ps : List (Nat × Operand)) (cs : List C), fillA places s K ps cs →
    ∃ cs', K cs' ∧ ∀ E n a, RepSt E n s a → ∀ arr, Fits E cs arr → ∃ arr', Instr.fill (places.toArray[·]?) arr (ps.map fun x => (x.1, a.eval x.2)) = some arr' ∧ Fits E cs' arr'
  | [], cs, h => ⟨cs, h, fun E n a hst arr hf => ⟨arr, rfl, hf⟩⟩
  | (i, x) :: r, cs, h => by
    unfold fillA at h
    split at h
    · rename_i o n hp
      obtain ⟨h1, h2, h3, h4, h5⟩ := h
      obtain ⟨cs', hk, hall⟩ := fill_sound r _ h5
      refine ⟨cs', hk, fun E n' a hst arr hf => ?_⟩
      have hx := cellsOf_rd (rd_ev hst x h1) h2
      have hsp := hf.splice (o := o) hx (by omega)
      rw [h3] at hsp
      obtain ⟨arr', h6, h7⟩ := hall E n' a hst _ hsp
      refine ⟨arr', ?_, h7⟩
      have hsz := hx.1
      have hfs := hf.1
      simp only [List.map_cons, Instr.fill]
      rw [List.getElem?_toArray, hp]
      simp only
      have hno : ¬ ((a.eval x).cells.size ≠ n ∨ o + (a.eval x).cells.size > arr.size) := by omega
      rw [if_neg (by simpa using hno)]
      exact h6
    · exact h.elim

theorem build_sound {s : St} {t : TypeId} {ps : Array (Nat × Operand)} {K : C → Prop}
    (h : match tBuild P t with | some (z, places) => fillA places s (kAgg K) ps.toList (z.map cv1) | none => False) :
    Sound P s K fun a => Instr.build t (ps.map fun (i, x) => (i, a.eval x)) := by
  split at h
  · rename_i z places hb
    obtain ⟨cs', hk, hall⟩ := fill_sound _ _ h
    refine ⟨_, hk, fun E n a hst => ?_⟩
    unfold tBuild at hb
    cases hi : P.info? t with
    | none => simp [hi] at hb
    | some it =>
      cases hu : P.underlying t with
      | none => simp [hi, hu] at hb
      | some d =>
        cases d <;> simp [hi, hu] at hb
        rename_i fields
        cases hz : it.zero with
        | none => simp [hz] at hb
        | some zv =>
          cases hp : fields.toList.mapM (fun f => (P.info? f.type).map fun i => (f.offset, i.size)) with
          | none => simp [hz, hp] at hb
          | some pl =>
            simp only [hz, hp] at hb
            split at hb
            · rename_i hone
              simp only [Option.some.injEq, Prod.mk.injEq] at hb
              obtain ⟨rfl, rfl⟩ := hb
              have hf : Fits E (zv.cells.toList.map cv1) zv.cells := by
                refine ⟨by simp, fun i c v hc hv => ?_⟩
                simp only [List.getElem?_map, Array.getElem?_toList, hv, Option.map_some, Option.some.injEq] at hc
                subst hc
                refine ⟨rd_cv1 E v, ?_⟩
                obtain ⟨hlt, rfl⟩ := Array.getElem?_eq_some_iff.1 hv
                exact hone i hlt
              obtain ⟨arr', h6, h7⟩ := hall E n a hst _ hf
              refine ⟨.agg arr', run_build _ _ _ _ ?_, .agg _ _ h7.1 (fun i v hv => ?_) (fun i c v hc hv => (h7.2 i c v hc hv).1)⟩
              · unfold Program.built
                simp only [hi, hu, hz, hp]
                simpa using h6
              · have hlt : i < cs'.length := by rw [← h7.1]; exact (Array.getElem?_eq_some_iff.1 hv).1
                exact (h7.2 i _ v (List.getElem?_eq_getElem hlt) hv).2
            · simp at hb
  · exact h.elim


theorem Sound.yields {s : St} {o : Oper} {K : C → Prop} {run : Act → Sem Value} (h : Sound P s K run) (hr : ∀ a, execOp a.eval o = (do pure (.value (← run a)))) :
    ∃ c, K c ∧ ∀ E n a, RepSt E n s a → Yields P E a o c := by
  obtain ⟨c, hk, hall⟩ := h
  refine ⟨c, hk, fun E n a hst => ?_⟩
  obtain ⟨u, h1, h2⟩ := hall E n a hst
  exact ⟨u, by rw [hr a]; simp [h1], h2⟩

/-- The operations of part 3 yield what part 3 says. -/
theorem conv_bytes {w : World} {S : Nat → Nat → Prop} (src e : TypeId) (hs : P.underlying src = some (.slice e)) (he : P.underlying e = some (.int .u8)) {xs : List (List D)} {l : List Int} (hl : bytesOf xs = some l) {v : Value} (hd : RdD w S (.sl xs) v) :
    ∀ dst, P.underlying dst = some .string → (convert src dst v).run P w = .ok (.string (strOfNums l)) w := by
  intro dst hdst
  have hxs := bytesOf_at _ _ hl
  cases hd with
  | nil a cap =>
    cases l with
    | nil =>
      cases a with
      | none => exact run_convert_bytes_nil w src e hs he 0 cap dst hdst
      | some a =>
        obtain ⟨b, off, pt⟩ := a
        rw [run_convert_bytes_string w src dst e _ 0 cap hs he hdst, run_bytesToString w _ 0 cap [] (by simpa using run_loadCells_list (P := P) w ⟨b, off, pt⟩ [] (by simp))]
        rfl
    | cons => cases hxs
  | sl b off cap z xs val hne hcap hmax hz hc hr =>
    subst hxs
    have hz1 : z = 1 := by
      cases l with
      | nil => exact absurd rfl hne
      | cons n l => exact (hz [.int .u8 n] (by simp)).symm
    subst hz1
    refine run_convert_bytes_arg w src e hs he b off _ cap l (by simp) (fun i hi => ?_) dst hdst
    obtain ⟨h1, h2, h3⟩ := hc i 0 hi (by decide)
    have hi' : i < l.length := by simpa using hi
    have := hr i 0 [.int .u8 l[i]] (.int .u8 l[i]) (by simp [List.getElem?_eq_getElem hi']) rfl
    simp only [Nat.mul_one, Nat.add_zero] at h2
    rw [h2]
    generalize val i 0 = v' at *
    cases this
    simp [List.getD, List.getElem?_eq_getElem hi']

theorem vcPure_sound {s : St} {o : Oper} {K : C → Prop} (h : vcPure P s o.op K) : ∃ c, K c ∧ ∀ E n a, RepSt E n s a → Yields P E a o c := by
  obtain ⟨dst, op, type, pos, after, guard⟩ := o
  dsimp only at h
  unfold vcPure at h
  split at h
  · exact ⟨_, h.2, fun E n a hst => ⟨_, by simp [execOp], rd_ev hst _ h.1⟩⟩
  · exact ⟨_, h.2, fun E n a hst => ⟨_, by simp [execOp], rd_ev hst _ h.1⟩⟩
  · rename_i c x y
    obtain ⟨h1, h2, h3, h4⟩ := h
    split at h4
    · rename_i b hb
      refine ⟨_, h4, fun E n a hst => ⟨if b then a.eval x else a.eval y, ?_, ?_⟩⟩
      · have hv := rd_ev hst c h1
        rw [hb] at hv
        generalize hg : a.eval c = v at hv
        cases hv with
        | d _ _ hd => cases hd; simp [execOp, hg, asBool]
      · cases b
        · exact rd_ev hst y h3
        · exact rd_ev hst x h2
    · exact h4.elim
  · exact (load_sound h.1 h.2).yields (fun a => rfl)
  · rename_i x
    obtain ⟨h1, h2⟩ := h
    split at h2
    · rename_i cs hb
      refine ⟨_, h2, fun E n a hst => ⟨a.eval x, ?_, by have := rd_ev hst x h1; rwa [hb] at this⟩⟩
      have hv := rd_ev hst x h1
      rw [hb] at hv
      generalize hg : a.eval x = v at hv
      cases hv; simp [execOp, hg]
    · rename_i r off hb
      refine ⟨_, h2, fun E n a hst => ⟨a.eval x, ?_, by have := rd_ev hst x h1; rwa [hb] at this⟩⟩
      have hv := rd_ev hst x h1
      rw [hb] at hv
      generalize hg : a.eval x = v at hv
      cases hv; simp [execOp, hg]
    · rename_i r z i off hb
      refine ⟨_, h2, fun E n a hst => ⟨a.eval x, ?_, by have := rd_ev hst x h1; rwa [hb] at this⟩⟩
      have hv := rd_ev hst x h1
      rw [hb] at hv
      generalize hg : a.eval x = v at hv
      cases hv; simp [execOp, hg]
    · rename_i f cs hb
      refine ⟨_, h2, fun E n a hst => ⟨a.eval x, ?_, by have := rd_ev hst x h1; rwa [hb] at this⟩⟩
      have hv := rd_ev hst x h1
      rw [hb] at hv
      generalize hg : a.eval x = v at hv
      cases hv; simp [execOp, hg]
    · exact h2.elim
  · exact (fieldAddr_sound h.1 h.2).yields (fun a => rfl)
  · exact (field_sound h.1 h.2).yields (fun a => rfl)
  · exact (indexAddr_sound h.1 h.2.1 h.2.2).yields (fun a => rfl)
  · exact (index_sound h.1 h.2.1 h.2.2).yields (fun a => rfl)
  · exact bin_sound rfl h.1 h.2.1 h.2.2
  · rename_i op t x
    obtain ⟨h1, h2⟩ := h
    split at h2
    · rename_i b hb
      refine ⟨_, h2, fun E n a hst => ⟨.bool (!b), ?_, .d _ _ (.bool _)⟩⟩
      have hv := rd_ev hst x h1
      rw [hb] at hv
      generalize hg : a.eval x = v at hv
      cases hv with
      | d _ _ hd => cases hd; simp [execOp, hg, Op.unary]
    · rename_i k m hb
      refine ⟨_, h2, fun E n a hst => ⟨.int k (k.wrap (0 - m)), ?_, .d _ _ (.int _ _)⟩⟩
      have hv := rd_ev hst x h1
      rw [hb] at hv
      generalize hg : a.eval x = v at hv
      cases hv with
      | d _ _ hd => cases hd; simp [execOp, hg, Op.unary, Op.intArith]
    · exact h2.elim
  · exact (slice_sound h.1 h.2.1 h.2.2.1 h.2.2.2).yields (fun a => rfl)
  · exact (lookup_sound h.1 h.2.1 h.2.2).yields (fun a => rfl)
  · exact (entry_sound h.1 h.2).yields (fun a => rfl)
  · rename_i x i
    obtain ⟨h1, h2⟩ := h
    split at h2
    · rename_i cs hb
      obtain ⟨hi, hk⟩ := h2
      refine ⟨_, hk, fun E n a hst => ?_⟩
      have hv := rd_ev hst x h1
      rw [hb] at hv
      generalize hg : a.eval x = v at hv
      cases hv with
      | tup _ vs hl hr =>
        have hvs : vs[i]? = some (vs[i]'(by omega)) := Array.getElem?_eq_getElem _
        refine ⟨vs[i]'(by omega), by simp [execOp, hg, Instr.extract, hvs], hr i _ _ ?_ hvs⟩
        rw [List.getD_eq_getElem?_getD, List.getElem?_eq_getElem hi]; rfl
    · exact h2.elim
  · rename_i f first cap
    obtain ⟨rfl, h1, hk⟩ := h
    refine ⟨_, hk, fun E n a hst => ⟨.func (.func f) #[] (cap.map a.eval), by simp [execOp, Instr.makeFunc], .fn _ _ _ (by simp) (fun i c v hc hv => ?_)⟩⟩
    simp only [List.getElem?_map, Option.map_eq_some_iff] at hc
    obtain ⟨x, hx, rfl⟩ := hc
    simp only [Array.getElem?_map, Option.map_eq_some_iff] at hv
    obtain ⟨x', hx', rfl⟩ := hv
    rw [Array.getElem?_toList] at hx
    rw [hx] at hx'
    cases hx'
    obtain ⟨hlt, rfl⟩ := Array.getElem?_eq_some_iff.1 hx
    exact rd_ev hst _ (by simp only [Array.all_eq_true] at h1; exact h1 i hlt)
  · rename_i src dst' x
    obtain ⟨h1, h2⟩ := h
    split at h2
    · rename_i k m hb
      split at h2
      · rename_i k' hk'
        obtain ⟨hs, hk⟩ := h2
        refine ⟨_, hk, fun E n a hst => ⟨.int k' (k'.wrap m), ?_, .d _ _ (.int _ _)⟩⟩
        have hv := rd_norm1 hst (rd_ev hst x h1)
        rw [hb] at hv
        generalize hg : a.eval x = v at hv
        cases hv with
        | d _ _ hd =>
          cases hd
          obtain ⟨ds, hds⟩ := Option.isSome_iff_exists.1 hs
          simp [execOp, hg, convert, run_underlying hds, run_underlying (und_of_tInt hk'), Conv.intToInt]
      · exact h2.elim
    · rename_i xs hb
      split at h2
      · rename_i l hl
        obtain ⟨hs, hd', hk⟩ := h2
        have hd2 : P.underlying dst' = some .string := by
          unfold tIsStr at hd'
          split at hd' <;> simp_all
        obtain ⟨e, he1, he2⟩ : ∃ e, P.underlying src = some (.slice e) ∧ P.underlying e = some (.int .u8) := by
          unfold tIsBytes at hs
          split at hs
          · rename_i e h'
            split at hs
            · exact ⟨e, h', by assumption⟩
            · cases hs
          · cases hs
        refine ⟨_, hk, fun E n a hst => ⟨.string (strOfNums l), ?_, .d _ _ (.str _)⟩⟩
        have hv := rd_norm1 hst (rd_ev hst x h1)
        rw [hb] at hv
        generalize hg : a.eval x = v at hv
        cases hv with
        | d _ _ hd =>
          have := conv_bytes (P := P) src e he1 he2 hl hd dst' hd2
          simp [execOp, hg, this]
      · exact h2.elim
    · exact h2.elim
  · exact (build_sound h).yields (fun a => rfl)
  · rename_i cl
    obtain ⟨callee, args, argTypes⟩ := cl
    dsimp only at h
    split at h
    · split at h
      · rename_i x t hargs hts
        have e1 : args = #[x] := Array.toList_inj.1 (by simpa using hargs)
        have e2 : argTypes = #[t] := Array.toList_inj.1 (by simpa using hts)
        subst e1 e2
        refine (len_sound (ty := type) h.1 h.2).yields (fun a => ?_)
        simp [execOp, resolve, invoke, builtin]
      · exact h.elim
    · split at h
      · rename_i x y hargs
        have e1 : args = #[x, y] := Array.toList_inj.1 (by simpa using hargs)
        subst e1
        obtain ⟨h1, h2, h3⟩ := h
        split at h3
        · rename_i k p k' q hp hq
          obtain ⟨rfl, hk⟩ := h3
          refine ⟨_, hk, fun E n a hst => ⟨.int k (if p < q then q else p), ?_, .d _ _ (.int _ _)⟩⟩
          have hv := rd_ev hst x h1
          have hw := rd_ev hst y h2
          rw [hp] at hv
          rw [hq] at hw
          generalize hg : a.eval x = v at hv
          generalize hg' : a.eval y = v' at hw
          cases hv with
          | d _ _ hd =>
            cases hd
            cases hw with
            | d _ _ hd => cases hd; simp [execOp, resolve, invoke, builtin, hg, hg', Builtin.max_, Builtin.max2]
        · exact h3.elim
      · exact h.elim
    · split at h
      · rename_i x y hargs
        have e1 : args = #[x, y] := Array.toList_inj.1 (by simpa using hargs)
        subst e1
        obtain ⟨h1, h2, h3⟩ := h
        split at h3
        · rename_i k p k' q hp hq
          obtain ⟨rfl, hk⟩ := h3
          refine ⟨_, hk, fun E n a hst => ⟨.int k (if q < p then q else p), ?_, .d _ _ (.int _ _)⟩⟩
          have hv := rd_ev hst x h1
          have hw := rd_ev hst y h2
          rw [hp] at hv
          rw [hq] at hw
          generalize hg : a.eval x = v at hv
          generalize hg' : a.eval y = v' at hw
          cases hv with
          | d _ _ hd =>
            cases hd
            cases hw with
            | d _ _ hd => cases hd; simp [execOp, resolve, invoke, builtin, hg, hg', Builtin.min_, Builtin.min2]
        · exact h3.elim
      · exact h.elim
    · exact h.elim
  · exact h.elim

end
end Go.Abs
