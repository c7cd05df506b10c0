/- The plain-data layer: maps, their keys and values plain cells. -/
import Derived.Test.YtkmbaakiliafeaaAbs6
import Derived.MapKept
set_option linter.unusedVariables false
set_option linter.unusedSimpArgs false
namespace Go.Abs

theorem keyOk_inv {sk : Bool} {d : D} (h : keyOk sk d = true) : (sk = true ∧ ∃ s, d = .str s) ∨ (sk = false ∧ ∃ n, d = .int .i64 n) := by
  cases sk <;> cases d <;> simp [keyOk] at h ⊢
  rename_i k n
  cases k <;> simp [keyOk] at h ⊢

theorem sameNow_of {w : World} {S : Nat → Nat → Prop} {sk : Bool} {desc : TypeDesc} (hd : desc = if sk then .string else .int .i64) {k x : D} {kv xv : Value}
    (hk : keyOk sk k = true) (hx : keyOk sk x = true) (rk : RdD w S k kv) (rx : RdD w S x xv) : Instr.sameNow desc kv xv = some (kEq k x) := by
  rcases keyOk_inv hk with ⟨rfl, s, rfl⟩ | ⟨rfl, n, rfl⟩
  · rcases keyOk_inv hx with ⟨_, s', rfl⟩ | ⟨h, _⟩
    · cases rk; cases rx
      subst hd
      simp only [Instr.sameNow, kEq, if_true]
      congr 1
      show (s.toArray == s'.toArray) = _
      simp
    · cases h
  · rcases keyOk_inv hx with ⟨h, _⟩ | ⟨_, n', rfl⟩
    · cases h
    · cases rk; cases rx
      subst hd
      simp [Instr.sameNow, kEq]

/-- Where a key lies. -/
def mfind : List (D × D) → D → Option Nat
  | [], _ => none
  | p :: r, k => if kEq k p.1 then some 0 else (mfind r k).map (· + 1)

theorem mget_of : ∀ (es : List (D × D)) (k : D), mget es k = (mfind es k).bind fun j => (es[j]?).map (·.2)
  | [], _ => rfl
  | p :: r, k => by
    simp only [mget, mfind]
    split
    · simp
    · rw [mget_of r k]
      cases mfind r k <;> simp
theorem mset_none : ∀ (es : List (D × D)) (k v : D), mfind es k = none → mset es k v = es ++ [(k, v)]
  | [], _, _, _ => rfl
  | p :: r, k, v, h => by
    simp only [mfind] at h
    split at h
    · cases h
    · rename_i hk
      simp only [mset, hk, if_false, Bool.false_eq_true, List.cons_append]
      rw [mset_none r k v (by simpa using h)]
theorem mset_some : ∀ (es : List (D × D)) (k v : D) (j : Nat), mfind es k = some j → ∃ p, es[j]? = some p ∧ mset es k v = es.set j (p.1, v)
  | [], _, _, _, h => by simp [mfind] at h
  | p :: r, k, v, j, h => by
    simp only [mfind] at h
    split at h
    · rename_i hk
      cases h
      exact ⟨p, rfl, by simp [mset, hk]⟩
    · rename_i hk
      obtain ⟨j', hj, rfl⟩ := Option.map_eq_some_iff.1 h
      obtain ⟨q, h1, h2⟩ := mset_some r k v j' hj
      exact ⟨q, by simpa using h1, by simp [mset, hk, h2]⟩
theorem mset_len (es : List (D × D)) (k v : D) : (mset es k v).length = match mfind es k with | some _ => es.length | none => es.length + 1 := by
  cases h : mfind es k with
  | none => rw [mset_none es k v h]; simp
  | some j => obtain ⟨p, _, h2⟩ := mset_some es k v j h; rw [h2]; simp

theorem findNow_of {w : World} {S : Nat → Nat → Prop} {sk : Bool} {desc : TypeDesc} (hd : desc = if sk then .string else .int .i64) {k : D} {kv : Value} (hk : keyOk sk k = true) (rk : RdD w S k kv) :
    ∀ (es : List (D × D)) (ms : List MapEntry) (n : Nat), es.length = ms.length → (∀ (i : Nat) (x : D × D) (m : MapEntry), es[i]? = some x → ms[i]? = some m → keyOk sk x.1 = true ∧ RdD w S x.1 m.key) →
      (mfind es k = none ∧ Instr.findNow desc kv ms n = some none) ∨ (∃ j p m, mfind es k = some j ∧ es[j]? = some p ∧ ms[j]? = some m ∧ Instr.findNow desc kv ms n = some (some (n + j, m.val)))
  | [], [], n, _, _ => .inl ⟨rfl, rfl⟩
  | [], _ :: _, _, h, _ => by simp at h
  | _ :: _, [], _, h, _ => by simp at h
  | x :: es, m :: ms, n, hl, hr => by
    obtain ⟨h1, h2⟩ := hr 0 x m rfl rfl
    have hs := sameNow_of hd hk h1 rk h2
    unfold Instr.findNow mfind
    rw [hs]
    cases he : kEq k x.1 with
    | true => exact .inr ⟨0, x, m, by simp, rfl, rfl, rfl⟩
    | false =>
      simp only [Bool.false_eq_true, if_false]
      rcases findNow_of hd hk rk es ms (n + 1) (by simpa using hl) (fun i x m hx hm => hr (i + 1) x m (by simpa using hx) (by simpa using hm)) with ⟨a, b⟩ | ⟨j, p, m', a, b, c, d⟩
      · exact .inl ⟨by simp [a], b⟩
      · exact .inr ⟨j + 1, p, m', by simp [a], by simpa using b, by simpa using c, by rw [d]; congr 3; omega⟩

theorem und_of_tMap {P : Program} {t : TypeId} {sk : Bool} {zd : D} (h : tMap P t = some (sk, zd)) :
    ∃ k e i zv, P.underlying t = some (.map k e) ∧ P.underlying k = some (if sk then .string else .int .i64) ∧ P.info? e = some i ∧ i.zero = some zv ∧ cvD zv = some zd := by
  unfold tMap at h
  split at h
  · rename_i k e hu
    split at h
    · rename_i sk' z hs hz
      cases h
      cases hi : P.info? e with
      | none => simp [hi] at hz
      | some i =>
        cases hzz : i.zero with
        | none => simp [hi, hzz] at hz
        | some zv =>
          simp [hi, hzz] at hz
          refine ⟨k, e, i, zv, hu, ?_, hi, hzz, hz⟩
          unfold keySort at hs
          split at hs
          · rename_i hi; cases hs; simpa using und_of_tInt hi
          · split at hs
            · rename_i hi
              cases hs
              unfold tIsStr at hi
              split at hi
              · rename_i h; simpa using h
              · cases hi
            · cases hs
    · cases h
  · cases h

theorem cvD_rd {v : Value} {d : D} (h : cvD v = some d) (w : World) (S : Nat → Nat → Prop) : RdD w S d v := by
  unfold cvD at h
  split at h <;> cases h
  · exact .int _ _
  · exact .bool _
  · rename_i s
    have : s = ⟨s.data.toList.toArray⟩ := by cases s; simp
    rw [this]; exact .str _
  · exact .nil _ _

theorem run_zeroValue {P : Program} {e : TypeId} {i : TypeInfo} {zv : Value} (hi : P.info? e = some i) (hz : i.zero = some zv) (w : World) : (zeroValue e).run P w = .ok zv w := by
  simp [zeroValue, typeInfo, hi, hz]

theorem run_findKey {P : Program} {w : World} {k : TypeId} {desc : TypeDesc} (hu : P.underlying k = some desc) {kv : Value} {ms : List MapEntry} {r : Option (Nat × Value)} (h : Instr.findNow desc kv ms 0 = some r) :
    (Instr.findKey k kv ms).run P w = .ok r w := by
  simp [Instr.findKey, run_underlying hu, h]

theorem run_checkKey {P : Program} (w : World) (b : Bool) {sk : Bool} {k : TypeId} (hu : P.underlying k = some (if sk then .string else .int .i64)) (v : Value) : (Instr.checkKey b 10000 k v).run P w = .ok () w := by
  show (Instr.checkKey b (9999 + 1) k v).run P w = _
  unfold Instr.checkKey
  cases sk <;> simp at hu <;> simp [run_underlying hu]

section
variable {P : Program} {E : Env}

theorem lookup_sound {s : St} {t : TypeId} {x i : Operand} {ok : Bool} {K : C → Prop} (hx : okOperand x = true) (hi : okOperand i = true) (h : vcLookup P s t (ev s x) (norm1 s (ev s i)) ok K) :
    Sound P s K fun a => Instr.lookup t (a.eval x) (a.eval i) ok := by
  unfold vcLookup at h
  split at h
  · rename_i r k hpx hpi
    split at h
    · rename_i sk es sk' zd ho hm
      obtain ⟨rfl, hk, hK⟩ := h
      obtain ⟨kt, e, inf, zv, hu, huk, hinf, hzv, hzd⟩ := und_of_tMap hm
      have key : ∀ E n a, RepSt E n s a → ∃ v, (Instr.lookup t (a.eval x) (a.eval i) ok).run P E.w = .ok (if ok then .tuple #[v, .bool (mget es k).isSome] else v) E.w ∧ RdD E.w E.S ((mget es k).getD zd) v := by
        intro E n a hst
        have hv := rd_ev hst x hx
        have hki := rd_norm1 hst (rd_ev hst i hi)
        rw [hpx] at hv
        rw [hpi] at hki
        generalize a.eval x = v at hv ⊢
        generalize a.eval i = kv at hki ⊢
        cases hv with
        | map _ hr =>
          cases hki with
          | d _ _ hd =>
            obtain ⟨arr, h1, h2, h3, h4⟩ := hst.heap.obj r _ ho
            rcases findNow_of (desc := if sk then .string else .int .i64) rfl hk hd es arr.toList 0 (by simpa using h2.symm) (fun i x m hx hm => by
              obtain ⟨a1, a2, _⟩ := h3 i x m hx (by simpa using hm)
              exact ⟨a1, a2⟩) with ⟨e1, e2⟩ | ⟨j, p, m, e1, e2, e3, e4⟩
            · have hg : mget es k = none := by rw [mget_of, e1]; rfl
              refine ⟨zv, ?_, by rw [hg]; exact cvD_rd hzd _ _⟩
              cases ok <;> simp [Instr.lookup, run_underlying hu, MapKept.run_getObj_map h1, run_checkKey E.w _ huk, run_findKey huk e2, run_zeroValue hinf hzv, hg]
            · have hg : mget es k = some p.2 := by rw [mget_of, e1]; simp [e2]
              obtain ⟨_, _, a3, _⟩ := h3 j p m e2 (by simpa using e3)
              refine ⟨m.val, ?_, by rw [hg]; exact a3⟩
              cases ok <;> simp [Instr.lookup, run_underlying hu, MapKept.run_getObj_map h1, run_checkKey E.w _ huk, run_findKey huk e4, hg]
      cases ok with
      | true =>
        refine ⟨_, hK, fun E n a hst => ?_⟩
        obtain ⟨v, h1, h2⟩ := key E n a hst
        refine ⟨_, h1, .tup _ #[v, .bool (mget es k).isSome] rfl (fun i c u hc hu => ?_)⟩
        match i with
        | 0 => simp at hc hu; subst hc hu; exact .d _ _ h2
        | 1 => simp at hc hu; subst hc hu; exact .d _ _ (.bool _)
        | i + 2 => simp at hc
      | false =>
        refine ⟨_, hK, fun E n a hst => ?_⟩
        obtain ⟨v, h1, h2⟩ := key E n a hst
        exact ⟨v, h1, .d _ _ h2⟩
    · exact h.elim
  · exact h.elim

theorem entry_sound {s : St} {x : Operand} {K : C → Prop} (hx : okOperand x = true) (h : vcEntry s (ev s x) K) : Sound P s K fun a => Instr.entry (a.eval x) := by
  unfold vcEntry at h
  split at h
  · rename_i r hpx
    split at h
    · rename_i m since c0 seen ho
      split at h
      · rename_i sk es i hm hl
        obtain ⟨rfl, hK, hi⟩ := h
        have hK' := hK _ (List.getElem?_eq_getElem hi)
        refine ⟨_, hK', fun E n a hst => ?_⟩
        have hv := rd_ev hst x hx
        rw [hpx] at hv
        dsimp only
        generalize a.eval x = v at hv ⊢
        cases hv with
        | ptr _ _ hr =>
          obtain ⟨h0, h1, h2⟩ := hst.heap.obj r _ ho
          obtain ⟨arr, g1, g2, g3, g4⟩ := hst.heap.obj m _ hm
          have hia : i < arr.size := by omega
          obtain ⟨_, a1, a2, _, a3⟩ := g3 i es[i] arr[i] (List.getElem?_eq_getElem hi) (Array.getElem?_eq_getElem hia)
          have hf : arr.find? (fun e => e.born == i) = some arr[i] := by
            rw [Array.find?_eq_some_iff_getElem]
            refine ⟨by simp [a3], i, hia, rfl, fun j hj => ?_⟩
            obtain ⟨_, _, _, _, b3⟩ := g3 j es[j] arr[j] (List.getElem?_eq_getElem (by omega)) (Array.getElem?_eq_getElem (by omega))
            simp [b3]; omega
          have hb : seen.toArray.back? = some i := by simpa using hl
          refine ⟨.tuple #[arr[i].key, arr[i].val], ?_, .tup _ _ rfl (fun j c u hc hu => ?_)⟩
          · have hget : (getObj (E.β r)).run P E.w = .ok (.mapIter (some (E.β m)) since seen.toArray es.length) E.w := by simp [getObj, Sem.run, h1]
            simp [Instr.entry, hget, hb, MapKept.run_getObj_map g1, hf]
          · match j with
            | 0 => simp at hc hu; subst hc hu; exact .d _ _ a1
            | 1 => simp at hc hu; subst hc hu; exact .d _ _ a2
            | j + 2 => simp at hc
      · exact h.elim
    · exact h.elim
  · exact h.elim
end
end Go.Abs
