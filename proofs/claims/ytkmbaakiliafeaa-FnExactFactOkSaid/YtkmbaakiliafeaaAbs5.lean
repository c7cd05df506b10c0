/- The plain-data layer, part 5: the rest of the operations that leave the world alone. -/
import Derived.Test.YtkmbaakiliafeaaAbs4
namespace Go.Abs

section
variable {P : Program} {E : Env}

theorem indexAddr_sound {s : St} {t : TypeId} {x i : Operand} {K : C → Prop} (hx : okOperand x = true) (hi : okOperand i = true) (h : vcIndexAddr P s t (ev s x) (ev s i) K) :
    Sound P s K fun a => Instr.indexAt t (a.eval x) (a.eval i) := by
  unfold vcIndexAddr at h
  split at h
  · rename_i k m e hpi he
    split at h
    · rename_i z hz
      have hu := und_of_tElem he
      split at h
      · rename_i xs hp
        obtain ⟨h0, h1, hall⟩ := h
        have hm : m.toNat < xs.length := by omega
        obtain ⟨h2, hk⟩ := hall xs[m.toNat] (List.getElem?_eq_getElem hm)
        refine ⟨_, hk, fun E n' a hst => ?_⟩
        have hvi := rd_ev hst i hi
        have hv := rd_norm1 hst (rd_ev hst x hx)
        rw [hp] at hv
        rw [hpi] at hvi
        dsimp only
        generalize a.eval x = v at hv ⊢
        generalize a.eval i = vi at hvi ⊢
        cases hvi with
        | d _ _ hd =>
          cases hd
          cases hv with
          | d _ _ hd =>
            cases hd with
            | nil => simp at hm
            | sl b off cap z' _ val hne hcap hmax hzz hc hr =>
              have hzz' : z' = z := by rw [← h2]; exact (hzz _ (List.getElem_mem _)).symm
              subst hzz'
              refine ⟨.pointer (some ⟨b, off + m.toNat * z', none⟩), ?_, .cptr b (off + m.toNat * z') _ (fun j => val m.toNat j) (fun j hj => ?_) (fun j c hj => ?_)⟩
              · simp [Instr.indexAt, asIntOf, run_underlying hu, h0, h1, run_sizeOf hz, Addr.add_mk]
              · exact hc _ _ hm (by rw [h2] at hj; exact hj)
              · exact hr _ j _ c (List.getElem?_eq_getElem hm) hj
      · rename_i r n hp
        obtain ⟨h0, h1, hk⟩ := h
        refine ⟨_, hk, fun E n' a hst => ?_⟩
        have hvi := rd_ev hst i hi
        have hv := rd_norm1 hst (rd_ev hst x hx)
        rw [hp] at hv
        rw [hpi] at hvi
        dsimp only
        generalize a.eval x = v at hv ⊢
        generalize a.eval i = vi at hvi ⊢
        cases hvi with
        | d _ _ hd =>
          cases hd
          cases hv with
          | rsl _ _ hr =>
            refine ⟨.pointer (some ⟨E.β r, m.toNat * z + 0, none⟩), ?_, .eptr _ _ _ _ hr⟩
            simp [Instr.indexAt, asIntOf, run_underlying hu, h0, h1, run_sizeOf hz, Addr.add_mk]
      · exact h.elim
    · exact h.elim
  · exact h.elim

theorem index_sound {s : St} {t : TypeId} {x i : Operand} {K : C → Prop} (hx : okOperand x = true) (hi : okOperand i = true)
    (h : match ev s x, ev s i with
      | .d (.str l), .d (.int _ m) => tIsStr P t = true ∧ 0 ≤ m ∧ m < l.length ∧ K (.d (.int .u8 (l.getD m.toNat 0).toNat))
      | _, _ => False) : Sound P s K fun a => Instr.index t (a.eval x) (a.eval i) := by
  split at h
  · rename_i l k m hp hpi
    obtain ⟨ht, h0, h1, hk⟩ := h
    have hu : P.underlying t = some .string := by
      unfold tIsStr at ht
      split at ht
      · assumption
      · simp at ht
    refine ⟨_, hk, fun E n' a hst => ?_⟩
    have hvi := rd_ev hst i hi
    have hv := rd_ev hst x hx
    rw [hp] at hv
    rw [hpi] at hvi
    dsimp only
    generalize a.eval x = v at hv ⊢
    generalize a.eval i = vi at hvi ⊢
    have hm : m.toNat < l.length := by omega
    cases hvi with
    | d _ _ hd =>
      cases hd
      cases hv with
      | d _ _ hd =>
        cases hd
        refine ⟨_, ?_, .d _ _ (.int _ _)⟩
        have hget : (⟨l.toArray⟩ : ByteArray)[m.toNat]? = some (l.getD m.toNat 0) := by
          rw [ByteArray.getElem?_lt' _ _ (by simpa [ByteArray.size] using hm)]
          congr 1
          rw [List.getD_eq_getElem?_getD, List.getElem?_eq_getElem hm]
          rfl
        simp [Instr.index, asIntOf, run_underlying hu, h0, hget]
  · exact h.elim

theorem run_eql_bool (w : World) {t : TypeId} (h : P.underlying t = some .bool) (a b : Bool) : (Op.equal t (.bool a) (.bool b)).run P w = .ok (a == b) w := by
  show (Op.equalIn (9999 + 1) t (.bool a) (.bool b)).run P w = _
  unfold Op.equalIn
  simp [run_underlying h]

theorem run_bin {o : Oper} {op : BinOp} {t u : TypeId} {x y : Operand} (ho : o.op = .binOp op t x y u) {ρ : Operand → Value} {w : World} {r : Value}
    (hg : (eqGuard op t x y (ρ x) (ρ y)).run P w = .ok () w) (h : (binOp op t (ρ x) (ρ y)).run P w = .ok r w) : (execOp ρ o).run P w = .ok (.value r) w := by
  unfold execOp
  simp only [ho, Sem.run_bind, hg, Result.andThen_ok, h, Sem.run_pure]

theorem guard_int {op : BinOp} {t : TypeId} {x y : Operand} {k : IntKind} {a : Int} {v : Value} {w : World} : (eqGuard op t x y (.int k a) v).run P w = .ok () w := by
  unfold eqGuard
  split <;> rfl
theorem guard_str {op : BinOp} {t : TypeId} {x y : Operand} {a : ByteArray} {v : Value} {w : World} : (eqGuard op t x y (.string a) v).run P w = .ok () w := by
  unfold eqGuard
  split <;> rfl
theorem guard_bool {op : BinOp} {t : TypeId} {x y : Operand} {a : Bool} {v : Value} {w : World} : (eqGuard op t x y (.bool a) v).run P w = .ok () w := by
  unfold eqGuard
  split <;> rfl

theorem str_append (a b : List UInt8) : (⟨a.toArray⟩ : ByteArray) ++ ⟨b.toArray⟩ = ⟨(a ++ b).toArray⟩ := by
  have : ((⟨a.toArray⟩ : ByteArray) ++ ⟨b.toArray⟩).data = (a ++ b).toArray := by simp
  cases h : (⟨a.toArray⟩ : ByteArray) ++ ⟨b.toArray⟩
  rw [h] at this
  simp only at this
  rw [this]

theorem bin_sound {s : St} {o : Oper} {op : BinOp} {t u : TypeId} {x y : Operand} (ho : o.op = .binOp op t x y u) {K : C → Prop} (hx : okOperand x = true) (hy : okOperand y = true) (h : vcBin P s op t (ev s x) (ev s y) K) :
    ∃ c, K c ∧ ∀ E n a, RepSt E n s a → Yields P E a o c := by
  unfold vcBin at h
  split at h
  · rename_i k a k' b hp hq
    obtain ⟨rfl, h⟩ := h
    have key : ∀ r, (∀ w, (binOp op t (.int k a) (.int k b)).run P w = .ok r w) → ∀ c, (∀ E : Env, Rd E c r) → ∀ E n a, RepSt E n s a → Yields P E a o c := by
      intro r hr c hc E n' ac hst
      have hv := rd_norm1 hst (rd_ev hst x hx)
      have hw := rd_norm1 hst (rd_ev hst y hy)
      rw [hp] at hv
      rw [hq] at hw
      cases hv with
      | d _ _ hd =>
        cases hw with
        | d _ _ hd' =>
          generalize e1 : ac.eval x = v at hd
          generalize e2 : ac.eval y = v' at hd'
          cases hd
          cases hd'
          exact ⟨r, run_bin ho (by rw [e1]; exact guard_int) (by rw [e1, e2]; exact hr _), hc E⟩
    cases op <;> simp only at h
    case quo => exact ⟨_, h.2, key (.int k (k.wrap (a.tdiv b))) (fun w => by simp [binOp, Op.intDiv, h.1]) _ (fun E => .d _ _ (.int _ _))⟩
    case rem => exact ⟨_, h.2, key (.int k (a.tmod b)) (fun w => by simp [binOp, Op.intDiv, h.1]) _ (fun E => .d _ _ (.int _ _))⟩
    case add => exact ⟨_, h, key (.int k (k.wrap (a + b))) (fun w => by simp [binOp, Op.intArith]) _ (fun E => .d _ _ (.int _ _))⟩
    case sub => exact ⟨_, h, key (.int k (k.wrap (a - b))) (fun w => by simp [binOp, Op.intArith]) _ (fun E => .d _ _ (.int _ _))⟩
    case mul => exact ⟨_, h, key (.int k (k.wrap (a * b))) (fun w => by simp [binOp, Op.intArith]) _ (fun E => .d _ _ (.int _ _))⟩
    case eql => exact ⟨_, h, key (.bool (a == b)) (fun w => by simp [binOp, Op.intCmp]) _ (fun E => .d _ _ (.bool _))⟩
    case neq => exact ⟨_, h, key (.bool (a != b)) (fun w => by simp [binOp, Op.intCmp]) _ (fun E => .d _ _ (.bool _))⟩
    case lss => exact ⟨_, h, key (.bool (decide (a < b))) (fun w => by simp [binOp, Op.intCmp]) _ (fun E => .d _ _ (.bool _))⟩
    case leq => exact ⟨_, h, key (.bool (decide (a ≤ b))) (fun w => by simp [binOp, Op.intCmp]) _ (fun E => .d _ _ (.bool _))⟩
    case gtr => exact ⟨_, h, key (.bool (decide (a > b))) (fun w => by simp [binOp, Op.intCmp]) _ (fun E => .d _ _ (.bool _))⟩
    case geq => exact ⟨_, h, key (.bool (decide (a ≥ b))) (fun w => by simp [binOp, Op.intCmp]) _ (fun E => .d _ _ (.bool _))⟩
    all_goals exact h.elim
  · rename_i a b hp hq
    have key : ∀ r, (∀ w, (binOp op t (.string ⟨a.toArray⟩) (.string ⟨b.toArray⟩)).run P w = .ok r w) → ∀ c, (∀ E : Env, Rd E c r) → ∀ E n a, RepSt E n s a → Yields P E a o c := by
      intro r hr c hc E n' ac hst
      have hv := rd_norm1 hst (rd_ev hst x hx)
      have hw := rd_norm1 hst (rd_ev hst y hy)
      rw [hp] at hv
      rw [hq] at hw
      cases hv with
      | d _ _ hd =>
        cases hw with
        | d _ _ hd' =>
          generalize e1 : ac.eval x = v at hd
          generalize e2 : ac.eval y = v' at hd'
          cases hd
          cases hd'
          exact ⟨r, run_bin ho (by rw [e1]; exact guard_str) (by rw [e1, e2]; exact hr _), hc E⟩
    cases op <;> simp only at h
    case add =>
      refine ⟨_, h.2, key (.string ⟨(a ++ b).toArray⟩) (fun w => ?_) _ (fun E => .d _ _ (.str _))⟩
      have hl : ¬ (((⟨a.toArray⟩ : ByteArray).size + (⟨b.toArray⟩ : ByteArray).size : Nat) : Int) > IntKind.i64.max := by
        have h1 := h.1
        simp only [maxLen] at h1
        have hmax : IntKind.i64.max = 9223372036854775807 := by decide
        rw [hmax]
        simp only [ByteArray.size, List.size_toArray]
        omega
      simp only [binOp, Op.stringOp, if_neg hl, str_append]
      rfl
    case eql => exact ⟨_, h, key (.bool (a == b)) (fun w => by simp [binOp, Op.stringOp]) _ (fun E => .d _ _ (.bool _))⟩
    case neq => exact ⟨_, h, key (.bool (!(a == b))) (fun w => by simp [binOp, Op.stringOp]) _ (fun E => .d _ _ (.bool _))⟩
    case lss => exact ⟨_, h, key (.bool (Op.bytesLess a b)) (fun w => by simp [binOp, Op.stringOp]) _ (fun E => .d _ _ (.bool _))⟩
    case leq => exact ⟨_, h, key (.bool (Op.bytesLess a b || a == b)) (fun w => by simp [binOp, Op.stringOp]) _ (fun E => .d _ _ (.bool _))⟩
    case gtr => exact ⟨_, h, key (.bool (!(Op.bytesLess a b || a == b))) (fun w => by simp [binOp, Op.stringOp]) _ (fun E => .d _ _ (.bool _))⟩
    case geq => exact ⟨_, h, key (.bool (!Op.bytesLess a b)) (fun w => by simp [binOp, Op.stringOp]) _ (fun E => .d _ _ (.bool _))⟩
    all_goals exact h.elim
  · rename_i a b hp hq
    have key : ∀ r, (∀ w, (binOp op t (.bool a) (.bool b)).run P w = .ok r w) → ∀ c, (∀ E : Env, Rd E c r) → ∀ E n a, RepSt E n s a → Yields P E a o c := by
      intro r hr c hc E n' ac hst
      have hv := rd_norm1 hst (rd_ev hst x hx)
      have hw := rd_norm1 hst (rd_ev hst y hy)
      rw [hp] at hv
      rw [hq] at hw
      cases hv with
      | d _ _ hd =>
        cases hw with
        | d _ _ hd' =>
          generalize e1 : ac.eval x = v at hd
          generalize e2 : ac.eval y = v' at hd'
          cases hd
          cases hd'
          exact ⟨r, run_bin ho (by rw [e1]; exact guard_bool) (by rw [e1, e2]; exact hr _), hc E⟩
    cases op <;> simp only at h
    case eql => exact ⟨_, h.2, key (.bool (a == b)) (fun w => by simp [binOp, run_eql_bool w h.1]) _ (fun E => .d _ _ (.bool _))⟩
    case neq => exact ⟨_, h.2, key (.bool (!(a == b))) (fun w => by simp [binOp, run_eql_bool w h.1]) _ (fun E => .d _ _ (.bool _))⟩
    all_goals exact h.elim
  · exact h.elim

theorem len_sound {s : St} {t ty : TypeId} {x : Operand} {K : C → Prop} (hx : okOperand x = true) (h : vcLen P s t (ev s x) K) :
    Sound P s K fun a => Builtin.len_ #[t] ty #[a.eval x] := by
  unfold vcLen at h
  split at h
  · rename_i l hp
    obtain ⟨ht, hk⟩ := h
    have hu : P.underlying t = some .string := by
      unfold tIsStr at ht
      split at ht
      · assumption
      · simp at ht
    refine ⟨_, hk, fun E n' a hst => ?_⟩
    have hv := rd_norm1 hst (rd_ev hst x hx)
    rw [hp] at hv
    dsimp only
    generalize a.eval x = v at hv ⊢
    cases hv with
    | d _ _ hd =>
      cases hd
      refine ⟨.int .i64 l.length, ?_, .d _ _ (.int _ _)⟩
      rw [run_len_string _ _ _ _ hu]
      simp [goInt, ByteArray.size]
  · rename_i l hp
    obtain ⟨ht, hk⟩ := h
    obtain ⟨e, hu⟩ : ∃ e, P.underlying t = some (.slice e) := by
      unfold tIsSlice at ht
      split at ht
      · exact ⟨_, by assumption⟩
      · simp at ht
    refine ⟨_, hk, fun E n' a hst => ?_⟩
    have hv := rd_norm1 hst (rd_ev hst x hx)
    rw [hp] at hv
    dsimp only
    generalize a.eval x = v at hv ⊢
    cases hv with
    | d _ _ hd =>
      cases hd with
      | nil a' cap => exact ⟨.int .i64 0, by simp [Builtin.len_, run_underlying hu, goInt], .d _ _ (.int _ _)⟩
      | sl b off cap z _ val => exact ⟨.int .i64 l.length, by simp [Builtin.len_, run_underlying hu, goInt], .d _ _ (.int _ _)⟩
  · rename_i r n hp
    obtain ⟨ht, hk⟩ := h
    obtain ⟨e, hu⟩ : ∃ e, P.underlying t = some (.slice e) := by
      unfold tIsSlice at ht
      split at ht
      · exact ⟨_, by assumption⟩
      · simp at ht
    refine ⟨_, hk, fun E n' a hst => ?_⟩
    have hv := rd_norm1 hst (rd_ev hst x hx)
    rw [hp] at hv
    dsimp only
    generalize a.eval x = v at hv ⊢
    cases hv with
    | rsl _ _ hr => exact ⟨.int .i64 n, by simp [Builtin.len_, run_underlying hu, goInt], .d _ _ (.int _ _)⟩
  · rename_i r hp
    split at h
    · rename_i sk es ho
      obtain ⟨ht, hk⟩ := h
      obtain ⟨k, e, hu⟩ : ∃ k e, P.underlying t = some (.map k e) := by
        unfold tIsMap at ht
        split at ht
        · exact ⟨_, _, by assumption⟩
        · simp at ht
      refine ⟨_, hk, fun E n' a hst => ?_⟩
      have hv := rd_norm1 hst (rd_ev hst x hx)
      rw [hp] at hv
      dsimp only
      generalize a.eval x = v at hv ⊢
      cases hv with
      | map _ hr =>
        obtain ⟨arr, h1, h2, _⟩ := hst.heap.obj r _ ho
        exact ⟨.int .i64 es.length, by simp [Builtin.len_, run_underlying hu, getObj, Sem.run, h1, goInt, h2], .d _ _ (.int _ _)⟩
    · exact h.elim
  · exact h.elim

end
end Go.Abs
