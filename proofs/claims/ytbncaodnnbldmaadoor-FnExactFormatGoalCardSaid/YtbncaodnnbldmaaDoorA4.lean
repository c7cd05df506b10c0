import Derived.Test.YtbncaodnnbldmaaDoorA3
import Derived.Still
import Derived.ChangeSame
import Derived.RowKit3
namespace Go.Abs
section
variable {P : Program}
def Env.ghost (E : Env) (a : Option Addr) : Env := { E with N := E.N + 1, τ := fun r => if r = E.N then (0, .slice a 0 0) else E.τ r }
theorem rep_ghost {E : Env} {H : List O} (h : RepH E H) (a : Option Addr) {z : Nat} (e : TypeId) (hz : 0 < z) :
  Le E (E.ghost a) ∧ RepH (E.ghost a) (H ++ [.grow 0 z e []]) := by
 have hl : Le E (E.ghost a) := by
  refine ⟨rfl, rfl, rfl, Nat.le_refl _, by simp [Env.ghost], fun _ _ => rfl, fun r hr => ?_, fun _ _ hs => hs, fun _ _ _ => rfl, fun _ _ _ => rfl, fun _ _ hs => .inl hs, fun _ hp => .inl hp, fun _ _ _ _ _ hh => hh⟩
  simp only [Env.ghost]
  rw [if_neg (by omega)]
  exact ⟨Nat.le_refl _, fun _ => rfl⟩
 refine ⟨hl, h.turn (r0 := H.length) (o0 := .grow 0 z e []) hl (by simp [Env.ghost, h.N]) (fun r hr => ?_) (fun o ho => ?_) (fun r hr hr' => ?_) (fun r o b hr ho hb => ⟨rfl, fun i hs => hs⟩) (fun b hb => hb) (fun b i hs => h.Slt b i hs) ?_ (fun b hb => ?_)⟩
 ·by_cases hlt : r < H.length
  ·rw [List.getElem?_append_left hlt]
  ·rw [List.getElem?_eq_none (by simp; omega), List.getElem?_eq_none (by omega)]
 ·simpa using ho.symm
 ·simp only [Env.ghost]; rw [if_neg (by omega)]
 ·exact ⟨by simp [Env.ghost, h.N], by simp, hz, .inl ⟨a, by simp [Env.ghost, h.N], rfl⟩⟩
 ·simp only [O.block, Env.ghost, h.N, if_pos, ownB] at hb
  cases a <;> simp at hb
theorem plain_of {u : TypeId} (h : tIsSlice P u = true) : Plain P u := by
 unfold tIsSlice at h
 split at h
 ·exact .inl ⟨_, by assumption⟩
 ·simp at h
theorem plain_of_str {u : TypeId} (h : tIsStr P u = true) : Plain P u := by
 unfold tIsStr at h
 split at h
 ·exact .inr (by assumption)
 ·simp at h
theorem str_cells (E : Env) (l : List UInt8) : Cells E.w E.S 1 (l.map fun b => [D.int .u8 b.toNat]) (l.map fun b => Value.int .u8 b.toNat) := by
 refine ⟨by simp, fun x hx => ?_, fun i j x c hi hj => ?_, fun u hu => ?_⟩
 ·obtain ⟨b, _, rfl⟩ := List.mem_map.1 hx; rfl
 ·simp only [List.getElem?_map, Option.map_eq_some_iff] at hi
  obtain ⟨b, hb, rfl⟩ := hi
  have hj0 : j = 0 := by
   have := (List.getElem?_eq_some_iff.1 hj).1
   simp at this; exact this
  subst hj0
  simp only [List.getElem?_cons_zero, Option.some.injEq] at hj
  subst hj
  exact ⟨.int .u8 b.toNat, by simp [hb], rfl, .int _ _⟩
 ·obtain ⟨b, _, rfl⟩ := List.mem_map.1 hu; rfl
structure Src (P : Program) (E : Env) (z : Nat) (u : TypeId) (ys : List (List D)) (x : Value) : Prop where
 plain : Plain P u
 cells : ∃ L, Cells E.w E.S z ys L ∧ ∀ w' : World, (∀ b i, E.S b i → w'.cell? ⟨b, i, none⟩ = E.w.cell? ⟨b, i, none⟩) → (Builtin.firstCells z ys.length x).run P w' = .ok L.toArray w'
 len : ∀ w, (Builtin.lenOf x).run P w = .ok ys.length w
theorem src_sl {E : Env} {z : Nat} {u : TypeId} {ys : List (List D)} {x : Value} (hu : tIsSlice P u = true) (hz : ∀ y, y ∈ ys → y.length = z) (h : RdD E.w E.S (.sl ys) x) : Src P E z u ys x := by
 obtain ⟨L, h1, ad, cap, rfl, h2⟩ := cells_of_rdD (P := P) hz h
 exact ⟨plain_of hu, ⟨L, h1, h2⟩, fun w => by simp [Builtin.lenOf]⟩
theorem src_str {E : Env} {u : TypeId} {l : List UInt8} (hu : tIsStr P u = true) : Src P E 1 u (l.map fun b => [D.int .u8 b.toNat]) (.string ⟨l.toArray⟩) := by
 refine ⟨plain_of_str hu, ⟨_, str_cells E l, fun w' _ => ?_⟩, fun w => by simp [Builtin.lenOf, ByteArray.size]⟩
 simp only [Builtin.firstCells, Sem.run_pure, List.length_map]
 congr 1
 have : ((⟨l.toArray⟩ : ByteArray).extract 0 l.length).data = l.toArray := by
  rw [ByteArray.data_extract]
  simp
 rw [this]
 simp
theorem append_both {s : St} {o : Oper} {K : C → List O → Prop} {x y : Operand} {t u e : TypeId} {z by_ : Nat} (ho : o.op = .call { callee := .builtin .append, args := #[x, y], argTypes := #[t, u] })
  (hx : okOperand x = true) (ht : tSlice P t = some (e, z, by_)) {ys : List (List D)} (hsrc : ∀ E n a, RepSt E n s a → Src P E z u ys (a.eval y))
  (h : match ev s x with
   | .nil0 => ys.length ≤ maxLen ∧ ys.length * by_ ≤ 140737488355328 ∧ K (.own s.H.length 1) (s.H ++ [.grow 1 z e ys])
   | .own r q =>
    (match s.H[r]? with
    | some (.grow q' z' e' xs) => q = q' ∧ z = z' ∧ e = e' ∧ xs.length + ys.length ≤ maxLen ∧ (xs.length + ys.length) * by_ ≤ 140737488355328 ∧
      K (.own r (q + 1)) (s.H.set r (.grow (q + 1) z e (xs ++ ys)))
    | some (.buf q' z' e' xs) => q = q' ∧ z = z' ∧ e = e' ∧ xs.length + ys.length ≤ maxLen ∧ (xs.length + ys.length) * by_ ≤ 140737488355328 ∧
      K (.own r (q + 1)) (s.H.set r (.buf (q + 1) z e (xs ++ ys)))
    | _ => False)
   | _ => False) : EffOk P s o K := by
 have hz : 0 < z := (of_tSlice ht).2.1
 intro E ns a hst
 have hs := hsrc E ns a hst
 obtain ⟨L, hL, hfx⟩ := hs.cells
 have hvx := rd_ev hst x hx
 have fin : ∀ (r : Nat) (v' : Value) (E' : Env) (H' : List O) (q : Nat), (Builtin.append_ #[t, u] o.type #[a.eval x, a.eval y]).run P E.w = .ok v' E'.w → Le E E' → RepH E' H' → E'.τ r = (q, v') → v'.oneCell' = true → r < E'.N → K (.own r q) H' →
   o.wp P a E.w (fun a' w' => ∃ v E' c H', a' = a.put o.dst v ∧ E'.w = w' ∧ Rd E' c v ∧ RepH E' H' ∧ Le E E' ∧ K c H') (fun _ _ _ => False) := by
  intro r v' E' H' q hrun hl hH hτ h1 hN hk
  unfold Oper.wp execOp
  simp only [ho, resolve, invoke, builtin, Sem.run_bind, Sem.run_pure, Result.andThen_ok, List.map_toArray, List.map_cons, List.map_nil, hrun, Oper.upon]
  exact ⟨v', E', _, H', rfl, rfl, .own r q v' hN h1 (by rw [hτ]; exact Nat.le_refl _) (fun _ => by rw [hτ]), hH, hl, hk⟩
 split at h
 ·rename_i hev
  obtain ⟨h1, h2, hk⟩ := h
  rw [hev] at hvx
  generalize hg : a.eval x = v at hvx
  cases hvx with
  | nil0 ad =>
   obtain ⟨hl0, hH0⟩ := rep_ghost hst.heap ad e hz
   have hr : (s.H ++ [O.grow 0 z e []])[s.H.length]? = some (.grow 0 z e []) := by simp
   have hτ0 : ((E.ghost ad).τ s.H.length).2 = .slice ad 0 0 := by simp [Env.ghost, hst.heap.N]
   obtain ⟨v', E', k1, k2, k3, k4, k5⟩ := append_own (P := P) (ty := o.type) hH0 ht hs.plain hr (x := a.eval y) hL hs.len hfx (by simpa using h1) (by simpa using h2)
   rw [hτ0] at k1
   refine fin s.H.length v' E' _ 1 (by rw [hg]; exact k1) (hl0.trans k2) k3 k4 k5 ?_ (by simpa using hk)
   rw [k3.N]; simp
 ·rename_i r q hev
  split at h
  ·rename_i q' z' e' xs hr
   obtain ⟨rfl, rfl, rfl, h1, h2, hk⟩ := h
   rw [hev] at hvx
   generalize hg : a.eval x = v at hvx
   cases hvx with
   | own _ _ _ hN hone hq hv =>
    have hobj := hst.heap.obj r _ hr
    have hv := hv hobj.1.symm
    obtain ⟨v', E', k1, k2, k3, k4, k5⟩ := append_own (P := P) (ty := o.type) hst.heap ht hs.plain hr (x := a.eval y) hL hs.len hfx h1 h2
    refine fin r v' E' _ (q + 1) (by rw [hg, hv]; exact k1) k2 k3 k4 k5 ?_ hk
    exact Nat.lt_of_lt_of_le hN k2.N
  ·rename_i q' z' e' xs hr
   obtain ⟨rfl, rfl, rfl, h1, h2, hk⟩ := h
   rw [hev] at hvx
   generalize hg : a.eval x = v at hvx
   cases hvx with
   | own _ _ _ hN hone hq hv =>
    have hobj := hst.heap.obj r _ hr
    have hv := hv hobj.1.symm
    obtain ⟨v', E', k1, k2, k3, k4, k5⟩ := append_buf (P := P) (ty := o.type) hst.heap ht hs.plain hr (x := a.eval y) hL hs.len hfx h1 h2
    refine fin r v' E' _ (q + 1) (by rw [hg, hv]; exact k1) k2 k3 k4 k5 ?_ hk
    exact Nat.lt_of_lt_of_le hN k2.N
  ·exact h.elim
 ·exact h.elim
theorem effOk_append {s : St} {o : Oper} {K : C → List O → Prop} {x y : Operand} {t u : TypeId} (ho : o.op = .call { callee := .builtin .append, args := #[x, y], argTypes := #[t, u] })
  (hx : okOperand x = true) (hy : okOperand y = true) (h : vcAppend P s t u (ev s x) (ev s y) K) : EffOk P s o K := by
 unfold vcAppend at h
 split at h
 ·rename_i e z by_ ht
  split at h
  ·rename_i ys hys
   obtain ⟨_, hu, hyz, h⟩ := h
   refine append_both ho hx ht (ys := ys) (fun E n a hst => ?_) h
   have hv := rd_norm1 hst (rd_ev hst y hy)
   rw [hys] at hv
   generalize a.eval y = v at hv ⊢
   cases hv with
   | d _ _ hd => exact src_sl hu hyz hd
  ·rename_i l hys
   obtain ⟨hu, rfl, h⟩ := h
   refine append_both ho hx ht (ys := l.map fun b => [D.int .u8 b.toNat]) (fun E n a hst => ?_) (by simp only [List.length_map]; exact h)
   have hv := rd_norm1 hst (rd_ev hst y hy)
   rw [hys] at hv
   generalize a.eval y = v at hv ⊢
   cases hv with
   | d _ _ hd => cases hd; exact src_str hu
  ·exact h.elim
 ·exact h.elim
theorem effOk_call {s : St} {o : Oper} {K : C → List O → Prop} {c : Call} {f : Operand} (ho : o.op = .call c) (hcal : c.callee = .value f) (hf : okOperand f = true) (ha : c.args.all okOperand = true)
  (h : match ev s f with
   | .fn g caps => isGo P g = true ∧ ACalls P g (c.args.toList.map (fun x => norm s (ev s x)) ++ caps) s.H K
   | _ => False) : EffOk P s o K := by
 split at h
 ·rename_i g caps hev
  obtain ⟨hgo, hcall⟩ := h
  intro E ns a hst
  have hvf := rd_ev hst f hf
  rw [hev] at hvf
  generalize hg : a.eval f = v at hvf
  cases hvf with
  | fn _ _ vs hl hr =>
   unfold isGo at hgo
   split at hgo
   ·rename_i fn hfn
    simp only [Bool.and_eq_true, Bool.not_eq_true'] at hgo
    obtain ⟨hb, hname⟩ := hgo
    have hnone : ¬ fn.body = none := fun hbb => by simp [hbb] at hb
    have hname' : ¬ fn.name = "runtime.NumGoroutine" := by simpa using hname
    have hc := hcall E (c.args.map a.eval ++ vs) hst.heap (by simp [hl]) (fun i cc vv hi hv => by
     by_cases hlt : i < c.args.size
     ·rw [List.getElem?_append_left (by simpa using hlt)] at hi
      rw [Array.getElem?_append_left (by simpa using hlt)] at hv
      simp only [List.getElem?_map, Array.getElem?_toList, Option.map_eq_some_iff] at hi
      obtain ⟨x, hx, rfl⟩ := hi
      simp only [Array.getElem?_map, hx, Option.map_some, Option.some.injEq] at hv
      subst hv
      refine rd_norm hst (rd_ev hst x ?_)
      simp only [Array.all_eq_true] at ha
      obtain ⟨hlt', rfl⟩ := Array.getElem?_eq_some_iff.1 hx
      exact ha i hlt'
     ·rw [List.getElem?_append_right (by simp; omega)] at hi
      rw [Array.getElem?_append_right (by simp; omega)] at hv
      simp only [List.length_map, Array.length_toList] at hi
      simp only [Array.size_map] at hv
      exact hr _ cc vv hi hv)
    unfold Oper.wp execOp
    simp only [ho, resolve, hcal, hg, Deferred.ofValue]
    simp [invoke, callFunc, hfn, hname', hnone, Oper.upon]
    refine hc.mono ?_
    rintro e w' ⟨v, r, E', H', rfl, h2, h3, h4, h5, h6, h7⟩
    exact ⟨v, rfl, E', h2, r, h5, H', h3, h4, h7⟩
   ·simp at hgo
 ·exact h.elim
theorem vcEff_sound {s : St} {o : Oper} {K : C → List O → Prop} (h : vcEff P s o K) : EffOk P s o K := by
 unfold vcEff at h
 split at h
 ·rename_i t x ho
  exact effOk_box ho h.1 h.2.1 h.2.2
 ·rename_i t ho
  exact effOk_alloc ho h
 ·rename_i t p x ho
  exact effOk_store ho h.1 h.2.1 h.2.2
 ·rename_i t n ps ho
  exact effOk_buildSlice ho h
 ·rename_i t x y ho
  obtain ⟨rfl, h1, h2⟩ := h
  exact effOk_make ho h1 h2
 ·rename_i t ho
  exact effOk_makeMap ho h
 ·rename_i t m k v ho
  exact effOk_insert (.inl ho) h.1 h.2.1 h.2.2.1 h.2.2.2
 ·rename_i t m k v ho
  exact effOk_insert (.inr ho) h.1 h.2.1 h.2.2.1 h.2.2.2
 ·rename_i t x ho
  exact effOk_range ho h.1 h.2.1 h.2.2
 ·rename_i x ho
  exact effOk_next ho h.1 h.2
 ·rename_i c ho
  obtain ⟨callee, args, argTypes⟩ := c
  dsimp only at h
  split at h
  ·split at h
   ·rename_i x y t u hargs hts
    have e1 : args = #[x, y] := Array.toList_inj.1 (by simpa using hargs)
    have e2 : argTypes = #[t, u] := Array.toList_inj.1 (by simpa using hts)
    subst e1 e2
    exact effOk_append ho h.1 h.2.1 h.2.2
   ·exact h.elim
  ·rename_i f
   exact effOk_call ho rfl h.1 h.2.1 h.2.2
  ·exact effOk_of_pure h
 ·rename_i t x ho
  split at h
  ·rename_i hp
   exact effOk_lend ho h.1 hp h.2
  ·exact effOk_of_pure h
 ·exact effOk_of_pure h
end
end Go.Abs
namespace Go.Abs
def okDst (n : Nat) (o : Oper) : Bool := match o.dst with | some d => decide (d < n) | none => true
def br (b : Bool) (p q : Unit → Prop) : Prop := (b = true → p ()) ∧ (b = false → q ())
def app {α : Type} (F : α → Prop) (x : α) : Unit → Prop := fun _ => F x
theorem br_true (p q : Unit → Prop) : br true p q = p () := by simp [br]
theorem br_false (p q : Unit → Prop) : br false p q = q () := by simp [br]
theorem app_eq {α : Type} (F : α → Prop) (x : α) : app F x () = F x := rfl
theorem br_intro {α β : Type} {b : Bool} {F : α → Prop} {x : α} {G : β → Prop} {y : β} (h : b = true → F x) (k : b = false → G y) : br b (app F x) (app G y) := ⟨h, k⟩
def kR (F : St → Prop) (s : St) (dst : Option Tmp) : C → List O → Prop := fun c H' => F (put { s with H := H' } dst c)
def vcR (P : Program) (n : Nat) (ops : Array Oper) (K : St → Prop) : List Oper → St → Prop
 | [], ⟨σ, H⟩ => K ⟨σ, H⟩
 | o :: rest, ⟨σ, H⟩ => okDst n o = true ∧
  (match o.guard with
  | none => vcEff P ⟨σ, H⟩ o (kR (vcR P n ops K rest) ⟨σ, H⟩ o.dst)
  | some (j, want) =>
   match (ops[j]?).bind (·.dst) with
   | some t =>
    match get σ t with
    | .d (.bool b) =>
     br (b == want) (app (vcEff P (put ⟨σ, H⟩ (some t) (.d (.bool want))) o) (kR (vcR P n ops K rest) (put ⟨σ, H⟩ (some t) (.d (.bool want))) o.dst))
      (app (vcR P n ops K rest) (put (put ⟨σ, H⟩ (some t) (.d (.bool (!want)))) o.dst (.tup [])))
    | .tup [] => vcR P n ops K rest (put ⟨σ, H⟩ o.dst (.tup []))
    | _ => False
   | none => False)
section
variable {P : Program} {n : Nat} {ops : Array Oper} {K : St → Prop}
def Behind (n : Nat) (E0 : Env) (K : St → Prop) : Exit → Act → World → Prop :=
 fun e a' w' => e = .normal ∧ ∃ E' s', E'.w = w' ∧ RepSt E' n s' a' ∧ Le E0 E' ∧ K s'
theorem wanted_of {s : St} {E : Env} {a : Act} (hst : RepSt E n s a) {o : Oper} {j : Nat} {want b : Bool} {t : Tmp} (hg : o.guard = some (j, want)) (ht : (ops[j]?).bind (·.dst) = some t) (hb : get s.σ t = .d (.bool b)) :
  Region.wanted o (yielded ops a.tmps) = (b == want) := by
 have hv := hst.slot t
 rw [hb] at hv
 unfold Region.wanted
 simp only [hg]
 unfold yielded
 simp only [ht]
 generalize hx : a.tmps.getD t undef = v at hv
 cases hv with
 | d _ _ hd =>
  cases hd
  rw [Array.getD_eq_getD_getElem?] at hx
  cases hh : a.tmps[t]? with
  | none => rw [hh] at hx; simp [undef] at hx
  | some x =>
   rw [hh] at hx
   simp only [Option.getD_some] at hx
   subst hx
   simp only [Option.bind_some, hh]
   cases b <;> cases want <;> rfl
theorem rd_undef (E : Env) : Rd E (.tup []) undef := .tup [] #[] rfl (fun i c v hc => by simp at hc)
theorem wanted_skip {s : St} {E : Env} {a : Act} (hst : RepSt E n s a) {o : Oper} {j : Nat} {want : Bool} {t : Tmp} (hg : o.guard = some (j, want)) (ht : (ops[j]?).bind (·.dst) = some t) (hb : get s.σ t = .tup []) :
  Region.wanted o (yielded ops a.tmps) = false := by
 have hv := hst.slot t
 rw [hb] at hv
 unfold Region.wanted
 simp only [hg]
 unfold yielded
 simp only [ht]
 generalize hx : a.tmps.getD t undef = v at hv
 cases hv with
 | tup _ vs hl _ =>
  rw [Array.getD_eq_getD_getElem?] at hx
  cases hh : a.tmps[t]? with
  | none => simp [hh]
  | some x =>
   rw [hh] at hx
   simp only [Option.getD_some] at hx
   subst hx
   simp [hh]
theorem RepSt.same {s : St} {E : Env} {a : Act} (hst : RepSt E n s a) {t : Nat} {c : C} (hc : get s.σ t = c) : RepSt E n (Abs.put s (some t) c) a := by
 refine ⟨hst.size, hst.defers, hst.heap, fun t' => ?_⟩
 simp only [Abs.put, get]
 split
 ·rename_i e; subst e; rw [← hc]; exact hst.slot t
 ·exact hst.slot t'
theorem vcR_sound : ∀ (os : List Oper) (l : List Nat) (s : St) (E0 E : Env) (a : Act), l.map (ops[·]?) = os.map some → RepSt E n s a → Le E0 E → vcR P n ops K os s →
  wpOps P ops (Behind n E0 K) l a E.w
 | [], l, s, E0, E, a, hl, hst, hle, h => by
  have : l = [] := by simpa using hl
  subst this
  exact ⟨rfl, E, s, rfl, hst, hle, h⟩
 | o :: os, l, s, E0, E, a, hl, hst, hle, h => by
  cases l with
  | nil => simp at hl
  | cons i l =>
   simp only [List.map_cons, List.cons.injEq] at hl
   obtain ⟨ho, hl⟩ := hl
   unfold vcR at h
   obtain ⟨hd, h⟩ := h
   have hdst : ∀ d, o.dst = some d → d < n := fun d hd' => by
    unfold okDst at hd
    rw [hd'] at hd
    simpa using hd
   simp only [wpOps, ho]
   have run : ∀ (s : St), RepSt E n s a → vcEff P s o (kR (vcR P n ops K os) s o.dst) → o.wp P a E.w (wpOps P ops (Behind n E0 K) l) (Behind n E0 K) := by
    intro s hst h
    have hw := vcEff_sound h E n a hst
    unfold Oper.wp at hw ⊢
    generalize (execOp a.eval o).run P E.w = r at hw ⊢
    have key : ∀ a' w', (∃ v E' c H', a' = a.put o.dst v ∧ E'.w = w' ∧ Rd E' c v ∧ RepH E' H' ∧ Le E E' ∧ vcR P n ops K os (put { s with H := H' } o.dst c)) → wpOps P ops (Behind n E0 K) l a' w' := by
     rintro a' w' ⟨v, E', c, H', rfl, rfl, h1, h2, h3, h4⟩
     exact vcR_sound os l _ E0 E' _ hl (hst.put h3 h2 hdst h1) (hle.trans h3) h4
    cases r with
    | ok x w' =>
     cases x <;> simp only [Oper.upon] at hw ⊢ <;> first
      | exact key _ _ hw
      | exact Calls.mono hw (fun e w'' he => by cases e <;> first | exact key _ _ he | exact he.elim | (obtain ⟨_, _, h⟩ := he; exact h.elim))
      | exact Rows.mono hw (fun _ _ he => key _ _ he)
      | exact hw
    | halt x w' => cases x <;> simp only [Oper.upon] at hw
   cases hg : o.guard with
   | none =>
    simp only [hg] at h
    have hw : Region.wanted o (yielded ops a.tmps) = true := by simp [Region.wanted, hg]
    rw [if_pos hw]
    exact .inl (run s hst h)
   | some gw =>
    obtain ⟨j, want⟩ := gw
    simp only [hg] at h
    split at h
    ·rename_i t ht
     split at h
     ·rename_i b hb
      obtain ⟨h1, h2⟩ := h
      rw [wanted_of hst hg ht hb]
      by_cases e : b = want
      ·rw [if_pos (by simpa using e)]
       exact .inl (run _ (hst.same (by rw [hb, e])) (h1 (by simpa using e)))
      ·rw [if_neg (by simpa using e)]
       have e' : b = !want := by cases b <;> cases want <;> simp_all
       have hst' := hst.same (t := t) (c := .d (.bool (!want))) (by rw [hb, e'])
       exact vcR_sound os l _ E0 E _ hl (hst'.put (Le.refl E) hst'.heap hdst (rd_undef E)) hle (h2 (by simpa using e))
     ·rename_i hb
      rw [wanted_skip hst hg ht hb, if_neg (by simp)]
      exact vcR_sound os l _ E0 E _ hl (hst.put (Le.refl E) hst.heap hdst (rd_undef E)) hle h
     ·exact h.elim
    ·exact h.elim
end
end Go.Abs
namespace Go.Abs
section
variable {P : Program}
theorem norm1_congr {s s' : St} (h : s.H = s'.H) : norm1 s = norm1 s' := by funext c; unfold norm1; rw [h]
theorem norm_congr {s s' : St} (h : s.H = s'.H) : norm s = norm s' := by funext c; unfold norm; rw [norm1_congr h]
theorem dataCells_congr {s s' : St} (h : s.H = s'.H) : dataCells s = dataCells s' := by funext c; unfold dataCells; rw [norm1_congr h]
theorem fillA_congr {places : List (Nat × Nat)} {s s' : St} {K : List C → Prop} : ∀ (ps : List (Nat × Operand)) (cs : List C), (∀ p, p ∈ ps → ev s p.2 = ev s' p.2) →
  fillA places s K ps cs → fillA places s' K ps cs
 | [], cs, _, h => h
 | (i, x) :: r, cs, he, h => by
  unfold fillA at h ⊢
  have e := he (i, x) (by simp)
  dsimp only at e
  rw [e] at h
  split at h
  ·rename_i o n hp
   exact ⟨h.1, h.2.1, h.2.2.1, h.2.2.2.1, fillA_congr r _ (fun p hp => he p (by simp [hp])) h.2.2.2.2⟩
  ·exact h.elim
theorem vcElems_congr {s s' : St} (hH : s.H = s'.H) {z : Nat} : ∀ (ps : List (Nat × Operand)) (k : Nat) (K : List (List D) → Prop), (∀ p, p ∈ ps → ev s p.2 = ev s' p.2) →
  vcElems s z K ps k → vcElems s' z K ps k
 | [], k, K, _, h => h
 | (i, x) :: r, k, K, he, h => by
  unfold vcElems at h ⊢
  have e := he (i, x) (by simp)
  dsimp only at e
  rw [e, dataCells_congr hH] at h
  refine ⟨h.1, h.2.1, h.2.2.1, ?_⟩
  have h4 := h.2.2.2
  split at h4
  ·exact ⟨h4.1, vcElems_congr hH r _ _ (fun p hp => he p (by simp [hp])) h4.2⟩
  ·exact h4.elim
theorem vcPure_congr {s s' : St} {op : Op} {K : C → Prop} (hH : s.H = s'.H) (he : ∀ x, x ∈ op.operands → ev s x = ev s' x) (h : vcPure P s op K) : vcPure P s' op K := by
 have n1 := norm1_congr hH
 have n2 := norm_congr hH
 unfold vcPure at h ⊢
 split at h
 ·rw [he _ (by simp [Op.operands])] at h; exact h
 ·rw [he _ (by simp [Op.operands])] at h; exact h
 ·rename_i c x y
  rw [he c (by simp [Op.operands]), he x (by simp [Op.operands]), he y (by simp [Op.operands])] at h; exact h
 ·unfold vcLoad at h ⊢
  rw [he _ (by simp [Op.operands]), hH] at h; exact h
 ·rw [he _ (by simp [Op.operands])] at h; exact h
 ·rw [he _ (by simp [Op.operands])] at h; exact h
 ·unfold vcField at h ⊢
  rw [he _ (by simp [Op.operands]), n2] at h; exact h
 ·rename_i t x i
  unfold vcIndexAddr at h ⊢
  rw [he x (by simp [Op.operands]), he i (by simp [Op.operands]), n1, hH] at h; exact h
 ·rename_i t x i
  rw [he x (by simp [Op.operands]), he i (by simp [Op.operands])] at h; exact h
 ·rename_i op t x y u
  unfold vcBin at h ⊢
  rw [he x (by simp [Op.operands]), he y (by simp [Op.operands]), n1] at h; exact h
 ·rw [he _ (by simp [Op.operands])] at h; exact h
 ·rename_i t x lo hi
  unfold vcSlice at h ⊢
  have e1 : lo.map (ev s) = lo.map (ev s') := by cases lo with | none => rfl | some y => simp [he y (by simp [Op.operands])]
  have e2 : hi.map (ev s) = hi.map (ev s') := by cases hi with | none => rfl | some y => simp [he y (by simp [Op.operands])]
  rw [he x (by simp [Op.operands]), e1, e2, n1] at h; exact h
 ·rename_i t x i ok
  unfold vcLookup at h ⊢
  rw [he x (by simp [Op.operands]), he i (by simp [Op.operands]), n1, hH] at h; exact h
 ·unfold vcEntry at h ⊢
  rw [he _ (by simp [Op.operands]), hH] at h; exact h
 ·rw [he _ (by simp [Op.operands])] at h; exact h
 ·rename_i f first cap
  have e1 : cap.toList.map (ev s) = cap.toList.map (ev s') := List.map_congr_left fun x hx => he x (by simp [Op.operands]; exact .inr (by simpa using hx))
  rw [e1] at h; exact h
 ·rw [he _ (by simp [Op.operands]), n1] at h; exact h
 ·rename_i t ps
  split at h
  ·exact fillA_congr _ _ (fun p hp => he p.2 (by simp only [Op.operands, List.mem_toArray, List.mem_map]; exact ⟨p, hp, rfl⟩)) h
  ·exact h.elim
 ·rename_i c
  obtain ⟨callee, args, argTypes⟩ := c
  dsimp only at h ⊢
  have hargs : ∀ x, x ∈ args.toList → ev s x = ev s' x := fun x hx => he x (by
   simp only [Op.operands, Call.operands, Array.mem_append]; exact .inr (by simpa using hx))
  split at h
  ·split at h
   ·rename_i x t hl _
    unfold vcLen at h ⊢
    rw [hargs x (by rw [hl]; simp), n1, hH] at h; exact h
   ·exact h.elim
  ·split at h
   ·rename_i x y hl
    rw [hargs x (by rw [hl]; simp), hargs y (by rw [hl]; simp)] at h; exact h
   ·exact h.elim
  ·split at h
   ·rename_i x y hl
    rw [hargs x (by rw [hl]; simp), hargs y (by rw [hl]; simp)] at h; exact h
   ·exact h.elim
  ·exact h.elim
 ·exact h.elim
theorem vcEff_congr {s s' : St} {o : Oper} {K : C → List O → Prop} (hH : s.H = s'.H) (he : ∀ x, x ∈ o.op.operands → ev s x = ev s' x) (h : vcEff P s o K) : vcEff P s' o K := by
 have n1 := norm1_congr hH
 have n2 := norm_congr hH
 have n3 := dataCells_congr hH
 unfold vcEff at h ⊢
 split at h
 ·rename_i t x ho
  rw [he x (by simp [ho, Op.operands]), hH] at h; exact h
 ·rw [hH] at h; exact h
 ·rename_i t p x ho
  unfold vcStore at h ⊢
  rw [he p (by simp [ho, Op.operands]), he x (by simp [ho, Op.operands]), hH, n3] at h; exact h
 ·rename_i t n ps ho
  split at h
  ·rw [hH] at h
   exact ⟨h.1, h.2.1, vcElems_congr hH _ _ _ (fun p hp => he p.2 (by rw [ho]; simp only [Op.operands, List.mem_toArray, List.mem_map]; exact ⟨p, hp, rfl⟩)) h.2.2⟩
  ·exact h.elim
 ·rename_i t x y ho
  unfold vcMake at h ⊢
  rw [he x (by simp [ho, Op.operands]), hH] at h; exact h
 ·rw [hH] at h; exact h
 ·rename_i t m k v ho
  unfold vcInsert at h ⊢
  rw [he m (by simp [ho, Op.operands]), he k (by simp [ho, Op.operands]), he v (by simp [ho, Op.operands]), hH, n1] at h; exact h
 ·rename_i t m k v ho
  unfold vcInsert at h ⊢
  rw [he m (by simp [ho, Op.operands]), he k (by simp [ho, Op.operands]), he v (by simp [ho, Op.operands]), hH, n1] at h; exact h
 ·rename_i t x ho
  unfold vcRange at h ⊢
  rw [he x (by simp [ho, Op.operands]), hH] at h; exact h
 ·rename_i x ho
  unfold vcNext at h ⊢
  rw [he x (by simp [ho, Op.operands]), hH] at h; exact h
 ·rename_i c ho
  obtain ⟨callee, args, argTypes⟩ := c
  dsimp only at h ⊢
  have hargs : ∀ x, x ∈ args.toList → ev s x = ev s' x := fun x hx => he x (by
   rw [ho]; simp only [Op.operands, Call.operands, Array.mem_append]; exact .inr (by simpa using hx))
  split at h
  ·split at h
   ·rename_i x y t u hl _
    unfold vcAppend at h ⊢
    rw [hargs x (by rw [hl]; simp), hargs y (by rw [hl]; simp), hH, n1] at h; exact h
   ·exact h.elim
  ·rename_i f
   have e1 : args.toList.map (fun x => norm s (ev s x)) = args.toList.map (fun x => norm s' (ev s' x)) := List.map_congr_left fun x hx => by rw [hargs x hx, n2]
   rw [he f (by rw [ho]; simp [Op.operands, Call.operands]), e1, hH] at h; exact h
  ·rw [hH] at h
   exact vcPure_congr hH he h
 ·rename_i t x ho
  have ex := he x (by rw [ho]; simp [Op.operands])
  rw [ex] at h
  split at h
  ·rename_i hp
   unfold vcLend at h ⊢
   rw [hH] at h; exact h
  ·rw [hH] at h
   exact vcPure_congr hH he h
 ·rw [hH] at h
  exact vcPure_congr hH he h
theorem fillA_det {places : List (Nat × Nat)} {s : St} {K : List C → Prop} : ∀ (ps : List (Nat × Operand)) (cs : List C), fillA places s K ps cs → ∃ c, fillA places s (· = c) ps cs ∧ K c
 | [], cs, h => ⟨cs, rfl, h⟩
 | (i, x) :: r, cs, h => by
  unfold fillA at h
  split at h
  ·rename_i o n hp
   obtain ⟨h1, h2, h3, h4, h5⟩ := h
   obtain ⟨c, h6, h7⟩ := fillA_det r _ h5
   refine ⟨c, ?_, h7⟩
   unfold fillA
   rw [hp]
   exact ⟨h1, h2, h3, h4, h6⟩
  ·exact h.elim
theorem vcElems_det {s : St} {z : Nat} : ∀ (ps : List (Nat × Operand)) (k : Nat) (K : List (List D) → Prop), vcElems s z K ps k → ∃ c, vcElems s z (· = c) ps k ∧ K c
 | [], k, K, h => ⟨[], rfl, h⟩
 | (i, x) :: r, k, K, h => by
  unfold vcElems at h
  obtain ⟨h1, h2, h3, h4⟩ := h
  split at h4
  ·rename_i ds hds
   obtain ⟨c, h5, h6⟩ := vcElems_det r _ _ h4.2
   refine ⟨ds :: c, ?_, h6⟩
   unfold vcElems
   refine ⟨h1, h2, h3, ?_⟩
   rw [hds]
   refine ⟨h4.1, ?_⟩
   have gen : ∀ (r : List (Nat × Operand)) (k : Nat) (K K' : List (List D) → Prop), (∀ l, K l → K' l) → vcElems s z K r k → vcElems s z K' r k := by
    intro r
    induction r with
    | nil => intro k K K' hk h; exact hk _ h
    | cons p r ih =>
     intro k K K' hk h
     obtain ⟨i, x⟩ := p
     unfold vcElems at h ⊢
     refine ⟨h.1, h.2.1, h.2.2.1, ?_⟩
     have h4 := h.2.2.2
     split at h4
     ·exact ⟨h4.1, ih _ _ _ (fun l hl => hk _ hl) h4.2⟩
     ·exact h4.elim
   exact gen _ _ _ _ (fun l hl => by rw [hl]; rfl) h5
  ·exact h4.elim
theorem vcPart_det {cs : List C} {o : Nat} {u : TypeId} {K : C → Prop} (h : vcPart P cs o u K) : ∃ c, vcPart P cs o u (· = c) ∧ K c := by
 unfold vcPart at h ⊢
 split at h <;> first | exact h.elim | exact ⟨_, ⟨h.1, rfl⟩, h.2⟩
theorem vcPartD_det {cs : List D} {o : Nat} {u : TypeId} {K : C → Prop} (h : vcPartD P cs o u K) : ∃ c, vcPartD P cs o u (· = c) ∧ K c := by
 unfold vcPartD at h ⊢
 split at h <;> first | exact h.elim | exact ⟨_, ⟨h.1, rfl⟩, h.2⟩
theorem vcPure_det {s : St} {op : Op} {K : C → Prop} (h : vcPure P s op K) : ∃ c, vcPure P s op (· = c) ∧ K c := by
 unfold vcPure at h ⊢
 split at h
 ·exact ⟨_, ⟨h.1, rfl⟩, h.2⟩
 ·exact ⟨_, ⟨h.1, rfl⟩, h.2⟩
 ·obtain ⟨h1, h2, h3, h4⟩ := h
  split at h4
  ·exact ⟨_, ⟨h1, h2, h3, by simp [*]⟩, h4⟩
  ·exact h4.elim
 ·obtain ⟨h1, h⟩ := h
  unfold vcLoad at h ⊢
  split at h
  ·split at h
   ·exact ⟨_, ⟨h1, by simp_all⟩, h.2⟩
   ·exact ⟨_, ⟨h1, by simp_all⟩, h.2⟩
   ·exact h.elim
  ·split at h
   ·obtain ⟨c, h2, h3⟩ := vcPart_det h
    exact ⟨c, ⟨h1, by simp_all⟩, h3⟩
   ·exact h.elim
  ·split at h
   ·obtain ⟨h2, h3, h4⟩ := h
    obtain ⟨c, h5, h6⟩ := vcPartD_det h4
    exact ⟨c, ⟨h1, by simp_all⟩, h6⟩
   ·exact h.elim
  ·exact h.elim
 ·obtain ⟨h1, h⟩ := h
  split at h <;> first | exact h.elim | exact ⟨_, ⟨h1, by simp_all⟩, h⟩
 ·obtain ⟨h1, h⟩ := h
  unfold vcFieldAddr at h ⊢
  split at h
  ·split at h
   ·obtain ⟨h2, h⟩ := h
    split at h
    ·exact ⟨_, ⟨h1, by simp_all⟩, h.2⟩
    ·exact ⟨_, ⟨h1, by simp_all⟩, h⟩
    ·exact ⟨_, ⟨h1, by simp_all⟩, h⟩
    ·exact ⟨_, ⟨h1, by simp_all⟩, h⟩
    ·exact h.elim
   ·exact h.elim
  ·exact h.elim
 ·obtain ⟨h1, h⟩ := h
  unfold vcField at h ⊢
  split at h
  ·split at h
   ·obtain ⟨c, h5, h6⟩ := vcPartD_det h
    exact ⟨c, ⟨h1, by simp_all⟩, h6⟩
   ·obtain ⟨c, h5, h6⟩ := vcPart_det h
    exact ⟨c, ⟨h1, by simp_all⟩, h6⟩
   ·exact h.elim
  ·exact h.elim
 ·obtain ⟨h1, h2, h⟩ := h
  unfold vcIndexAddr at h ⊢
  split at h
  ·split at h
   ·split at h
    ·obtain ⟨h3, h4, h5⟩ := h
     obtain ⟨h6, h7⟩ := h5 _ (List.getElem?_eq_getElem (by omega))
     refine ⟨_, ⟨h1, h2, ?_⟩, h7⟩
     simp only [*]
     refine ⟨trivial, trivial, fun x hx => ?_⟩
     rw [List.getElem?_eq_getElem (by omega), Option.some.injEq] at hx
     subst hx
     exact ⟨h6, rfl⟩
    ·exact ⟨_, ⟨h1, h2, by simp_all⟩, h.2.2⟩
    ·split at h
     ·exact ⟨_, ⟨h1, h2, by simp_all⟩, h.2.2.2.2⟩
     ·exact h.elim
    ·exact h.elim
   ·exact h.elim
  ·exact h.elim
 ·obtain ⟨h1, h2, h⟩ := h
  split at h
  ·exact ⟨_, ⟨h1, h2, by simp_all⟩, h.2.2.2⟩
  ·exact h.elim
 ·rename_i op t x y u
  obtain ⟨h1, h2, h⟩ := h
  unfold vcBin at h ⊢
  split at h
  ·obtain ⟨h3, h⟩ := h
   cases op <;> simp only at h <;> first
    | exact h.elim
    | exact ⟨_, ⟨h1, h2, by simp_all⟩, h.2⟩
    | exact ⟨_, ⟨h1, h2, by simp_all⟩, h⟩
  ·cases op <;> simp only at h <;> first
    | exact h.elim
    | exact ⟨_, ⟨h1, h2, by simp_all⟩, h.2⟩
    | exact ⟨_, ⟨h1, h2, by simp_all⟩, h⟩
  ·cases op <;> simp only at h <;> first
    | exact h.elim
    | exact ⟨_, ⟨h1, h2, by simp_all⟩, h.2⟩
    | exact ⟨_, ⟨h1, h2, by simp_all⟩, h⟩
  ·exact h.elim
 ·obtain ⟨h1, h⟩ := h
  split at h <;> first | exact h.elim | exact ⟨_, ⟨h1, by simp_all⟩, h⟩
 ·obtain ⟨h1, h2, h3, h⟩ := h
  unfold vcSlice at h ⊢
  split at h
  ·exact ⟨_, ⟨h1, h2, h3, by simp_all⟩, h.2.2.2.2⟩
  ·exact ⟨_, ⟨h1, h2, h3, by simp_all⟩, h.2.2.2⟩
  ·exact ⟨_, ⟨h1, h2, h3, by simp_all⟩, h.2.2.2⟩
  ·exact ⟨_, ⟨h1, h2, h3, by simp_all⟩, h.2.2.2.2⟩
  ·exact ⟨_, ⟨h1, h2, h3, by simp_all⟩, h.2.2.2⟩
  ·exact ⟨_, ⟨h1, h2, h3, by simp_all⟩, h.2.2.2⟩
  ·exact h.elim
 ·obtain ⟨h1, h2, h⟩ := h
  unfold vcLookup at h ⊢
  split at h
  ·split at h
   ·obtain ⟨h3, h4, h⟩ := h
    split at h
    ·exact ⟨_, ⟨h1, h2, by simp_all⟩, h⟩
    ·exact ⟨_, ⟨h1, h2, by simp_all⟩, h⟩
   ·exact h.elim
  ·split at h
   ·exact ⟨_, ⟨h1, h2, by simp_all⟩, h.2⟩
   ·exact h.elim
  ·exact h.elim
 ·obtain ⟨h1, h⟩ := h
  unfold vcEntry at h ⊢
  split at h
  ·split at h
   ·split at h
    ·obtain ⟨h2, h3, h4⟩ := h
     refine ⟨_, ⟨h1, ?_⟩, h3 _ (List.getElem?_eq_getElem h4)⟩
     simp only [*]
     refine ⟨trivial, fun x hx => ?_, trivial⟩
     rw [List.getElem?_eq_getElem h4, Option.some.injEq] at hx
     subst hx; rfl
    ·exact h.elim
   ·exact h.elim
  ·exact h.elim
 ·obtain ⟨h1, h⟩ := h
  split at h
  ·exact ⟨_, ⟨h1, by simp_all⟩, h.2⟩
  ·exact h.elim
 ·exact ⟨_, ⟨h.1, h.2.1, rfl⟩, h.2.2⟩
 ·obtain ⟨h1, h⟩ := h
  split at h
  ·split at h
   ·exact ⟨_, ⟨h1, by simp_all⟩, h.2⟩
   ·exact h.elim
  ·split at h
   ·exact ⟨_, ⟨h1, by simp_all⟩, h.2.2⟩
   ·exact h.elim
  ·exact h.elim
 ·split at h
  ·obtain ⟨c, h1, h2⟩ := fillA_det _ _ h
   refine ⟨_, ?_, h2⟩
   have gen : ∀ (places : List (Nat × Nat)) (ps : List (Nat × Operand)) (cs : List C) (K K' : List C → Prop), (∀ l, K l → K' l) → fillA places s K ps cs → fillA places s K' ps cs := by
    intro places ps
    induction ps with
    | nil => intro cs K K' hk h; exact hk _ h
    | cons p r ih =>
     intro cs K K' hk h
     obtain ⟨i, x⟩ := p
     unfold fillA at h ⊢
     split at h
     ·exact ⟨h.1, h.2.1, h.2.2.1, h.2.2.2.1, ih _ _ _ hk h.2.2.2.2⟩
     ·exact h.elim
   exact gen _ _ _ _ _ (fun l hl => by rw [hl]; rfl) h1
  ·exact h.elim
 ·rename_i c
  obtain ⟨callee, args, argTypes⟩ := c
  dsimp only at h ⊢
  split at h
  ·split at h
   ·obtain ⟨h1, h⟩ := h
    unfold vcLen at h ⊢
    split at h
    ·exact ⟨_, ⟨h1, by simp_all⟩, h.2⟩
    ·exact ⟨_, ⟨h1, by simp_all⟩, h.2⟩
    ·exact ⟨_, ⟨h1, by simp_all⟩, h.2⟩
    ·split at h
     ·exact ⟨_, ⟨h1, by simp_all⟩, h.2.2⟩
     ·exact h.elim
    ·split at h
     ·exact ⟨_, ⟨h1, by simp_all⟩, h.2⟩
     ·exact h.elim
    ·exact h.elim
   ·exact h.elim
  ·split at h
   ·obtain ⟨h1, h2, h⟩ := h
    split at h
    ·exact ⟨_, ⟨h1, h2, by simp_all⟩, h.2⟩
    ·exact h.elim
   ·exact h.elim
  ·split at h
   ·obtain ⟨h1, h2, h⟩ := h
    split at h
    ·exact ⟨_, ⟨h1, h2, by simp_all⟩, h.2⟩
    ·exact h.elim
   ·exact h.elim
  ·exact h.elim
 ·exact h.elim
end
end Go.Abs
namespace Go.Abs
def Quiet (P : Program) (s : St) (o : Oper) (c : C) : Prop := vcEff P s o fun c' H' => c' = c ∧ H' = s.H
def CallQ (P : Program) (g : FuncId) (args : List C) (H : List O) (K : C → Prop) : Prop := ∃ c, ACalls P g args H (fun c' H' => c' = c ∧ H' = H) ∧ K c
def kSlQ (K : C → Prop) (n : Nat) : List (List D) → Prop := fun l => K (if n = 0 then .nil0 else .d (.sl l))
def kD (F : St → Prop) (s : St) (dst : Option Tmp) : C → Prop := fun c => F (put s dst c)
def vcQ (P : Program) (s : St) (o : Oper) (K : C → Prop) : Prop :=
 match o.op with
 | .buildSlice t n ps => (match tSlice P t with
  | some (_, z, _) => n * z ≤ 16777216 ∧ ps.size = n ∧ vcElems s z (kSlQ K n) ps.toList 0
  | none => False)
 | .call c =>
  (match c.callee with
  | .value f => okOperand f = true ∧ (c.args.all okOperand) = true ∧ (match ev s f with
   | .fn g caps => isGo P g = true ∧ CallQ P g (c.args.toList.map (fun x => norm s (ev s x)) ++ caps) s.H K
   | _ => False)
  | _ => vcPure P s o.op K)
 | _ => vcPure P s o.op K
def vcD (P : Program) (n : Nat) (ops : Array Oper) (K : St → Prop) : List Oper → St → Prop
 | [], ⟨σ, H⟩ => K ⟨σ, H⟩
 | o :: rest, ⟨σ, H⟩ => okDst n o = true ∧
  (match o.guard with
  | none => vcQ P ⟨σ, H⟩ o (kD (vcD P n ops K rest) ⟨σ, H⟩ o.dst)
  | some (j, want) =>
   match (ops[j]?).bind (·.dst) with
   | some t =>
    match get σ t with
    | .d (.bool b) =>
     br (b == want) (app (vcQ P (put ⟨σ, H⟩ (some t) (.d (.bool want))) o) (kD (vcD P n ops K rest) (put ⟨σ, H⟩ (some t) (.d (.bool want))) o.dst))
      (app (vcD P n ops K rest) (put (put ⟨σ, H⟩ (some t) (.d (.bool (!want)))) o.dst (.tup [])))
    | .tup [] => vcD P n ops K rest (put ⟨σ, H⟩ o.dst (.tup []))
    | _ => False
   | none => False)
theorem vcQ_quiet {P : Program} {s : St} {o : Oper} {K : C → Prop} (h : vcQ P s o K) : ∃ c, Quiet P s o c ∧ K c := by
 unfold vcQ at h
 unfold Quiet vcEff
 split at h
 ·rename_i t n ps ho
  simp only [ho]
  split at h
  ·rename_i e z by_ ht
   obtain ⟨h1, h2, h3⟩ := h
   obtain ⟨l, h4, h5⟩ := vcElems_det _ _ _ h3
   refine ⟨_, ?_, h5⟩
   simp only [ht]
   refine ⟨h1, h2, ?_⟩
   have gen : ∀ (r : List (Nat × Operand)) (k : Nat) (K K' : List (List D) → Prop), (∀ l, K l → K' l) → vcElems s z K r k → vcElems s z K' r k := by
    intro r
    induction r with
    | nil => intro k K K' hk h; exact hk _ h
    | cons p r ih =>
     intro k K K' hk h
     obtain ⟨i, x⟩ := p
     unfold vcElems at h ⊢
     refine ⟨h.1, h.2.1, h.2.2.1, ?_⟩
     have h4 := h.2.2.2
     split at h4
     ·exact ⟨h4.1, ih _ _ _ (fun l hl => hk _ hl) h4.2⟩
     ·exact h4.elim
   exact gen _ _ _ _ (fun l hl => by rw [hl]; exact ⟨rfl, rfl⟩) h4
  ·exact h.elim
 ·rename_i c ho
  obtain ⟨callee, args, argTypes⟩ := c
  simp only [ho] at h ⊢
  split at h
  ·rename_i f
   obtain ⟨h1, h2, h3⟩ := h
   simp only
   split at h3
   ·rename_i g caps hev
    obtain ⟨h4, c, h5, h6⟩ := h3
    refine ⟨c, ⟨h1, h2, ?_⟩, h6⟩
    rw [hev]
    exact ⟨h4, h5⟩
   ·exact h3.elim
  ·rename_i hnv
   obtain ⟨c, h1, h2⟩ := vcPure_det h
   refine ⟨c, ?_, h2⟩
   have e : kAt (fun c' H' => c' = c ∧ H' = s.H) s.H = (fun c_1 => c_1 = c) := by funext x; simp [kAt]
   rw [e]
   split
   ·
    exfalso
    unfold vcPure at h1
    simp at h1
   ·exact absurd rfl (hnv _)
   ·exact h1
 ·rename_i hn1 hn2
  obtain ⟨c, h1, h2⟩ := vcPure_det h
  refine ⟨c, ?_, h2⟩
  have hpure : vcPure P s o.op (kAt (fun c' H' => c' = c ∧ H' = s.H) s.H) := by
   have e : kAt (fun c' H' => c' = c ∧ H' = s.H) s.H = (fun c_1 => c_1 = c) := by funext x; simp [kAt]
   rw [e]; exact h1
  split
  ·rename_i ho; rw [ho] at h1; unfold vcPure at h1; simp at h1
  ·rename_i ho; rw [ho] at h1; unfold vcPure at h1; simp at h1
  ·rename_i ho; rw [ho] at h1; unfold vcPure at h1; simp at h1
  ·rename_i ho; exact absurd ho (hn1 _ _ _)
  ·rename_i ho; rw [ho] at h1; unfold vcPure at h1; simp at h1
  ·rename_i ho; rw [ho] at h1; unfold vcPure at h1; simp at h1
  ·rename_i ho; rw [ho] at h1; unfold vcPure at h1; simp at h1
  ·rename_i ho; rw [ho] at h1; unfold vcPure at h1; simp at h1
  ·rename_i ho; rw [ho] at h1; unfold vcPure at h1; simp at h1
  ·rename_i ho; rw [ho] at h1; unfold vcPure at h1; simp at h1
  ·rename_i ho; exact absurd ho (hn2 _)
  ·rename_i ho
   split
   ·rename_i hp
    rw [ho] at h1; unfold vcPure at h1
    simp only [hp, vcLoad, and_false] at h1
   ·exact hpure
  ·exact hpure
def upd (σ : Nat → C) (dst : Option Tmp) (c : C) : Nat → C := match dst with
 | some d => fun t => if d = t then c else σ t
 | none => σ
theorem get_put (s : St) (dst : Option Tmp) (c : C) : get (put s dst c).σ = upd (get s.σ) dst c := by
 cases dst <;> rfl
theorem upd_comm (σ : Nat → C) {x y : Option Tmp} (c d : C) (h : ∀ k, x = some k → y ≠ some k) : upd (upd σ x c) y d = upd (upd σ y d) x c := by
 cases x with
 | none => rfl
 | some k =>
  cases y with
  | none => rfl
  | some l =>
   have hne : k ≠ l := fun e => h k rfl (by rw [e])
   funext t
   simp only [upd]
   by_cases h1 : l = t
   ·subst h1; simp [hne]
   ·simp [h1]
structure RepF (E : Env) (n : Nat) (H : List O) (σ : Nat → C) (a : Act) : Prop where
 size : a.tmps.size = n
 defers : a.defers = []
 heap : RepH E H
 slot : ∀ t, Rd E (σ t) (a.tmps.getD t undef)
theorem RepSt.toF {E : Env} {n : Nat} {s : St} {a : Act} (h : RepSt E n s a) : RepF E n s.H (get s.σ) a := ⟨h.size, h.defers, h.heap, h.slot⟩
def tmpsOf (op : Op) : List Nat := op.operands.toList.filterMap fun | .tmp t => some t | _ => none
def stOf (σ : Nat → C) (H : List O) (ts : List Nat) : St := ⟨ts.map fun t => (t, σ t), H⟩
theorem get_stOf (σ : Nat → C) (H : List O) (ts : List Nat) (t : Nat) : get (stOf σ H ts).σ t = if t ∈ ts then σ t else .top := by
 unfold stOf
 induction ts with
 | nil => simp [get]
 | cons x r ih =>
  simp only [List.map_cons, get]
  by_cases e : x = t
  ·subst e; simp
  ·simp only [if_neg e]
   dsimp only at ih
   rw [ih]
   have : t ≠ x := fun h => e h.symm
   simp [this]
theorem RepF.toSt {E : Env} {n : Nat} {H : List O} {σ : Nat → C} {a : Act} (h : RepF E n H σ a) (ts : List Nat) : RepSt E n (stOf σ H ts) a := by
 refine ⟨h.size, h.defers, h.heap, fun t => ?_⟩
 rw [get_stOf]
 split
 ·exact h.slot t
 ·exact .top _
theorem RepF.put {E E' : Env} {n : Nat} {H : List O} {σ : Nat → C} {a : Act} (h : RepF E n H σ a) (hl : Le E E') (hH : RepH E' H) {dst : Option Tmp} {c : C} {v : Value}
  (hd : ∀ d, dst = some d → d < n) (hv : Rd E' c v) : RepF E' n H (upd σ dst c) (a.put dst v) := by
 cases dst with
 | none => exact ⟨h.size, h.defers, hH, fun t => (h.slot t).le hl⟩
 | some d =>
  refine ⟨by simp [Act.put, h.size], h.defers, hH, fun t => ?_⟩
  have hdn := hd d rfl
  have hs := h.size
  by_cases e : d = t
  ·subst e
   simp only [upd, if_pos, Act.put]
   have : d < a.tmps.size := by rw [hs]; exact hdn
   simpa [Array.getD_eq_getD_getElem?, this] using hv
  ·simp only [upd, if_neg e, Act.put]
   rw [Array.getD_eq_getD_getElem?, Array.getElem?_setIfInBounds_ne e, ← Array.getD_eq_getD_getElem?]
   exact (h.slot t).le hl
section
variable {P : Program} {n : Nat} {ops : Array Oper} {md : Region.Mode} {H : List O}
def Answers (P : Program) (n : Nat) (ops : Array Oper) (H : List O) (o : Oper) (c : C) (σ : Nat → C) : Prop :=
 okDst n o = true ∧
 match o.guard with
 | none => Quiet P (stOf σ H (tmpsOf o.op)) o c
 | some (j, want) => ∃ t, (ops[j]?).bind (·.dst) = some t ∧ ((∃ b, σ t = .d (.bool b) ∧ (b = want → Quiet P (stOf σ H (tmpsOf o.op)) o c) ∧ (b = (!want) → c = .tup [])) ∨ (σ t = .tup [] ∧ c = .tup []))
theorem answers_congr {o : Oper} {c d : C} {σ : Nat → C} {x : Option Tmp} (h : ∀ k, x = some k → k ∉ o.looksAt ops) : Answers P n ops H o c (upd σ x d) ↔ Answers P n ops H o c σ := by
 have e1 : stOf (upd σ x d) H (tmpsOf o.op) = stOf σ H (tmpsOf o.op) := by
  unfold stOf
  congr 1
  apply List.map_congr_left
  intro t ht
  cases x with
  | none => rfl
  | some k =>
   have hk := h k rfl
   have hne : k ≠ t := fun e => by
    subst e
    exact hk (by unfold Oper.looksAt; exact List.mem_append_left _ ht)
   simp [upd, hne]
 unfold Answers
 rw [e1]
 cases hg : o.guard with
 | none => exact Iff.rfl
 | some jw =>
  obtain ⟨j, want⟩ := jw
  have e2 : ∀ t, (ops[j]?).bind (·.dst) = some t → upd σ x d t = σ t := fun t ht => by
   cases x with
   | none => rfl
   | some k =>
    have hk := h k rfl
    have hne : k ≠ t := fun e => by
     subst e
     exact hk (by unfold Oper.looksAt; simp [hg, ht])
    simp [upd, hne]
  simp only
  constructor
  ·rintro ⟨h0, t, h1, h2⟩; rw [e2 t h1] at h2; exact ⟨h0, t, h1, h2⟩
  ·rintro ⟨h0, t, h1, h2⟩; rw [← e2 t h1] at h2; exact ⟨h0, t, h1, h2⟩
def aOp (P : Program) (n : Nat) (ops : Array Oper) (H : List O) (i : Nat) (K : (Nat → C) → Prop) (σ : Nat → C) : Prop :=
 match ops[i]? with
 | none => K σ
 | some o => ∃ c, Answers P n ops H o c σ ∧ K (upd σ o.dst c)
theorem aOp_mono {i : Nat} {σ : Nat → C} {K K' : (Nat → C) → Prop} (h : ∀ σ, K σ → K' σ) (hh : aOp P n ops H i K σ) : aOp P n ops H i K' σ := by
 unfold aOp at *
 split
 ·exact h _ (by simpa [*] using hh)
 ·rename_i o ho
  simp only [ho] at hh
  obtain ⟨c, h1, h2⟩ := hh
  exact ⟨c, h1, h _ h2⟩
def anyA (P : Program) (n : Nat) (md : Region.Mode) (ops : Array Oper) (H : List O) (Q : (Nat → C) → Prop) : Nat → Array Bool → (Nat → C) → Prop
 | 0, listed, σ => Region.ready md ops listed = [] ∧ Q σ
 | fuel + 1, listed, σ => (Region.ready md ops listed = [] → Q σ) ∧ ∀ i ∈ Region.ready md ops listed, aOp P n ops H i (anyA P n md ops H Q fuel (listed.setIfInBounds i true)) σ
def BehindF (n : Nat) (E0 : Env) (H : List O) (Q : (Nat → C) → Prop) : Exit → Act → World → Prop :=
 fun e a' w' => e = .normal ∧ ∃ E' σ, E'.w = w' ∧ RepF E' n H σ a' ∧ Le E0 E' ∧ Q σ
theorem wanted_ofF {E : Env} {σ : Nat → C} {a : Act} (hst : RepF E n H σ a) {o : Oper} {j : Nat} {want b : Bool} {t : Tmp} (hg : o.guard = some (j, want)) (ht : (ops[j]?).bind (·.dst) = some t) (hb : σ t = .d (.bool b)) :
  Region.wanted o (yielded ops a.tmps) = (b == want) := by
 have := wanted_of (ops := ops) (hst.toSt [t]) hg ht (b := b) (by rw [get_stOf]; simp [hb])
 exact this
theorem wanted_skipF {E : Env} {σ : Nat → C} {a : Act} (hst : RepF E n H σ a) {o : Oper} {j : Nat} {want : Bool} {t : Tmp} (hg : o.guard = some (j, want)) (ht : (ops[j]?).bind (·.dst) = some t) (hb : σ t = .tup []) :
  Region.wanted o (yielded ops a.tmps) = false := by
 exact wanted_skip (ops := ops) (hst.toSt [t]) hg ht (by rw [get_stOf]; simp [hb])
theorem any_sound {Q : (Nat → C) → Prop} {E0 : Env} : ∀ (fuel : Nat) (listed : Array Bool) (σ : Nat → C) (E : Env) (a : Act), anyA P n md ops H Q fuel listed σ → RepF E n H σ a → Le E0 E →
  wpAny P md ops (BehindF n E0 H Q) fuel listed a E.w
 | 0, _, σ, E, a, h, hst, hl => ⟨h.1, rfl, E, σ, rfl, hst, hl, h.2⟩
 | fuel + 1, listed, σ, E, a, h, hst, hl => by
  refine ⟨fun h0 => ⟨rfl, E, σ, rfl, hst, hl, h.1 h0⟩, fun i hi => ?_⟩
  have hop := h.2 i hi
  unfold aOp at hop
  unfold wpOp
  split
  ·rename_i ho
   simp only [ho] at hop
   exact any_sound fuel _ σ E a hop hst hl
  ·rename_i o ho
   simp only [ho] at hop
   obtain ⟨c, ⟨hd, hans⟩, hk⟩ := hop
   have hdst : ∀ d, o.dst = some d → d < n := fun d hd' => by
    unfold okDst at hd
    rw [hd'] at hd
    simpa using hd
   have run : Quiet P (stOf σ H (tmpsOf o.op)) o c → o.wp P a E.w (wpAny P md ops (BehindF n E0 H Q) fuel (listed.setIfInBounds i true)) (BehindF n E0 H Q) := by
    intro hq
    have hw := vcEff_sound hq E n a (hst.toSt _)
    unfold Oper.wp at hw ⊢
    generalize (execOp a.eval o).run P E.w = r at hw ⊢
    have key : ∀ a' w', (∃ v E' c' H', a' = a.put o.dst v ∧ E'.w = w' ∧ Rd E' c' v ∧ RepH E' H' ∧ Le E E' ∧ c' = c ∧ H' = (stOf σ H (tmpsOf o.op)).H) → wpAny P md ops (BehindF n E0 H Q) fuel (listed.setIfInBounds i true) a' w' := by
     rintro a' w' ⟨v, E', c', H', rfl, rfl, h1, h2, h3, h4, h5⟩
     have h5' : H' = H := h5
     rw [h5'] at h2
     rw [h4] at h1
     exact any_sound fuel _ _ E' _ hk (hst.put h3 h2 hdst h1) (hl.trans h3)
    cases r with
    | ok x w' =>
     cases x <;> simp only [Oper.upon] at hw ⊢ <;> first
      | exact key _ _ hw
      | exact Calls.mono hw (fun e w'' he => by cases e <;> first | exact key _ _ he | exact he.elim | (obtain ⟨_, _, h⟩ := he; exact h.elim))
      | exact Rows.mono hw (fun _ _ he => key _ _ he)
      | exact hw
    | halt x w' => cases x <;> simp only [Oper.upon] at hw
   cases hg : o.guard with
   | none =>
    simp only [hg] at hans
    have hw : Region.wanted o (yielded ops a.tmps) = true := by simp [Region.wanted, hg]
    rw [if_pos hw]
    exact .inl (run hans)
   | some jw =>
    obtain ⟨j, want⟩ := jw
    simp only [hg] at hans
    obtain ⟨t, h1, hor⟩ := hans
    rcases hor with ⟨b, h2, h3, h4⟩ | ⟨h2, hc⟩
    ·rw [wanted_ofF hst hg h1 h2]
     by_cases e : b = want
     ·rw [if_pos (by simpa using e)]
      exact .inl (run (h3 e))
     ·rw [if_neg (by simpa using e)]
      have e' : b = !want := by cases b <;> cases want <;> simp_all
      have hc := h4 e'
      subst hc
      exact any_sound fuel _ _ E _ hk (hst.put (Le.refl E) hst.heap hdst (rd_undef E)) hl
    ·rw [wanted_skipF hst hg h1 h2, if_neg (by simp)]
     subst hc
     exact any_sound fuel _ _ E _ hk (hst.put (Le.refl E) hst.heap hdst (rd_undef E)) hl
theorem aOp_put {j : Nat} {oi oj : Oper} {c : C} (hj : ops[j]? = some oj) (hap : oi.apart ops oj = true) {K : (Nat → C) → Prop} {σ : Nat → C}
  (hy : Answers P n ops H oi c σ) (h : aOp P n ops H j K (upd σ oi.dst c)) :
  aOp P n ops H j (fun σ' => Answers P n ops H oi c σ' ∧ K (upd σ' oi.dst c)) σ := by
 obtain ⟨h1, h2, h3⟩ := Oper.apart_spec hap
 unfold aOp at *
 simp only [hj] at *
 obtain ⟨d, hd, hk⟩ := h
 refine ⟨d, (answers_congr h1).1 hd, (answers_congr h3).2 hy, ?_⟩
 rw [← upd_comm σ c d h2]
 exact hk
theorem anyA_first {Q : (Nat → C) → Prop} {i : Nat} {oi : Oper} {c : C} (hi : ops[i]? = some oi) :
  ∀ (fuel : Nat) (listed : Array Bool) (σ : Nat → C),
   (∀ j oj, ops[j]? = some oj → j ≠ i → listed.getD j true = false → (∀ e ∈ oj.after, Region.binds md e = true → e.on ≠ i) → oi.apart ops oj = true) →
   i ∈ Region.ready md ops listed → Answers P n ops H oi c σ →
   anyA P n md ops H Q fuel (listed.setIfInBounds i true) (upd σ oi.dst c) → anyA P n md ops H Q (fuel + 1) listed σ := by
 intro fuel
 induction fuel with
 | zero =>
  intro listed σ _ hr hy Hh
  refine ⟨fun h => (by rw [h] at hr; cases hr), fun j hj => ?_⟩
  by_cases hji : j = i
  ·subst hji; unfold aOp; simp only [hi]; exact ⟨c, hy, Hh⟩
  ·have := ready_mono hj hji
   rw [Hh.1] at this
   cases this
 | succ fuel ih =>
  intro listed σ hfree hr hy Hh
  refine ⟨fun h => (by rw [h] at hr; cases hr), fun j hj => ?_⟩
  by_cases hji : j = i
  ·subst hji; unfold aOp; simp only [hi]; exact ⟨c, hy, Hh⟩
  ·have h1 := Hh.2 j (ready_mono hj hji)
   obtain ⟨hjun, oj, hoj, hall⟩ := mem_ready.1 hj
   have hnot : ∀ e ∈ oj.after, Region.binds md e = true → e.on ≠ i := fun e he hb heq => by
    have h1 := hall e he hb
    have h0 := (mem_ready.1 hr).1
    rw [heq] at h1
    rcases Nat.lt_or_ge i listed.size with h' | h'
    ·simp [h'] at h0 h1; rw [h0] at h1; cases h1
    ·simp [Array.getElem?_eq_none h'] at h1
   have h2 := aOp_put hoj (hfree j oj hoj hji hjun hnot) hy h1
   have hfree' : ∀ k ok, ops[k]? = some ok → k ≠ i → (listed.setIfInBounds j true).getD k true = false →
     (∀ e ∈ ok.after, Region.binds md e = true → e.on ≠ i) → oi.apart ops ok = true := fun k ok hk hki hun hno => by
    refine hfree k ok hk hki ?_ hno
    by_cases hjk : j = k
    ·subst hjk; exact hjun
    ·rw [getD_set_ne true hjk] at hun; exact hun
   refine aOp_mono (fun σ' h3 => ih (listed.setIfInBounds j true) σ' hfree' (ready_mono hr (Ne.symm hji)) h3.1 ?_) h2
   rw [Array.setIfInBounds_comm _ _ hji]
   exact h3.2
theorem answers_of {s : St} {o : Oper} {c : C} (h : Quiet P s o c) : Quiet P (stOf (get s.σ) s.H (tmpsOf o.op)) o c := by
 refine vcEff_congr (s := s) rfl (fun x hx => ?_) h
 cases x with
 | tmp t =>
  show get s.σ t = get (stOf (get s.σ) s.H (tmpsOf o.op)).σ t
  rw [get_stOf, if_pos]
  exact List.mem_filterMap.2 ⟨.tmp t, by simpa using hx, rfl⟩
 | _ => rfl
theorem vcD_any {K : St → Prop} : ∀ (l : List Oper) (k : Nat) (listed : Array Bool) (s : St), (∀ j, l[j]? = ops[k + j]?) →
  Region.lexFrom md ops l.length k listed = true → vcD P n ops K l s → anyA P n md ops s.H (fun σ => ∃ s', get s'.σ = σ ∧ s'.H = s.H ∧ K s') l.length listed (get s.σ)
 | [], _, _, s, _, hB, h => ⟨by simpa [Region.lexFrom] using hB, s, rfl, rfl, h⟩
 | o :: l, k, listed, s, hl, hB, h => by
  have h0 : ops[k]? = some o := by simpa using (hl 0).symm
  simp only [List.length_cons, Region.lexFrom, Bool.and_eq_true] at hB
  obtain ⟨⟨hr, hf⟩, hB'⟩ := hB
  have hl' : ∀ j, l[j]? = ops[k + 1 + j]? := fun j => by have := hl (j + 1); simpa [Nat.add_assoc, Nat.add_comm 1 j] using this
  have next : ∀ (s1 : St) (c : C), s1.H = s.H → get s1.σ = get s.σ → Answers P n ops s.H o c (get s.σ) → vcD P n ops K l (put s1 o.dst c) →
    anyA P n md ops s.H (fun σ => ∃ s', get s'.σ = σ ∧ s'.H = s.H ∧ K s') (l.length + 1) listed (get s.σ) := by
   intro s1 c hH hσ ha hv
   have hp : (put s1 o.dst c).H = s.H := by cases o.dst <;> exact hH
   have := vcD_any l (k + 1) (listed.setIfInBounds k true) _ hl' hB' hv
   rw [get_put, hp, hσ] at this
   exact anyA_first h0 l.length listed (get s.σ) (Region.free_spec h0 hf) (by simpa using hr) ha this
  unfold vcD at h
  obtain ⟨hd, h⟩ := h
  simp only [List.length_cons]
  cases hg : o.guard with
  | none =>
   simp only [hg] at h
   obtain ⟨c, hq, hv⟩ := vcQ_quiet h
   exact next s c rfl rfl ⟨hd, by simp only [hg]; exact answers_of hq⟩ hv
  | some jw =>
   obtain ⟨j, want⟩ := jw
   simp only [hg] at h
   split at h
   ·rename_i t ht
    split at h
    ·rename_i b hb
     obtain ⟨h1, h2⟩ := h
     have same : ∀ w : Bool, b = w → get (put s (some t) (.d (.bool w))).σ = get s.σ := by
      intro w e
      subst e
      rw [get_put]
      funext t'
      simp only [upd]
      split
      ·rename_i e; subst e; exact hb.symm
      ·rfl
     by_cases e : b = want
     ·obtain ⟨c, hq, hv⟩ := vcQ_quiet (h1 (by simpa using e))
      refine next (put s (some t) (.d (.bool want))) c rfl (same _ e) ⟨hd, ?_⟩ hv
      simp only [hg]
      have := answers_of hq
      rw [same _ e] at this
      exact ⟨t, ht, .inl ⟨b, hb, fun _ => this, fun e' => by rw [e] at e'; cases want <;> simp at e'⟩⟩
     ·have e' : b = !want := by cases b <;> cases want <;> simp_all
      refine next (put s (some t) (.d (.bool (!want)))) (.tup []) rfl (same _ e') ⟨hd, ?_⟩ (h2 (by simpa using e))
      simp only [hg]
      exact ⟨t, ht, .inl ⟨b, hb, fun e2 => absurd e2 e, fun _ => trivial⟩⟩
    ·rename_i hb
     refine next s (.tup []) rfl rfl ⟨hd, ?_⟩ h
     simp only [hg]
     exact ⟨t, ht, .inr ⟨hb, trivial⟩⟩
    ·exact h.elim
   ·exact h.elim
end
end Go.Abs
namespace Go.Abs
def trunc (E : Env) (m : Nat) : Env := { E with N := m }
theorem Le.trunc {E E' : Env} (h : Le E E') {m : Nat} (hm : m ≤ E.N) : Le (Abs.trunc E m) (Abs.trunc E' m) :=
 ⟨h.os, h.tape, h.output, h.size, Nat.le_refl _, fun r hr => h.β r (Nat.lt_of_lt_of_le hr hm), fun r hr => h.τ r (Nat.lt_of_lt_of_le hr hm), h.S, h.cell, h.blk, h.newS, h.newP, h.map⟩
def AW (P : Program) (f : FuncId) (n n0 : Nat) (R : C → List O → Prop) (k : List Item) (s : St) : Prop :=
 n0 ≤ s.H.length → ∀ (E : Env) (a : Act) (b : Frame) (cs : List Frame), RepSt E n s a → b.fn = f → b.kind = .normal →
  ∃ fr w' v r E' H', Steps P (lone (b.at a k) cs E.w) (lone fr cs w') ∧ fr.fn = f ∧ fr.leaving P w' (.returned v) ∧ E'.w = w' ∧ RepH E' H' ∧ H'.length = n0 ∧ Le (trunc E n0) E' ∧ Rd E' r v ∧ R r H'
section
variable {P : Program} {f : FuncId} {n n0 : Nat} {R : C → List O → Prop}
theorem AW.steps {k k' : List Item} {s : St} (h : ∀ (a : Act) (b : Frame) (cs : List Frame) (w : World), a.tmps.size = n → (∀ E, RepSt E n s a → Steps P (lone (b.at a k) cs w) (lone (b.at a k') cs w))) (h' : AW P f n n0 R k' s) : AW P f n n0 R k s := by
 intro h0 E a b cs hst hb hk
 obtain ⟨fr, w', v, r, E', H', h1, h2⟩ := h' h0 E a b cs hst hb hk
 exact ⟨fr, w', v, r, E', H', (h a b cs E.w hst.size E hst).trans h1, h2⟩
theorem AW.of_behind {k k' : List Item} {s : St} (h : n0 ≤ s.H.length → ∀ (E : Env) (a : Act) (b : Frame) (cs : List Frame), RepSt E n s a →
  ∃ a' E' s', Steps P (lone (b.at a k) cs E.w) (lone (b.at a' k') cs E'.w) ∧ RepSt E' n s' a' ∧ Le E E' ∧ AW P f n n0 R k' s') : AW P f n n0 R k s := by
 intro h0 E a b cs hst hb hk
 obtain ⟨a', E', s', h1, h2, h3, h4⟩ := h h0 E a b cs hst
 have hN : n0 ≤ E.N := by rw [hst.heap.N]; exact h0
 have hN' : n0 ≤ s'.H.length := by rw [← h2.heap.N]; exact Nat.le_trans hN h3.N
 obtain ⟨fr, w', v, r, E'', H'', g1, g2, g3, g4, g5, g6, g7, g8⟩ := h4 hN' E' a' b cs h2 hb hk
 exact ⟨fr, w', v, r, E'', H'', h1.trans g1, g2, g3, g4, g5, g6, (h3.trunc hN).trans g7, g8⟩
theorem AW.region {id : Nat} {ops : Array Oper} {k : List Item} {s : St} (h : vcR P n ops (AW P f n n0 R k) ops.toList s) : AW P f n n0 R (.code (.region id ops false) :: k) s := by
 refine AW.of_behind (k' := k) fun _ E a b cs hst => ?_
 have hw := vcR_sound ops.toList (List.range ops.size) s E E a (by
  apply List.ext_getElem?
  intro j
  simp only [List.getElem?_map]
  by_cases hj : j < ops.size
  ·rw [List.getElem?_range hj]
   simp [hj]
  ·rw [List.getElem?_eq_none (by simpa using hj), List.getElem?_eq_none (by simpa using hj)]
   rfl) hst (Le.refl E) h
 obtain ⟨e, a', w', ⟨rfl, E', s', rfl, h1, h2, h3⟩, harr⟩ := wp_region (id := id) hw b k cs
 exact ⟨a', E', s', harr, h1, h2, h3⟩
theorem AW.skip {k : List Item} {s : St} (h : AW P f n n0 R k s) : AW P f n n0 R (.code .skip :: k) s := AW.steps (fun _ _ _ _ _ _ _ => .one step_skip) h
theorem AW.label {l : Nat} {k : List Item} {s : St} (h : AW P f n n0 R k s) : AW P f n n0 R (.code (.label l) :: k) s := AW.steps (fun _ _ _ _ _ _ _ => .one step_label) h
theorem AW.inBlock {id : Nat} {k : List Item} {s : St} (h : AW P f n n0 R k s) : AW P f n n0 R (.inBlock id :: k) s := AW.steps (fun _ _ _ _ _ _ _ => .one step_inBlock) h
theorem AW.seq {x y : Code} {k : List Item} {s : St} (h : AW P f n n0 R (.code x :: .code y :: k) s) : AW P f n n0 R (.code (.seq x y) :: k) s := AW.steps (fun _ _ _ _ _ _ _ => .one step_seq) h
theorem AW.block {id : Nat} {c : Code} {k : List Item} {s : St} (h : AW P f n n0 R (.code c :: .inBlock id :: k) s) : AW P f n n0 R (.code (.block id c) :: k) s := AW.steps (fun _ _ _ _ _ _ _ => .one step_block) h
theorem AW.loop {c : Code} {k : List Item} {s : St} (h : AW P f n n0 R (.code c :: .inLoop c :: k) s) : AW P f n n0 R (.code (.loop c) :: k) s := AW.steps (fun _ _ _ _ _ _ _ => .one step_loop) h
theorem AW.round {c : Code} {k : List Item} {s : St} (h : AW P f n n0 R (.code c :: .inLoop c :: k) s) : AW P f n n0 R (.inLoop c :: k) s := AW.steps (fun _ _ _ _ _ _ _ => .one step_inLoop) h
theorem AW.exit {id : Nat} {k k' : List Item} {s : St} (he : exitTo id k = some k') (h : AW P f n n0 R k' s) : AW P f n n0 R (.code (.exit id) :: k) s := AW.steps (fun _ _ _ _ _ _ _ => .one (step_exit he)) h
theorem AW.cond {c : Operand} {x y : Code} {k : List Item} {s : St} {b : Bool} (hc : ev s c = .d (.bool b)) (ho : okOperand c = true) (h1 : b = true → AW P f n n0 R (.code x :: k) s) (h2 : b = false → AW P f n n0 R (.code y :: k) s) :
  AW P f n n0 R (.code (.cond c x y) :: k) s := by
 have hstep : ∀ (a : Act) (b' : Frame) (cs : List Frame) (w : World), a.tmps.size = n → (∀ E, RepSt E n s a → Steps P (lone (b'.at a (.code (.cond c x y) :: k)) cs w) (lone (b'.at a (.code (if b then x else y) :: k)) cs w)) := by
  intro a b' cs w _ E hst
  have hv := rd_ev hst c ho
  rw [hc] at hv
  generalize hg : a.eval c = v at hv
  cases hv with
  | d _ _ hd => cases hd; exact .one (step_cond hg)
 cases b
 ·exact AW.steps hstep (h2 rfl)
 ·exact AW.steps hstep (h1 rfl)
def C.refsLt1 (m : Nat) : C → Bool
 | .d _ | .nilp | .nil0 => true
 | .ptr r _ | .own r _ | .rsl r _ | .eptr r _ _ _ | .tptr r _ _ _ _ | .map r => decide (r < m)
 | _ => false
def C.refsLt (m : Nat) : C → Bool
 | .fn _ cs | .agg cs => cs.all (C.refsLt1 m)
 | c => c.refsLt1 m
def C.refsLtT (m : Nat) : C → Bool
 | .tup cs => cs.all (C.refsLt m)
 | c => c.refsLt m
def O.refsLt (m : Nat) : O → Bool
 | .box cs => cs.all (C.refsLt m)
 | .iter k _ _ _ => decide (k < m)
 | .tree _ _ _ _ _ (some (_, _, N, _)) => decide (N < m)
 | _ => true
theorem Rd.trunc1 {E : Env} {m : Nat} {c : C} {v : Value} (hb : c.refsLt1 m = true) (h : Rd E c v) : Rd (Abs.trunc E m) c v := by
 cases h with
 | d x v hd => exact .d _ _ hd
 | nil0 a => exact .nil0 a
 | nilp => exact .nilp
 | ptr r off hr => exact .ptr _ _ (by simpa [C.refsLt1, Abs.trunc] using hb)
 | own r q v hr h1 hq hv => exact .own _ _ _ (by simpa [C.refsLt1, Abs.trunc] using hb) h1 hq hv
 | rsl r n hr => exact .rsl _ _ (by simpa [C.refsLt1, Abs.trunc] using hb)
 | eptr r z i off hr => exact .eptr _ _ _ _ (by simpa [C.refsLt1, Abs.trunc] using hb)
 | tptr r q z i off b hr hq hv => exact .tptr _ _ _ _ _ _ (by simpa [C.refsLt1, Abs.trunc] using hb) hq hv
 | map r hr => exact .map _ (by simpa [C.refsLt1, Abs.trunc] using hb)
 | _ => simp [C.refsLt1] at hb
theorem Rd.trunc {E : Env} {m : Nat} {c : C} {v : Value} (hb : c.refsLt m = true) (h : Rd E c v) : Rd (Abs.trunc E m) c v := by
 cases h with
 | fn g cs vs hl hr =>
  simp only [C.refsLt, List.all_eq_true] at hb
  exact .fn _ _ _ hl (fun i c v hc hv => (hr i c v hc hv).trunc1 (hb c (List.mem_of_getElem? hc)))
 | agg cs vs hl h1 hr =>
  simp only [C.refsLt, List.all_eq_true] at hb
  exact .agg _ _ hl h1 (fun i c v hc hv => (hr i c v hc hv).trunc1 (hb c (List.mem_of_getElem? hc)))
 | d x v hd => exact Rd.trunc1 (by simpa [C.refsLt] using hb) (.d x v hd)
 | nil0 a => exact .nil0 a
 | nilp => exact .nilp
 | ptr r off hr => exact Rd.trunc1 (by simpa [C.refsLt] using hb) (.ptr r off hr)
 | own r q v hr h1 hq hv => exact Rd.trunc1 (by simpa [C.refsLt] using hb) (.own r q v hr h1 hq hv)
 | rsl r n hr => exact Rd.trunc1 (by simpa [C.refsLt] using hb) (.rsl r n hr)
 | eptr r z i off hr => exact Rd.trunc1 (by simpa [C.refsLt] using hb) (.eptr r z i off hr)
 | tptr r q z i off b hr hq hv => exact Rd.trunc1 (by simpa [C.refsLt] using hb) (.tptr r q z i off b hr hq hv)
 | map r hr => exact Rd.trunc1 (by simpa [C.refsLt] using hb) (.map r hr)
 | _ => simp [C.refsLt, C.refsLt1] at hb
theorem Rd.truncT {E : Env} {m : Nat} {c : C} {v : Value} (hb : c.refsLtT m = true) (h : Rd E c v) : Rd (Abs.trunc E m) c v := by
 cases h with
 | tup cs vs hl hr =>
  simp only [C.refsLtT, List.all_eq_true] at hb
  exact .tup _ _ hl (fun i c v hc hv => (hr i c v hc hv).trunc (hb c (List.mem_of_getElem? hc)))
 | fn g cs vs hl hr => exact Rd.trunc (by simpa [C.refsLtT] using hb) (.fn g cs vs hl hr)
 | agg cs vs hl h1 hr => exact Rd.trunc (by simpa [C.refsLtT] using hb) (.agg cs vs hl h1 hr)
 | d x v hd => exact .d x v hd
 | nil0 a => exact .nil0 a
 | nilp => exact .nilp
 | ptr r off hr => exact Rd.trunc (by simpa [C.refsLtT] using hb) (.ptr r off hr)
 | own r q v hr h1 hq hv => exact Rd.trunc (by simpa [C.refsLtT] using hb) (.own r q v hr h1 hq hv)
 | rsl r n hr => exact Rd.trunc (by simpa [C.refsLtT] using hb) (.rsl r n hr)
 | eptr r z i off hr => exact Rd.trunc (by simpa [C.refsLtT] using hb) (.eptr r z i off hr)
 | tptr r q z i off b hr hq hv => exact Rd.trunc (by simpa [C.refsLtT] using hb) (.tptr r q z i off b hr hq hv)
 | map r hr => exact Rd.trunc (by simpa [C.refsLtT] using hb) (.map r hr)
 | _ => simp [C.refsLtT, C.refsLt, C.refsLt1] at hb
theorem RepO.trunc {E : Env} {m r : Nat} {o : O} (hb : o.refsLt m = true) (h : RepO E r o) : RepO (Abs.trunc E m) r o := by
 cases o with
 | box cs =>
  obtain ⟨arr, e, h1, h2, h3, h4⟩ := h
  simp only [O.refsLt, List.all_eq_true] at hb
  exact ⟨arr, e, h1, h2, fun i c v hc hv => ⟨(h3 i c v hc hv).1.trunc (hb c (List.mem_of_getElem? hc)), (h3 i c v hc hv).2⟩, h4⟩
 | tree q z e xs B L =>
  cases L with
  | none => exact h
  | some l =>
   obtain ⟨i, j, N, qn⟩ := l
   simp only [O.refsLt, decide_eq_true_eq] at hb
   obtain ⟨g1, g2, g3, g4, g5⟩ := h
   refine ⟨g1, g2, g3, g4, ?_⟩
   rcases g5 with g5 | ⟨b, cap, arr, k1, k2, k3, k4, k5, k6, k7, k8, k9, k10, k11⟩
   ·exact .inl g5
   ·exact .inr ⟨b, cap, arr, k1, k2, k3, k4, k5, k6, k7, k8, k9, hb, k11⟩
 | _ => exact h
theorem RepH.trunc {E : Env} {H : List O} {m : Nat} (h : RepH E H) (hm : m ≤ H.length) (hb : (H.take m).all (O.refsLt m) = true) : RepH (Abs.trunc E m) (H.take m) := by
 simp only [List.all_eq_true] at hb
 have hget : ∀ {r : Nat} {o : O}, (H.take m)[r]? = some o → H[r]? = some o := fun ho => by
  rw [List.getElem?_take] at ho
  split at ho
  ·exact ho
  ·simp at ho
 have hblk : ∀ (r : Nat) (o : O), o.block (Abs.trunc E m) r = o.block E r := fun r o => by cases o <;> rfl
 refine ⟨by simp [Abs.trunc]; omega, fun r o ho => (h.obj r o (hget ho)).trunc (hb o (List.mem_of_getElem? ho)), fun r o b ho hb => h.pv r o b (hget ho) (by rw [← hblk]; exact hb), fun r o b ho hb => h.lt r o b (hget ho) (by rw [← hblk]; exact hb),
  fun r r' o o' b ho ho' hb hb' => h.apart r r' o o' b (hget ho) (hget ho') (by rw [← hblk]; exact hb) (by rw [← hblk]; exact hb'), h.Slt⟩
def kNorm (K : C → Prop) (s : St) : C → Prop := fun c => K (norm s c)
def resOne (P : Program) (s : St) (rv : ResultVar) (K : C → Prop) : Prop :=
 match rv with
 | .tmp t => K (norm s (get s.σ t))
 | .cell a ty => vcLoad P s ty (get s.σ a) (kNorm K s)
def kSnoc (F : List C → Prop) (acc : List C) : C → Prop := fun c => F (acc ++ [c])
def resAll (P : Program) (s : St) (K : List C → Prop) : List ResultVar → List C → Prop
 | [], acc => K acc
 | r :: rs, acc => resOne P s r (kSnoc (resAll P s K rs) acc)
def single : List C → C
 | [c] => c
 | cs => .tup cs
def kRet (R : C → List O → Prop) (n0 : Nat) (H : List O) : List C → Prop := fun l => (single l).refsLtT n0 = true ∧ R (single l) H
def vcRet (P : Program) (rs : List ResultVar) (n0 : Nat) (R : C → List O → Prop) (s : St) : Prop :=
 (s.H.take n0).all (O.refsLt n0) = true ∧ resAll P s (kRet R n0 (s.H.take n0)) rs []
theorem resAll_sound {s : St} {K : List C → Prop} : ∀ (rs : List ResultVar) (acc : List C), resAll P s K rs acc →
  ∃ l, K (acc ++ l) ∧ l.length = rs.length ∧ ∀ (E : Env) (a : Act), RepSt E n s a → ∃ vs : List Value, (rs.mapM fun rv => (match rv with
   | .tmp t => pure (a.tmps.getD t undef)
   | .cell p t => do loadVar t (← asAddr (a.tmps.getD p undef)) : Sem Value)).run P E.w = .ok vs E.w ∧ vs.length = l.length ∧ ∀ (i : Nat) (c : C) (v : Value), l[i]? = some c → vs[i]? = some v → Rd E c v
 | [], acc, h => ⟨[], by simpa [resAll] using h, rfl, fun E a hst => ⟨[], by simp, rfl, fun i c v hc => by simp at hc⟩⟩
 | rv :: rs, acc, h => by
  unfold resAll at h
  unfold resOne at h
  split at h
  ·rename_i t
   obtain ⟨l, hk, hl, hall⟩ := resAll_sound rs _ h
   refine ⟨_ :: l, by rw [List.append_assoc] at hk; exact hk, by simp [hl], fun E a hst => ?_⟩
   obtain ⟨vs, h1, h2, h3⟩ := hall E a hst
   refine ⟨a.tmps.getD t undef :: vs, by simp only [List.mapM_cons, Sem.run_bind, Sem.run_pure, Result.andThen_ok, h1], by simp [h2], fun i c v hc hv => ?_⟩
   cases i with
   | zero =>
    simp only [List.getElem?_cons_zero, Option.some.injEq] at hc hv
    subst hc hv
    exact rd_norm hst (hst.slot t)
   | succ i => exact h3 i c v (by simpa using hc) (by simpa using hv)
  ·rename_i p t
   have hs := load_sound (P := P) (s := s) (t := t) (x := .tmp p) rfl h
   obtain ⟨c0, h0, hrun⟩ := hs
   obtain ⟨l, hk, hl, hall⟩ := resAll_sound rs _ h0
   refine ⟨_ :: l, by rw [List.append_assoc] at hk; exact hk, by simp [hl], fun E a hst => ?_⟩
   obtain ⟨vs, h1, h2, h3⟩ := hall E a hst
   obtain ⟨u, hu1, hu2⟩ := hrun E n a hst
   dsimp only at hu1
   have hu1' : (do loadVar t (← asAddr (a.tmps.getD p undef)) : Sem Value).run P E.w = .ok u E.w := by
    have e : a.eval (.tmp p) = a.tmps.getD p undef := rfl
    rw [e] at hu1
    generalize a.tmps.getD p undef = pv at hu1 ⊢
    cases pv with
    | pointer ad =>
     cases ad with
     | none => simp [Instr.loadAt, Instr.sureAddr] at hu1
     | some ad => simpa [Instr.loadAt, Instr.sureAddr, asAddr] using hu1
    | _ => simp [Instr.loadAt, Instr.sureAddr] at hu1
   refine ⟨u :: vs, ?_, by simp [h2], fun i c v hc hv => ?_⟩
   ·rw [List.mapM_cons, Sem.run_bind]
    dsimp only
    rw [hu1']
    simp only [Result.andThen_ok, Sem.run_bind, Sem.run_pure, h1]
   ·cases i with
    | zero =>
     simp only [List.getElem?_cons_zero, Option.some.injEq] at hc hv
     subst hc hv
     exact rd_norm hst hu2
    | succ i => exact h3 i c v (by simpa using hc) (by simpa using hv)
theorem AW.finish {fn : Func} {k : List Item} {s : St} (hf : P.funcs[f]? = some fn) (hk : k = [] ∨ ∃ k', k = .code .ret :: k') (h : vcRet P fn.results.toList n0 R s) : AW P f n n0 R k s := by
 intro h0 E a b cs hst hb hkind
 obtain ⟨hbel, h⟩ := h
 obtain ⟨l, hret, hl, hall⟩ := resAll_sound (n := n) _ _ h
 obtain ⟨hbt, hR⟩ : (single l).refsLtT n0 = true ∧ R (single l) (s.H.take n0) := hret
 obtain ⟨vs, h1, h2, h3⟩ := hall E a hst
 have hres : ∃ v, (results fn a.tmps).run P E.w = .ok v E.w ∧ Rd E (single l) v := by
  have hm : (fn.results.mapM fun rv => (match rv with
   | .tmp t => pure (a.tmps.getD t undef)
   | .cell p t => do loadVar t (← asAddr (a.tmps.getD p undef)) : Sem Value)).run P E.w = .ok vs.toArray E.w := by
   rw [Array.mapM_eq_mapM_toList]
   simp only [Sem.run_map, h1, Result.andThen_ok]
  have key : ∀ (r : Result (Array Value)), r = .ok vs.toArray E.w → ∃ v, (r.andThen fun x w' => Sem.run P (pure (if h : x.size = 1 then x[0] else Value.tuple x)) w') = .ok v E.w ∧ Rd E (single l) v := by
   rintro _ rfl
   simp only [Result.andThen_ok, Sem.run_pure]
   match l, h2, h3 with
   | [c], h2, h3 =>
    match vs, h2, h3 with
    | [v], _, h3 => exact ⟨v, by simp, h3 0 c v rfl rfl⟩
   | [], h2, h3 =>
    have : vs = [] := List.eq_nil_of_length_eq_zero h2
    subst this
    exact ⟨.tuple #[], by simp, .tup _ _ (by simp) (fun i c v hc => by simp at hc)⟩
   | c :: c' :: l', h2, h3 =>
    refine ⟨.tuple vs.toArray, ?_, .tup _ _ (by simpa using h2) (fun i c v hc hv => h3 i c v hc (by simpa using hv))⟩
    have : ¬ vs.toArray.size = 1 := by simp only [List.size_toArray, h2, List.length_cons]; omega
    rw [dif_neg this]
  unfold results
  rw [Sem.run_bind]
  exact key _ hm
 obtain ⟨v, hv1, hv2⟩ := hres
 have hstep : Steps P (lone (b.at a k) cs E.w) (lone { b.at a k with mode := .returning } cs E.w) := by
  rcases hk with rfl | ⟨k', rfl⟩
  ·exact .one step_end
  ·exact .one step_ret
 refine ⟨{ b.at a k with mode := .returning }, E.w, v, single l, trunc E n0, s.H.take n0, hstep, hb, ⟨rfl, hst.defers, hkind, fn, by show P.funcs[b.fn]? = _; rw [hb]; exact hf, hv1⟩, rfl, hst.heap.trunc h0 hbel, by simp; omega, Le.refl _, hv2.truncT hbt, hR⟩
theorem ACalls.enter {fn : Func} {c : Code} {args : List C} {H : List O} (hf : P.funcs[f]? = some fn) (hb : fn.body = some c) (hn : args.length ≤ fn.ntmps)
  (h : AW P f fn.ntmps H.length R [.code c] ⟨(List.range args.length).zip args, H⟩) : ACalls P f args H R := by
 intro E vs hH hs ha cs
 let a : Act := { tmps := vs ++ Array.replicate (fn.ntmps - vs.size) undef, defers := [] }
 let b : Frame := { (default : Frame) with fn := f, kind := .normal }
 have henter : Frame.enter P f vs .normal = b.at a [.code c] := by
  simp [Frame.enter, Frame.at, hf, hb, b, a]
 have hzip : ∀ (l : List C) (k t : Nat), get ((List.range' k l.length).zip l) t = if h : k ≤ t ∧ t < k + l.length then l[t - k]'(by omega) else .top := by
  intro l
  induction l with
  | nil => intro k t; simp [get]; omega
  | cons x r ih =>
   intro k t
   simp only [List.length_cons, List.range'_succ, List.zip_cons_cons, get]
   by_cases e : k = t
   ·subst e; simp
   ·rw [if_neg e, ih]
    by_cases h1 : k + 1 ≤ t ∧ t < k + 1 + r.length
    ·rw [dif_pos h1, dif_pos (by omega)]
     obtain ⟨m, rfl⟩ : ∃ m, t = k + 1 + m := ⟨t - (k + 1), by omega⟩
     have e1 : k + 1 + m - (k + 1) = m := by omega
     have e2 : k + 1 + m - k = m + 1 := by omega
     simp only [e1, e2, List.getElem_cons_succ]
    ·rw [dif_neg h1, dif_neg (by omega)]
 have hst : RepSt E fn.ntmps ⟨(List.range args.length).zip args, H⟩ a := by
  refine ⟨by simp [a, hs]; omega, rfl, hH, fun t => ?_⟩
  simp only
  rw [List.range_eq_range', hzip]
  split
  ·rename_i ht
   have htl : t < args.length := by omega
   have hv : vs[t]? = some (vs[t]'(by omega)) := Array.getElem?_eq_getElem _
   have : a.tmps.getD t undef = vs[t]'(by omega) := by
    show (vs ++ _).getD t undef = _
    rw [Array.getD_eq_getD_getElem?, Array.getElem?_append_left (by omega), hv]; rfl
   rw [this]
   exact ha t _ _ (by simp [htl]) hv
  ·exact .top _
 obtain ⟨fr, w', v, r, E', H', h1, h2, h3, h4, h5, h6, h7, h8, h9⟩ := h (Nat.le_refl _) E a b cs hst rfl rfl
 rw [← henter] at h1
 have hN : trunc E H.length = E := by unfold trunc; rw [← hH.N]
 rw [hN] at h7
 exact ⟨.returned v, w', fr, ⟨v, r, E', H', rfl, h4, h5, h7, h8, h6, h9⟩, h1, h2, h3⟩
end
end Go.Abs
namespace Go.Abs
section
variable (P : Program) (f : FuncId) (n n0 : Nat) (R : C → List O → Prop) (rs : List ResultVar)
def run : Nat → List Item → St → Prop
 | 0, k, ⟨σ, H⟩ => AW P f n n0 R k ⟨σ, H⟩
 | _ + 1, [], ⟨σ, H⟩ => vcRet P rs n0 R ⟨σ, H⟩
 | fuel + 1, .inBlock _ :: k, ⟨σ, H⟩ => run fuel k ⟨σ, H⟩
 | fuel + 1, .code c :: k, ⟨σ, H⟩ =>
  (match c with
  | .ret => vcRet P rs n0 R ⟨σ, H⟩
  | .skip => run fuel k ⟨σ, H⟩
  | .label _ => run fuel k ⟨σ, H⟩
  | .seq x y => run fuel (.code x :: .code y :: k) ⟨σ, H⟩
  | .block id x => run fuel (.code x :: .inBlock id :: k) ⟨σ, H⟩
  | .exit id => (match exitTo id k with | some k' => run fuel k' ⟨σ, H⟩ | none => False)
  | .cond c x y => okOperand c = true ∧ (match ev ⟨σ, H⟩ c with
   | .d (.bool b) => br b (app (run fuel (.code x :: k)) ⟨σ, H⟩) (app (run fuel (.code y :: k)) ⟨σ, H⟩)
   | _ => False)
  | .region _ ops false => vcR P n ops (run fuel k) ops.toList ⟨σ, H⟩
  | .region _ ops true => vcD P n ops (run fuel k) ops.toList ⟨σ, H⟩
  | c => AW P f n n0 R (.code c :: k) ⟨σ, H⟩)
 | _ + 1, k, ⟨σ, H⟩ => AW P f n n0 R k ⟨σ, H⟩
end
def okCode : Code → Bool
 | .region _ ops true => Region.lexB .any ops
 | .seq a b => okCode a && okCode b
 | .cond _ a b => okCode a && okCode b
 | .block _ a => okCode a
 | .loop a => okCode a
 | _ => true
def okItem : Item → Bool
 | .code c => okCode c
 | .inLoop c => okCode c
 | _ => true
section
variable {P : Program} {f : FuncId} {n n0 : Nat} {R : C → List O → Prop}
theorem AW.region' {id : Nat} {ops : Array Oper} {k : List Item} {s : St} {K : St → Prop} (h : vcR P n ops K ops.toList s) (hk : ∀ s', K s' → AW P f n n0 R k s') : AW P f n n0 R (.code (.region id ops false) :: k) s := by
 refine AW.of_behind (k' := k) fun _ E a b cs hst => ?_
 have hw := vcR_sound ops.toList (List.range ops.size) s E E a (by
  apply List.ext_getElem?
  intro j
  simp only [List.getElem?_map]
  by_cases hj : j < ops.size
  ·rw [List.getElem?_range hj]
   simp [hj]
  ·rw [List.getElem?_eq_none (by simpa using hj), List.getElem?_eq_none (by simpa using hj)]
   rfl) hst (Le.refl E) h
 obtain ⟨e, a', w', ⟨rfl, E', s', rfl, h1, h2, h3⟩, harr⟩ := wp_region (id := id) hw b k cs
 exact ⟨a', E', s', harr, h1, h2, hk _ h3⟩
theorem AW.draw' {id : Nat} {ops : Array Oper} {k : List Item} {s : St} {K : St → Prop} (hm : P.follows .mixedOrders = true) (hB : Region.lexB .any ops = true) (h : vcD P n ops K ops.toList s) (hk : ∀ s', K s' → AW P f n n0 R k s') :
  AW P f n n0 R (.code (.region id ops true) :: k) s := by
 refine AW.of_behind (k' := k) fun _ E a b cs hst => ?_
 have hst' : RepSt E.drew n s a := ⟨hst.size, hst.defers, rep_drew hst.heap, fun t => (hst.slot t).le (le_drew E)⟩
 simp only [Region.lexB, Bool.and_eq_true] at hB
 have hany := vcD_any (md := .any) ops.toList 0 (Array.replicate ops.size false) s (by simp) (by simpa using hB.2) h
 have hw := any_sound (E0 := E) _ _ _ E.drew a hany hst'.toF (le_drew E)
 simp only [Array.length_toList] at hw
 obtain ⟨e, a', w', ⟨rfl, E', σ, rfl, h1, h2, s', hs, hH, h3⟩, harr⟩ := wp_region_any (id := id) hm hw b k cs
 exact ⟨a', E', s', harr, ⟨h1.size, h1.defers, by rw [hH]; exact h1.heap, fun t => by rw [hs]; exact h1.slot t⟩, h2, hk _ h3⟩
theorem okItem_exit : ∀ (k k' : List Item) (id : Nat), exitTo id k = some k' → k.all okItem = true → k'.all okItem = true
 | [], k', id, h, _ => by simp [exitTo] at h
 | x :: k, k', id, h, hk => by
  simp only [List.all_cons, Bool.and_eq_true] at hk
  cases x <;> simp only [exitTo] at h <;> first
   | exact okItem_exit k k' id h hk.2
   | (split at h <;> first | (simp only [Option.some.injEq] at h; subst h; exact hk.2) | exact okItem_exit k k' id h hk.2)
theorem run_sound {fn : Func} (hf : P.funcs[f]? = some fn) (hm : P.follows .mixedOrders = true) : ∀ (fuel : Nat) (k : List Item) (s : St), k.all okItem = true → run P f n n0 R fn.results.toList fuel k s → AW P f n n0 R k s
 | 0, k, s, _, h => h
 | fuel + 1, k, s, hk, h => by
  have ih := fun k s => run_sound hf hm fuel k s
  unfold run at h
  split at h
  ·rename_i h'; cases h'
  ·exact AW.finish hf (.inl rfl) h
  ·rename_i e; cases e
   simp only [List.all_cons, Bool.and_eq_true] at hk
   exact AW.inBlock (ih _ _ hk.2 h)
  ·rename_i c k _ e; cases e
   simp only [List.all_cons, Bool.and_eq_true, okItem] at hk
   split at h
   ·exact AW.finish hf (.inr ⟨_, rfl⟩) h
   ·exact AW.skip (ih _ _ hk.2 h)
   ·exact AW.label (ih _ _ hk.2 h)
   ·refine AW.seq (ih _ _ ?_ h)
    simp only [okCode, Bool.and_eq_true] at hk
    simp [okItem, hk.1.1, hk.1.2, hk.2]
   ·refine AW.block (ih _ _ ?_ h)
    simp only [okCode] at hk
    simp [okItem, hk.1, hk.2]
   ·split at h
    ·rename_i k' he
     exact AW.exit he (ih _ _ (okItem_exit _ _ _ he hk.2) h)
    ·exact h.elim
   ·obtain ⟨ho, h⟩ := h
    simp only [okCode, Bool.and_eq_true] at hk
    split at h
    ·rename_i b hb
     exact AW.cond hb ho (fun e => ih _ _ (by simp [okItem, hk.1.1, hk.2]) (h.1 e)) (fun e => ih _ _ (by simp [okItem, hk.1.2, hk.2]) (h.2 e))
    ·exact h.elim
   ·exact AW.region' h (fun s' h' => ih _ _ hk.2 h')
   ·exact AW.draw' hm hk.1 h (fun s' h' => ih _ _ hk.2 h')
   ·exact h
  ·exact h
def Weak (n0 : Nat) (s s' : St) : Prop :=
 n0 ≤ s'.H.length ∧ s'.H = s.H.take s'.H.length ∧ s'.H.all (O.refsLt s'.H.length) = true ∧ ∀ p, p ∈ s'.σ → get s.σ p.1 = p.2 ∧ p.2.refsLtT s'.H.length = true
theorem get_mem : ∀ {σ : List (Nat × C)} {t : Nat}, get σ t = .top ∨ (t, get σ t) ∈ σ
 | [], t => .inl rfl
 | (t', c) :: r, t => by
  simp only [get]
  split
  ·rename_i e; subst e; right; simp
  ·rcases get_mem (σ := r) (t := t) with h | h
   ·exact .inl h
   ·exact .inr (List.mem_cons_of_mem _ h)
theorem AW.weaken {k : List Item} {s s' : St} (hw : Weak n0 s s') (h : AW P f n n0 R k s') : AW P f n n0 R k s := by
 intro h0 E a b cs hst hb hk
 obtain ⟨w0, w1, w2, w3⟩ := hw
 generalize hm : s'.H.length = m at w0 w1 w2 w3
 have hle : m ≤ s.H.length := by
  have := congrArg List.length w1
  simp at this; omega
 have hst' : RepSt (trunc E m) n s' a := by
  refine ⟨hst.size, hst.defers, ?_, fun t => ?_⟩
  ·rw [w1]
   exact hst.heap.trunc hle (by rw [← w1]; exact w2)
  ·rcases get_mem (σ := s'.σ) (t := t) with e | e
   ·rw [e]; exact .top _
   ·obtain ⟨e1, e2⟩ := w3 _ e
    dsimp only at e1 e2
    rw [← e1] at e2 ⊢
    exact (hst.slot t).truncT e2
 obtain ⟨fr, w', v, r, E', H', g1, g2, g3, g4, g5, g6, g7, g8⟩ := h (by omega) (trunc E m) a b cs hst' hb hk
 exact ⟨fr, w', v, r, E', H', g1, g2, g3, g4, g5, g6, g7, g8⟩
theorem AW.loop_ind {α : Type} (st : α → St) (I : α → Prop) (μ : α → Nat) {c : Code} {k : List Item} {s : St} (x0 : α) (h0 : I x0) (hw : Weak n0 s (st x0))
  (step : ∀ x, I x → (∀ y s', I y → μ y < μ x → Weak n0 s' (st y) → AW P f n n0 R (.inLoop c :: k) s') → AW P f n n0 R (.code c :: .inLoop c :: k) (st x)) : AW P f n n0 R (.code (.loop c) :: k) s := by
 have key : ∀ m x, μ x = m → I x → AW P f n n0 R (.code c :: .inLoop c :: k) (st x) := by
  intro m
  induction m using Nat.strongRecOn with
  | _ m ih =>
   intro x hx hI
   exact step x hI (fun y s' hy hlt hws => AW.round (AW.weaken hws (ih (μ y) (hx ▸ hlt) y rfl hy)))
 exact AW.loop (AW.weaken hw (key _ x0 rfl h0))
theorem AW.adopt {k : List Item} {s : St} (t z e : Nat) (hz : 0 < z) (ht : get s.σ t = .nil0) (h : AW P f n n0 R k ⟨(t, .own s.H.length 0) :: s.σ, s.H ++ [.grow 0 z e []]⟩) : AW P f n n0 R k s := by
 intro h0 E a b cs hst hb hk
 have hv := hst.slot t
 rw [ht] at hv
 generalize hg : a.tmps.getD t undef = v at hv
 cases hv with
 | nil0 ad =>
  obtain ⟨hl, hH⟩ := rep_ghost hst.heap ad e hz
  have hN : n0 ≤ E.N := by rw [hst.heap.N]; exact h0
  have hst' : RepSt (E.ghost ad) n ⟨(t, .own s.H.length 0) :: s.σ, s.H ++ [.grow 0 z e []]⟩ a := by
   refine ⟨hst.size, hst.defers, hH, fun t' => ?_⟩
   simp only [get]
   split
   ·rename_i e; subst e
    rw [hg]
    exact .own _ _ _ (by simp [Env.ghost, hst.heap.N]) rfl (by simp [Env.ghost, hst.heap.N]) (fun _ => by simp [Env.ghost, hst.heap.N])
   ·exact (hst.slot t').le hl
  obtain ⟨fr, w', v, r, E', H', g1, g2, g3, g4, g5, g6, g7, g8⟩ := h (by simp; omega) (E.ghost ad) a b cs hst' hb hk
  exact ⟨fr, w', v, r, E', H', g1, g2, g3, g4, g5, g6, (hl.trunc hN).trans g7, g8⟩
def Env.freezeRow (E : Env) (r : Nat) : Env := { E with S := fun b i => E.S b i ∨ b = E.β r }
theorem AW.freeze {k : List Item} {s : St} (t r : Nat) {z e m : Nat} {xs : List (List D)} (ht : get s.σ t = .rsl r m) (hr : s.H[r]? = some (.row z e xs)) (hm : m = xs.length)
  (h : AW P f n n0 R k ⟨(t, .d (.sl xs)) :: s.σ, s.H.set r .dead⟩) : AW P f n n0 R k s := by
 subst hm
 intro h0 E a b cs hst hb hk
 have hv := hst.slot t
 rw [ht] at hv
 obtain ⟨arr, h1, h2, h3, h3', h4, h5⟩ := hst.heap.obj r _ hr
 have hN : n0 ≤ E.N := by rw [hst.heap.N]; exact h0
 have hpv := hst.heap.pv r _ _ hr rfl
 have hlb := hst.heap.lt r _ _ hr rfl
 have hl : Le E (E.freezeRow r) := by
  refine ⟨rfl, rfl, rfl, Nat.le_refl _, Nat.le_refl _, fun _ _ => rfl, fun _ _ => ⟨Nat.le_refl _, fun _ => rfl⟩, fun _ _ hs => .inl hs, fun _ _ _ => rfl, fun _ _ _ => rfl, fun b i hs => ?_, fun _ hp => .inl hp, fun _ _ _ _ _ hh => hh⟩
  rcases hs with hs | rfl
  ·exact .inl hs
  ·exact .inr (.inr hpv)
 have hH : RepH (E.freezeRow r) (s.H.set r .dead) := by
  refine hst.heap.turn (r0 := r) (o0 := .dead) hl (by simp [Env.freezeRow, hst.heap.N]) (fun r' hr' => ?_) (fun o' ho' => ?_) (fun _ _ _ => rfl) (fun r' o' b hr' ho' hb => ⟨rfl, fun i hs => ?_⟩) (fun _ hb => hb) (fun b i hs => ?_) trivial (fun b hb => by simp [O.block] at hb)
  ·rw [List.getElem?_set_ne (fun e => hr' e.symm)]
  ·rw [List.getElem?_set_self (List.getElem?_eq_some_iff.1 hr).1] at ho'
   exact (Option.some.inj ho').symm
  ·rcases hs with hs | rfl
   ·exact hs
   ·exact absurd (hst.heap.apart r' r o' _ _ ho' hr hb rfl) hr'
  ·rcases hs with hs | rfl
   ·exact hst.heap.Slt b i hs
   ·exact hlb
 have hst' : RepSt (E.freezeRow r) n ⟨(t, .d (.sl xs)) :: s.σ, s.H.set r .dead⟩ a := by
  refine ⟨hst.size, hst.defers, hH, fun t' => ?_⟩
  simp only [get]
  split
  ·rename_i e; subst e
   generalize a.tmps.getD t undef = v at hv ⊢
   cases hv with
   | rsl _ _ hrN =>
    refine .d _ _ ?_
    by_cases hx : xs = []
    ·subst hx; exact .nil _ _
    ·refine .sl (E.β r) 0 xs.length z xs (fun i j => arr.getD (i * z + j) undef) hx (Nat.le_refl _) h3' h3 (fun i j hi hj => ?_) (fun i j x c hi hj => ?_)
     ·have hxz := h3 xs[i] (List.getElem_mem _)
      obtain ⟨v, k2, k3, k4⟩ := h4 i j xs[i] (xs[i][j]'(by omega)) (List.getElem?_eq_getElem hi) (List.getElem?_eq_getElem _)
      refine ⟨.inr rfl, ?_, ?_⟩
      ·simp only [Nat.zero_add]
       show E.w.cell? _ = _
       rw [cell_of_row _ _ _ _ _ _ h1, k2, Array.getD_eq_getD_getElem?, k2]; rfl
      ·rw [Array.getD_eq_getD_getElem?, k2]; exact k3
     ·obtain ⟨v, k2, k3, k4⟩ := h4 i j x c hi hj
      rw [Array.getD_eq_getD_getElem?, k2]; exact k4.le hl
  ·exact (hst.slot t').le hl
 obtain ⟨fr, w', v, r', E', H', g1, g2, g3, g4, g5, g6, g7, g8⟩ := h (by simp; omega) (E.freezeRow r) a b cs hst' hb hk
 exact ⟨fr, w', v, r', E', H', g1, g2, g3, g4, g5, g6, (hl.trunc hN).trans g7, g8⟩
def Gives (P : Program) (f : FuncId) (args : List D) (r : C) : Prop := ACalls P f (args.map .d) [] fun c _ => c = r
theorem Gives.calls {args : List D} {r : C} (h : Gives P f args r) (hr : r.refsLtT 0 = true) {H : List O} {K : C → List O → Prop} (hk : K r H) : ACalls P f (args.map .d) H K := by
 intro E vs hH hs ha
 let E0 : Env := { E with N := 0, pv := fun _ => False }
 have hE0 : RepH E0 [] := ⟨rfl, fun r o ho => by simp at ho, fun r o b ho => by simp at ho, fun r o b ho => by simp at ho, fun r r' o o' b ho => by simp at ho, hH.Slt⟩
 refine (h E0 vs hE0 hs (fun i c v hc hv => ?_)).mono ?_
 ·have := ha i c v hc hv
  simp only [List.getElem?_map, Option.map_eq_some_iff] at hc
  obtain ⟨d, _, rfl⟩ := hc
  cases this with
  | d _ _ hd => exact .d _ _ hd
 ·rintro e w' ⟨v, c, E', H', rfl, rfl, h3, h4, h5, h6, rfl⟩
  have hH' : H' = [] := List.eq_nil_of_length_eq_zero h6
  subst hH'
  let E2 : Env := { E with w := E'.w, S := E'.S }
  have hnew : ∀ b i, E'.S b i → E.S b i ∨ E.w.heap.size ≤ b := fun b i hs => by
   rcases h4.newS b i hs with h' | h' | h'
   ·exact .inl h'
   ·exact .inr h'
   ·exact h'.elim
  have hl : Le E E2 := ⟨h4.os, h4.tape, h4.output, h4.size, Nat.le_refl _, fun _ _ => rfl, fun _ _ => ⟨Nat.le_refl _, fun _ => rfl⟩, h4.S, h4.cell, fun b hb _ => h4.blk b hb (fun h => h), fun b i hs => by
   rcases hnew b i hs with h' | h'
   ·exact .inl h'
   ·exact .inr (.inl h'), fun _ hp => .inl hp, h4.map⟩
  have hH2 : RepH E2 H := hH.keep hl rfl (fun _ _ => rfl) (fun r o b ho hb => ⟨h4.blk b (hH.lt r o b ho hb) (fun h => h), fun i hs => by
   rcases hnew b i hs with h' | h'
   ·exact h'
   ·have := hH.lt r o b ho hb; omega⟩) (fun _ hb => hb) h3.Slt
  have h5' : Rd E2 c v := by
   have gen : ∀ {c : C} {v : Value}, c.refsLt1 0 = true → Rd E' c v → Rd E2 c v := by
    intro c v hc hv
    cases hv with
    | d _ _ hd => exact .d _ _ hd
    | nil0 a => exact .nil0 a
    | nilp => exact .nilp
    | _ => simp [C.refsLt1] at hc
   have gen2 : ∀ {c : C} {v : Value}, c.refsLt 0 = true → Rd E' c v → Rd E2 c v := by
    intro c v hc hv
    cases hv with
    | d _ _ hd => exact .d _ _ hd
    | nil0 a => exact .nil0 a
    | nilp => exact .nilp
    | fn g cs vs hl hr =>
     simp only [C.refsLt, List.all_eq_true] at hc
     exact .fn _ _ _ hl (fun i c v hci hv => gen (hc c (List.mem_of_getElem? hci)) (hr i c v hci hv))
    | agg cs vs hl h1 hr =>
     simp only [C.refsLt, List.all_eq_true] at hc
     exact .agg _ _ hl h1 (fun i c v hci hv => gen (hc c (List.mem_of_getElem? hci)) (hr i c v hci hv))
    | _ => simp [C.refsLt, C.refsLt1] at hc
   cases h5 with
   | d _ _ hd => exact .d _ _ hd
   | nil0 a => exact .nil0 a
   | nilp => exact .nilp
   | tup cs vs hl hrr =>
    simp only [C.refsLtT, List.all_eq_true] at hr
    exact .tup _ _ hl (fun i c v hci hv => gen2 (hr c (List.mem_of_getElem? hci)) (hrr i c v hci hv))
   | fn g cs vs hl hrr => exact gen2 (by simpa [C.refsLtT] using hr) (.fn g cs vs hl hrr)
   | agg cs vs hl h1 hrr => exact gen2 (by simpa [C.refsLtT] using hr) (.agg cs vs hl h1 hrr)
   | _ => simp [C.refsLtT, C.refsLt, C.refsLt1] at hr
  exact ⟨v, c, E2, H, rfl, rfl, hH2, hl, h5', rfl, hk⟩
theorem Gives.callQ {args : List D} {r : C} (h : Gives P f args r) (hr : r.refsLtT 0 = true) {H : List O} {K : C → Prop} (hk : K r) : CallQ P f (args.map .d) H K :=
 ⟨r, h.calls hr ⟨rfl, rfl⟩, hk⟩
end
end Go.Abs
set_option linter.unusedVariables false
set_option linter.unusedSimpArgs false
namespace Go.Abs
open Go.ChangeShapes Go.RowKit
theorem allOk0 : (#[] : Array Operand).all okOperand 0 0 = (true) := by simp [Bool.and_assoc]
theorem allOk1 (x0 : Operand) : (#[x0] : Array Operand).all okOperand 0 1 = (okOperand x0) := by simp [Bool.and_assoc]
theorem allOk2 (x0 x1 : Operand) : (#[x0, x1] : Array Operand).all okOperand 0 2 = (okOperand x0 && okOperand x1) := by simp [Bool.and_assoc]
theorem allOk3 (x0 x1 x2 : Operand) : (#[x0, x1, x2] : Array Operand).all okOperand 0 3 = (okOperand x0 && okOperand x1 && okOperand x2) := by simp [Bool.and_assoc]
theorem allOk4 (x0 x1 x2 x3 : Operand) : (#[x0, x1, x2, x3] : Array Operand).all okOperand 0 4 = (okOperand x0 && okOperand x1 && okOperand x2 && okOperand x3) := by simp [Bool.and_assoc]
theorem allOk5 (x0 x1 x2 x3 x4 : Operand) : (#[x0, x1, x2, x3, x4] : Array Operand).all okOperand 0 5 = (okOperand x0 && okOperand x1 && okOperand x2 && okOperand x3 && okOperand x4) := by simp [Bool.and_assoc]
theorem allOk6 (x0 x1 x2 x3 x4 x5 : Operand) : (#[x0, x1, x2, x3, x4, x5] : Array Operand).all okOperand 0 6 = (okOperand x0 && okOperand x1 && okOperand x2 && okOperand x3 && okOperand x4 && okOperand x5) := by simp [Bool.and_assoc]
theorem allOk7 (x0 x1 x2 x3 x4 x5 x6 : Operand) : (#[x0, x1, x2, x3, x4, x5, x6] : Array Operand).all okOperand 0 7 = (okOperand x0 && okOperand x1 && okOperand x2 && okOperand x3 && okOperand x4 && okOperand x5 && okOperand x6) := by simp [Bool.and_assoc]
section
variable {P : Program}
theorem Gives.below {f : FuncId} {args : List D} {r : C} (h : Gives P f args r) (w : World) (S : Nat → Nat → Prop) (hS : ∀ b i, S b i → b < w.heap.size) (vs : Array Value)
  (hs : vs.size = args.length) (ha : ∀ (i : Nat) (d : D) (v : Value), args[i]? = some d → vs[i]? = some v → RdD w S d v) :
  Calls P f vs w fun e w' => ∃ v E', e = .returned v ∧ Below w.heap.size w w' ∧ E'.w = w' ∧ Rd E' r v := by
 let E0 : Env := { w := w, S := S, N := 0, β := fun _ => 0, τ := fun _ => (0, .tuple #[]), pv := fun _ => False }
 have hE0 : RepH E0 [] := ⟨rfl, fun r o ho => by simp at ho, fun r o b ho => by simp at ho, fun r o b ho => by simp at ho, fun r r' o o' b ho => by simp at ho, hS⟩
 refine (h E0 vs hE0 (by simpa using hs) (fun i c v hc hv => ?_)).mono ?_
 ·simp only [List.getElem?_map, Option.map_eq_some_iff] at hc
  obtain ⟨d, hd, rfl⟩ := hc
  exact .d _ _ (ha i d v hd hv)
 ·rintro e w' ⟨v, c, E', H', rfl, rfl, h3, h4, h5, h6, rfl⟩
  exact ⟨v, E', rfl, ⟨h4.os, h4.tape, h4.output, h4.size, fun k hk => h4.blk k hk (fun hp => hp)⟩, rfl, h5⟩
theorem Gives.bool {f : FuncId} {args : List D} {b : Bool} (h : Gives P f args (.d (.bool b))) (w : World) (vs : Array Value)
  (hs : vs.size = args.length) (ha : ∀ (i : Nat) (d : D) (v : Value), args[i]? = some d → vs[i]? = some v → RdD w (fun b _ => b < w.heap.size) d v) :
  Calls P f vs w fun e w' => e = .returned (.bool b) ∧ Below w.heap.size w w' := by
 refine (h.below w _ (fun _ _ h => h) vs hs ha).mono ?_
 rintro e w' ⟨v, E', rfl, h1, h2, h3⟩
 cases h3 with
 | d _ _ hd => cases hd; exact ⟨rfl, h1⟩
end
section
variable {P : Program} {H : Type} {enc : TypeId × Value → H}
theorem post_of_below {f : Func} {s : ChangeSpec} {apart fresh handsOn again : Bool} {W W' : World} {args : Array Value} {v : Value} {ds gs : List (DataW H)} {before pa pv : List MemPlace}
  (hW : DataW.Whole enc P f.params.toList s.vars apart W args.toList ds gs before)
  (hres : ∀ (b : Nat) (sp : Nat → Bool) (hd : Bool), DataW.TrodAll enc P W' b sp hd f.resultTypes.toList (v.resultList f.resultTypes.size) (s.fn H (ds ++ gs)).results [])
  (hargs : ∀ sp : Nat → Bool, (∀ p ∈ before, sp p.block = true) → DataW.TrodAll enc P W' 0 sp true f.params.toList args.toList (s.fn H (ds ++ gs)).args pa)
  (hvars : ∀ sp : Nat → Bool, (∀ p ∈ before, sp p.block = true) → DataW.TrodVars enc P W' sp s.vars (s.fn H (ds ++ gs)).vars pv)
  (hps : before = pa ++ pv) (hb : Below W.heap.size W W')
  (hok : ∀ (j : Nat) (t : TypeId) (r : Value), f.resultTypes[j]? = some t → (v.resultList f.resultTypes.size)[j]? = some r → Value.okWide P W' .any 0 t r) :
  s.post enc P f apart fresh handsOn again W args v W' := by
 have hold : ∀ p ∈ before, (fun b => decide (b < W.heap.size)) p.block = true := fun p hp => by simpa using hW.lt p hp
 have hlt : ∀ p ∈ before, p.block < W.heap.size := fun p hp => hW.lt p hp
 refine ⟨ds, gs, before, [], pa, pv, hW, hres _ _ _, hargs _ hold, hvars _ hold, World.keptBut_mono (fun p hp => ⟨hp, ?_⟩) (hb.frame (· ∈ before)), fun _ => ?_⟩
 ·rw [hps, List.mem_append] at hp
  exact Or.inr hp
 ·obtain ⟨_, _, _, _, _, hz, hn⟩ := hW
  refine ⟨hok, _, _, ([] ++ pa) ++ pv, ⟨[] ++ pa, pv, trodAll_append (hargs _ (fun _ _ => rfl)) (hres _ _ _), hvars _ (fun _ _ => rfl), rfl, ?_, ?_⟩, ?_⟩
  ·intro b off hp
   have hp' : MemPlace.cell b off ∈ before := by rw [hps]; simpa using hp
   rw [hb.frozen (p := ⟨b, off, none⟩) (hlt _ hp')]
   exact hz b off hp'
  ·intro ha
   have := hn ha
   rw [hps] at this
   simpa using this
  ·intro p hp _
   rw [hps]
   simpa using hp
end
end Go.Abs
