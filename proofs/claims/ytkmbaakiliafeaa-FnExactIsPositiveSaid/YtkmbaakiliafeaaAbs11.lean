/- The plain-data layer, part 11: operations that turn objects, make memory, or call. -/
import Derived.Test.YtkmbaakiliafeaaAbsB
namespace Go.Abs

/-- A call on abstract arguments over the objects H: it returns, and R holds of what it returns and of the objects then. -/
def ACalls (P : Program) (f : FuncId) (args : List C) (H : List O) (R : C → List O → Prop) : Prop :=
  ∀ (E : Env) (vs : Array Value), RepH E H → vs.size = args.length → (∀ (i : Nat) (c : C) (v : Value), args[i]? = some c → vs[i]? = some v → Rd E c v) →
    Calls P f vs E.w fun e w' => ∃ v r E' H', e = .returned v ∧ E'.w = w' ∧ RepH E' H' ∧ Le E E' ∧ Rd E' r v ∧ H'.length = H.length ∧ R r H'

theorem ACalls.mono {P : Program} {f : FuncId} {args : List C} {H : List O} {R R' : C → List O → Prop} (h : ACalls P f args H R) (hr : ∀ r H', R r H' → R' r H') : ACalls P f args H R' :=
  fun E vs hH hs ha => (h E vs hH hs ha).mono fun _ _ ⟨v, r, E', H', h1, h2, h3, h4, h5, h6, h7⟩ => ⟨v, r, E', H', h1, h2, h3, h4, h5, h6, hr _ _ h7⟩

/-- A function with a Go body. -/
def isGo (P : Program) (f : FuncId) : Bool := match P.funcs[f]? with
  | some fn => fn.body.isSome && !(fn.name == "runtime.NumGoroutine")
  | none => false

def dataCells (s : St) : C → Option (List D)
  | .d (.agg ds) => some ds
  | c => toDs ((cellsOf c).map (norm1 s))

def kCons (K : List (List D) → Prop) (ds : List D) : List (List D) → Prop := fun l => K (ds :: l)
def kSl (K : C → List O → Prop) (n : Nat) (H : List O) : List (List D) → Prop := fun l => K (if n = 0 then .nil0 else .d (.sl l)) H
def kAt (K : C → List O → Prop) (H : List O) : C → Prop := fun c => K c H

/-- The elements of a slice literal, each given, in order. -/
def vcElems (s : St) (z : Nat) (K : List (List D) → Prop) : List (Nat × Operand) → Nat → Prop
  | [], _ => K []
  | (i, x) :: r, k => i = k ∧ okOperand x = true ∧ okCells (ev s x) = true ∧
    (match dataCells s (ev s x) with
    | some ds => ds.length = z ∧ vcElems s z (kCons K ds) r (k + 1)
    | none => False)

def vcStore (P : Program) (s : St) (t : TypeId) (p x : C) (K : List O → Prop) : Prop :=
  match tSize P t with
  | some n => okCells x = true ∧ (cellsOf x).length = n ∧
    (match p with
    | .ptr r off =>
      match s.H[r]? with
      | some (.box cs) => off + n ≤ cs.length ∧ K (s.H.set r (.box (cs.take off ++ cellsOf x ++ cs.drop (off + n))))
      | _ => False
    | .eptr r z i off =>
      match s.H[r]?, dataCells s x with
      | some (.row z' e xs), some ds => z = z' ∧ i < xs.length ∧ off + n ≤ z ∧ ds.length = n ∧
          K (s.H.set r (.row z e (xs.set i ((xs.getD i []).take off ++ ds ++ (xs.getD i []).drop (off + n)))))
      | _, _ => False
    | _ => False)
  | none => False

def vcAppend (P : Program) (s : St) (t u : TypeId) (x y : C) (K : C → List O → Prop) : Prop :=
  match tSlice P t with
  | some (e, z, by_) =>
    (match norm1 s y with
    | .d (.sl ys) => (P.underlying u).isSome = true ∧ tIsSlice P u = true ∧ (∀ y', y' ∈ ys → y'.length = z) ∧
      (match x with
      | .nil0 => ys.length ≤ maxLen ∧ ys.length * by_ ≤ 140737488355328 ∧ K (.own s.H.length 1) (s.H ++ [.grow 1 z e ys])
      | .own r q =>
        (match s.H[r]? with
        | some (.grow q' z' e' xs) => q = q' ∧ z = z' ∧ e = e' ∧ xs.length + ys.length ≤ maxLen ∧ (xs.length + ys.length) * by_ ≤ 140737488355328 ∧
            K (.own r (q + 1)) (s.H.set r (.grow (q + 1) z e (xs ++ ys)))
        | some (.buf q' z' e' xs) => q = q' ∧ z = z' ∧ e = e' ∧ xs.length + ys.length ≤ maxLen ∧ (xs.length + ys.length) * by_ ≤ 140737488355328 ∧
            K (.own r (q + 1)) (s.H.set r (.buf (q + 1) z e (xs ++ ys)))
        | _ => False)
      | _ => False)
    | .d (.str l) => tIsStr P u = true ∧ z = 1 ∧
      (match x with
      | .nil0 => l.length ≤ maxLen ∧ l.length * by_ ≤ 140737488355328 ∧ K (.own s.H.length 1) (s.H ++ [.grow 1 z e (l.map fun b => [.int .u8 b.toNat])])
      | .own r q =>
        (match s.H[r]? with
        | some (.grow q' z' e' xs) => q = q' ∧ z = z' ∧ e = e' ∧ xs.length + l.length ≤ maxLen ∧ (xs.length + l.length) * by_ ≤ 140737488355328 ∧
            K (.own r (q + 1)) (s.H.set r (.grow (q + 1) z e (xs ++ l.map fun b => [.int .u8 b.toNat])))
        | some (.buf q' z' e' xs) => q = q' ∧ z = z' ∧ e = e' ∧ xs.length + l.length ≤ maxLen ∧ (xs.length + l.length) * by_ ≤ 140737488355328 ∧
            K (.own r (q + 1)) (s.H.set r (.buf (q + 1) z e (xs ++ l.map fun b => [.int .u8 b.toNat])))
        | _ => False)
      | _ => False)
    | _ => False)
  | none => False

def vcMake (P : Program) (s : St) (t : TypeId) (x : C) (K : C → List O → Prop) : Prop :=
  match tSlice P t, x with
  | some (e, z, by_), .d (.int .i64 m) =>
    (match (tZero P e).bind cvDs with
    | some zs => zs.length = z ∧ 0 ≤ m ∧ m ≤ maxLen ∧ m * by_ ≤ 281474976710656 ∧ K (.rsl s.H.length m.toNat) (s.H ++ [.row z e (List.replicate m.toNat zs)])
    | none => False)
  | _, _ => False

def vcInsert (P : Program) (s : St) (t : TypeId) (m k v : C) (K : List O → Prop) : Prop :=
  match m, k, v with
  | .map r, .d kd, .d vd =>
    (match s.H[r]?, tMap P t with
    | some (.map sk es), some (sk', _) => sk = sk' ∧ keyOk sk kd = true ∧ vd.cell = true ∧ K (s.H.set r (.map sk (mset es kd vd)))
    | _, _ => False)
  | _, _, _ => False

def vcRange (s : St) (x : C) (K : C → List O → Prop) : Prop :=
  match x with
  | .map r =>
    (match s.H[r]? with
    | some (.map _ es) => K (.ptr s.H.length 0) (s.H ++ [.iter r es.length es.length []])
    | _ => False)
  | _ => False

/-- Whichever entry that is left, or the end. -/
def anyNext (es : List (D × D)) (seen : List Nat) (e : Unit → Prop) (g : Nat → D × D → Prop) : Prop :=
  ((∀ i, i < es.length → i ∈ seen) → e ()) ∧ ∀ i p, es[i]? = some p → i ∉ seen → g i p
theorem anyNext_intro {es : List (D × D)} {seen : List Nat} {e : Unit → Prop} {g : Nat → D × D → Prop} (h : (∀ i, i < es.length → i ∈ seen) → e ()) (k : ∀ i p, es[i]? = some p → i ∉ seen → g i p) : anyNext es seen e g := ⟨h, k⟩

def vcNext (s : St) (x : C) (K : C → List O → Prop) : Prop :=
  match x with
  | .ptr r 0 =>
    (match s.H[r]? with
    | some (.iter m since c0 seen) =>
      (match s.H[m]? with
      | some (.map _ es) => since = es.length ∧ c0 = es.length ∧ anyNext es seen (fun _ => K (.tup [.d (.bool false)]) s.H)
          (fun i p => K (.tup [.d (.bool true), .d p.1, .d p.2]) (s.H.set r (.iter m since es.length (seen ++ [i]))))
      | _ => False)
    | _ => False)
  | _ => False

/-- One operation: what it yields, and the objects behind it, go to K. -/
def vcEff (P : Program) (s : St) (o : Oper) (K : C → List O → Prop) : Prop :=
  match o.op with
  | .box _ x => okOperand x = true ∧ okCells (ev s x) = true ∧ K (.ptr s.H.length 0) (s.H ++ [.box (cellsOf (ev s x))])
  | .alloc e => (match tZero P e with | some z => K (.ptr s.H.length 0) (s.H ++ [.box (z.map cv1)]) | none => False)
  | .store t p x => okOperand p = true ∧ okOperand x = true ∧ vcStore P s t (ev s p) (ev s x) (K .top)
  | .buildSlice t n ps => (match tSlice P t with
    | some (_, z, _) => n * z ≤ 16777216 ∧ ps.size = n ∧ vcElems s z (kSl K n s.H) ps.toList 0
    | none => False)
  | .makeSlice t x y => x = y ∧ okOperand x = true ∧ vcMake P s t (ev s x) K
  | .makeMap t none => (match tMap P t with | some (sk, _) => K (.map s.H.length) (s.H ++ [.map sk []]) | none => False)
  | .insert t m k v => okOperand m = true ∧ okOperand k = true ∧ okOperand v = true ∧ vcInsert P s t (ev s m) (norm1 s (ev s k)) (norm1 s (ev s v)) (K .top)
  | .mapUpdate t m k v => okOperand m = true ∧ okOperand k = true ∧ okOperand v = true ∧ vcInsert P s t (ev s m) (norm1 s (ev s k)) (norm1 s (ev s v)) (K .top)
  | .range t x => okOperand x = true ∧ tIsMap P t = true ∧ vcRange s (ev s x) K
  | .next x false => okOperand x = true ∧ vcNext s (ev s x) K
  | .call c =>
    (match c.callee with
    | .builtin .append => (match c.args.toList, c.argTypes.toList with
      | [x, y], [t, u] => okOperand x = true ∧ okOperand y = true ∧ vcAppend P s t u (ev s x) (ev s y) K
      | _, _ => False)
    | .value f => okOperand f = true ∧ (c.args.all okOperand) = true ∧ (match ev s f with
      | .fn g caps => isGo P g = true ∧ ACalls P g (c.args.toList.map (fun x => norm s (ev s x)) ++ caps) s.H K
      | _ => False)
    | _ => vcPure P s o.op (kAt K s.H))
  | _ => vcPure P s o.op (kAt K s.H)

/-- An operation met by 'vcEff' runs so. -/
def EffOk (P : Program) (s : St) (o : Oper) (K : C → List O → Prop) : Prop :=
  ∀ E n a, RepSt E n s a → o.wp P a E.w (fun a' w' => ∃ v E' c H', a' = a.put o.dst v ∧ E'.w = w' ∧ Rd E' c v ∧ RepH E' H' ∧ Le E E' ∧ K c H') (fun _ _ _ => False)

section
variable {P : Program}

theorem effOk_of_pure {s : St} {o : Oper} {K : C → List O → Prop} (h : vcPure P s o.op (kAt K s.H)) : EffOk P s o K := by
  obtain ⟨c, hk, hall⟩ := vcPure_sound h
  intro E n a hst
  obtain ⟨v, h1, h2⟩ := hall E n a hst
  unfold Oper.wp
  rw [h1]
  exact ⟨v, E, c, s.H, rfl, rfl, h2, hst.heap, Le.refl E, hk⟩

theorem effOk_box {s : St} {o : Oper} {K : C → List O → Prop} {t : TypeId} {x : Operand} (ho : o.op = .box t x) (hx : okOperand x = true) (hc : okCells (ev s x) = true)
    (hk : K (.ptr s.H.length 0) (s.H ++ [.box (cellsOf (ev s x))])) : EffOk P s o K := by
  intro E n a hst
  have hf := cellsOf_rd (rd_ev hst x hx) hc
  unfold Oper.wp execOp
  simp only [ho, Instr.box, newVar, newRow, Sem.run_bind, run_newObj, Result.andThen_ok, Sem.run_pure, Oper.upon]
  refine ⟨_, E.newObj (.cells (a.eval x).cells t), _, _, rfl, rfl, ?_, rep_newBox hst.heap hf, le_newObj hst.heap _, hk⟩
  have e1 : (⟨E.w.heap.size, 0, none⟩ : Addr) = ⟨(E.newObj (.cells (a.eval x).cells t)).β s.H.length, 0, none⟩ := by
    simp [Env.newObj, hst.heap.N]
  rw [e1]
  exact .ptr _ _ (by simp [Env.newObj, hst.heap.N])

theorem effOk_alloc {s : St} {o : Oper} {K : C → List O → Prop} {t : TypeId} (ho : o.op = .alloc t)
    (h : match tZero P t with | some z => K (.ptr s.H.length 0) (s.H ++ [.box (z.map cv1)]) | none => False) : EffOk P s o K := by
  intro E n a hst
  split at h
  · rename_i z hz
    unfold tZero at hz
    cases hi : P.info? t with
    | none => simp [hi] at hz
    | some i =>
      cases hv : i.zero with
      | none => simp [hi, hv] at hz
      | some zv =>
        simp only [hi, hv, Option.bind_some] at hz
        split at hz
        · rename_i hone
          simp only [Option.some.injEq] at hz
          subst hz
          have hf : Fits E (zv.cells.toList.map cv1) zv.cells := by
            refine ⟨by simp, fun i c v hc hv => ?_⟩
            simp only [List.getElem?_map, Array.getElem?_toList, hv, Option.map_some, Option.some.injEq] at hc
            subst hc
            refine ⟨rd_cv1 E v, ?_⟩
            obtain ⟨hlt, rfl⟩ := Array.getElem?_eq_some_iff.1 hv
            simp only [Array.all_eq_true] at hone
            exact hone i hlt
          unfold Oper.wp execOp
          simp only [ho, Instr.alloc, zeroValue, typeInfo, run_program, hi, hv, newVar, newRow, Sem.run_bind, run_newObj, Result.andThen_ok, Sem.run_pure, Oper.upon]
          refine ⟨_, E.newObj (.cells zv.cells t), _, _, rfl, rfl, ?_, rep_newBox hst.heap hf, le_newObj hst.heap _, h⟩
          have e1 : (⟨E.w.heap.size, 0, none⟩ : Addr) = ⟨(E.newObj (.cells zv.cells t)).β s.H.length, 0, none⟩ := by
            simp [Env.newObj, hst.heap.N]
          rw [e1]
          exact .ptr _ _ (by simp [Env.newObj, hst.heap.N])
        · simp at hz
  · exact h.elim

end
end Go.Abs
