/- The plain-data layer, part 3: what an operation that leaves the world alone yields. -/
import Derived.Test.YtkmbaakiliafeaaAbs2
import Derived.Laws.Strings
import Derived.Laws.Slices
import Derived.Laws.StructEq
namespace Go.Abs

def D.cell : D → Bool
  | .agg _ => false
  | _ => true

def C.cell : C → Bool
  | .top | .agg _ | .tup _ => false
  | .d x => x.cell
  | _ => true

theorem RdD.oneCell {w : World} {S : Nat → Nat → Prop} {x : D} {v : Value} (hx : x.cell = true) (h : RdD w S x v) : v.oneCell' = true := by
  cases h <;> first | rfl | simp [D.cell] at hx

theorem Rd.oneCell {E : Env} {c : C} {v : Value} (hc : c.cell = true) (h : Rd E c v) : v.oneCell' = true := by
  cases h with
  | top => simp [C.cell] at hc
  | d x v hd => exact hd.oneCell (by simpa [C.cell] using hc)
  | own r q v hr h1 hq hv => exact h1
  | agg => simp [C.cell] at hc
  | tup => simp [C.cell] at hc
  | _ => rfl

/-- What 'field' takes of a struct value. -/
def vcPart (P : Program) (cs : List C) (o : Nat) (u : TypeId) (K : C → Prop) : Prop :=
  match tAgg P u, tSize P u with
  | some true, some n => o + n ≤ cs.length ∧ K (.agg ((cs.drop o).take n))
  | some false, some _ => o < cs.length ∧ K (cs.getD o .top)
  | _, _ => False

def vcPartD (P : Program) (cs : List D) (o : Nat) (u : TypeId) (K : C → Prop) : Prop :=
  match tAgg P u, tSize P u with
  | some true, some n => o + n ≤ cs.length ∧ K (.d (.agg ((cs.drop o).take n)))
  | some false, some _ => o < cs.length ∧ K (.d (cs.getD o (.bool false)))
  | _, _ => False

def vcLoad (P : Program) (s : St) (t : TypeId) (p : C) (K : C → Prop) : Prop :=
  match p with
  | .cptr cs =>
    match tAgg P t, tSize P t with
    | some true, some n => cs.length = n ∧ K (.d (.agg cs))
    | some false, some _ => cs.length = 1 ∧ K (.d (cs.getD 0 (.bool false)))
    | _, _ => False
  | .ptr r off =>
    match s.H[r]? with
    | some (.box cs) => vcPart P cs off t K
    | _ => False
  | .eptr r z i off =>
    match s.H[r]? with
    | some (.row z' _ xs) => z = z' ∧ i < xs.length ∧ vcPartD P (xs.getD i []) off t K
    | _ => False
  | _ => False

def vcFieldAddr (P : Program) (t : TypeId) (f : Nat) (p : C) (K : C → Prop) : Prop :=
  match tField P t f with
  | some (o, u) =>
    match tSize P u with
    | some n => n ≠ 0 ∧
      (match p with
      | .cptr cs => o + n ≤ cs.length ∧ K (.cptr ((cs.drop o).take n))
      | .ptr r off => K (.ptr r (off + o))
      | .eptr r z i off => K (.eptr r z i (off + o))
      | _ => False)
    | _ => False
  | _ => False

def vcField (P : Program) (s : St) (t : TypeId) (f : Nat) (x : C) (K : C → Prop) : Prop :=
  match tField P t f with
  | some (o, u) =>
    match norm s x with
    | .d (.agg cs) => vcPartD P cs o u K
    | .agg cs => vcPart P cs o u K
    | _ => False
  | _ => False

/-- What is at place i meets Q. -/
def idx {α : Type} (l : List α) (i : Nat) (Q : α → Prop) : Prop := ∀ x, l[i]? = some x → Q x

theorem idx_of {α : Type} {l : List α} {i : Nat} {x : α} (h : l[i]? = some x) (Q : α → Prop) : idx l i Q = Q x := by
  unfold idx; rw [h]; simp
theorem idx_map {α β : Type} (f : α → β) (l : List α) (i : Nat) (Q : β → Prop) : idx (l.map f) i Q = idx l i (fun x => Q (f x)) := by
  unfold idx
  apply propext
  constructor
  · intro h x hx; exact h (f x) (by simp [hx])
  · intro h x hx
    rw [List.getElem?_map, Option.map_eq_some_iff] at hx
    obtain ⟨y, hy, rfl⟩ := hx
    exact h y hy
theorem idx_zero {α : Type} (a : α) (l : List α) (Q : α → Prop) : idx (a :: l) 0 Q = Q a := idx_of (by simp) Q
theorem idx_succ {α : Type} (a : α) (l : List α) (i : Nat) (Q : α → Prop) : idx (a :: l) (i + 1) Q = idx l i Q := by
  unfold idx; simp
theorem idx_intro {α : Type} {l : List α} {i : Nat} {Q : α → Prop} (h : ∀ x, l[i]? = some x → Q x) : idx l i Q := h

/-- All elements are of the slice type's size. -/
def eltLen (P : Program) (t : TypeId) (l : List (List D)) : Prop :=
  match (tElem P t).bind (tSize P) with
  | some z => ∀ x, x ∈ l → x.length = z
  | none => False

theorem eltLen.out {P : Program} {t : TypeId} {l : List (List D)} (h : eltLen P t l) : ∃ e z, tElem P t = some e ∧ tSize P e = some z ∧ ∀ x, x ∈ l → x.length = z := by
  unfold eltLen at h
  cases he : tElem P t with
  | none => simp [he] at h
  | some e =>
    cases hz : tSize P e with
    | none => simp [he, hz] at h
    | some z => simp [he, hz] at h; exact ⟨e, z, rfl, hz, h⟩

def vcIndexAddr (P : Program) (s : St) (t : TypeId) (x i : C) (K : C → Prop) : Prop :=
  match i, tElem P t with
  | .d (.int _ m), some e =>
    match tSize P e with
    | some z =>
      (match norm1 s x with
      | .d (.sl xs) => 0 ≤ m ∧ m < xs.length ∧ idx xs m.toNat (fun x => x.length = z ∧ K (.cptr x))
      | .rsl r n => 0 ≤ m ∧ m < n ∧ K (.eptr r z m.toNat 0)
      | _ => False)
    | _ => False
  | _, _ => False

def vcBin (P : Program) (s : St) (op : BinOp) (t : TypeId) (x y : C) (K : C → Prop) : Prop :=
  match norm1 s x, norm1 s y with
  | .d (.int k a), .d (.int k' b) => k = k' ∧
    (match op with
    | .add => K (.d (.int k (k.wrap (a + b))))
    | .sub => K (.d (.int k (k.wrap (a - b))))
    | .mul => K (.d (.int k (k.wrap (a * b))))
    | .quo => b ≠ 0 ∧ K (.d (.int k (k.wrap (a.tdiv b))))
    | .rem => b ≠ 0 ∧ K (.d (.int k (a.tmod b)))
    | .eql => K (.d (.bool (a == b)))
    | .neq => K (.d (.bool (a != b)))
    | .lss => K (.d (.bool (decide (a < b))))
    | .leq => K (.d (.bool (decide (a ≤ b))))
    | .gtr => K (.d (.bool (decide (a > b))))
    | .geq => K (.d (.bool (decide (a ≥ b))))
    | _ => False)
  | .d (.str a), .d (.str b) =>
    (match op with
    | .add => a.length + b.length ≤ maxLen ∧ K (.d (.str (a ++ b)))
    | .eql => K (.d (.bool (a == b)))
    | .neq => K (.d (.bool (!(a == b))))
    | .lss => K (.d (.bool (Op.bytesLess a b)))
    | .leq => K (.d (.bool (Op.bytesLess a b || a == b)))
    | .gtr => K (.d (.bool (!(Op.bytesLess a b || a == b))))
    | .geq => K (.d (.bool (!Op.bytesLess a b)))
    | _ => False)
  | .d (.bool a), .d (.bool b) =>
    (match op with
    | .eql => P.underlying t = some .bool ∧ K (.d (.bool (a == b)))
    | .neq => P.underlying t = some .bool ∧ K (.d (.bool (!(a == b))))
    | _ => False)
  | _, _ => False

def vcSlice (P : Program) (s : St) (t : TypeId) (x : C) (lo hi : Option C) (K : C → Prop) : Prop :=
  match norm1 s x, lo, hi with
  | .d (.str l), some (.d (.int _ a)), some (.d (.int _ b)) => tIsStr P t = true ∧ 0 ≤ a ∧ a ≤ b ∧ b ≤ l.length ∧ K (.d (.str ((l.take b.toNat).drop a.toNat)))
  | .d (.str l), some (.d (.int _ a)), none => tIsStr P t = true ∧ 0 ≤ a ∧ a ≤ l.length ∧ K (.d (.str (l.drop a.toNat)))
  | .d (.str l), none, some (.d (.int _ b)) => tIsStr P t = true ∧ 0 ≤ b ∧ b ≤ l.length ∧ K (.d (.str (l.take b.toNat)))
  | .d (.sl l), some (.d (.int _ a)), some (.d (.int _ b)) => eltLen P t l ∧ 0 ≤ a ∧ a ≤ b ∧ b ≤ l.length ∧ K (.d (.sl ((l.take b.toNat).drop a.toNat)))
  | .d (.sl l), some (.d (.int _ a)), none => eltLen P t l ∧ 0 ≤ a ∧ a ≤ l.length ∧ K (.d (.sl (l.drop a.toNat)))
  | .d (.sl l), none, some (.d (.int _ b)) => eltLen P t l ∧ 0 ≤ b ∧ b ≤ l.length ∧ K (.d (.sl (l.take b.toNat)))
  | _, _, _ => False

def vcLen (P : Program) (s : St) (t : TypeId) (x : C) (K : C → Prop) : Prop :=
  match norm1 s x with
  | .d (.str l) => tIsStr P t = true ∧ K (.d (.int .i64 l.length))
  | .d (.sl l) => tIsSlice P t = true ∧ K (.d (.int .i64 l.length))
  | .rsl _ n => tIsSlice P t = true ∧ K (.d (.int .i64 n))
  | .map r => (match s.H[r]? with
    | some (.map _ es) => tIsMap P t = true ∧ K (.d (.int .i64 es.length))
    | _ => False)
  | _ => False

def cvD : Value → Option D
  | .int k n => some (.int k n)
  | .bool b => some (.bool b)
  | .string s => some (.str s.data.toList)
  | .slice none 0 0 => some (.sl [])
  | _ => none

def cvDs : List Value → Option (List D)
  | [] => some []
  | v :: r => match cvD v, cvDs r with
    | some d, some l => some (d :: l)
    | _, _ => none

def tZero (P : Program) (t : TypeId) : Option (List Value) := ((P.info? t).bind (·.zero)).bind fun v => if v.cells.all (·.oneCell') then some v.cells.toList else none

def keySort (P : Program) (k : TypeId) : Option Bool := match tInt P k with
  | some .i64 => some false
  | _ => if tIsStr P k then some true else none
/-- A map type's keys (strings or not), and its values' zero. -/
def tMap (P : Program) (t : TypeId) : Option (Bool × D) :=
  match P.underlying t with
  | some (.map k e) => (match keySort P k, ((P.info? e).bind (·.zero)).bind cvD with
    | some sk, some z => some (sk, z)
    | _, _ => none)
  | _ => none
def kEq : D → D → Bool
  | .int _ a, .int _ b => a == b
  | .str a, .str b => a == b
  | _, _ => false
def mget : List (D × D) → D → Option D
  | [], _ => none
  | p :: r, k => if kEq k p.1 then some p.2 else mget r k
def mset : List (D × D) → D → D → List (D × D)
  | [], k, v => [(k, v)]
  | p :: r, k, v => if kEq k p.1 then (p.1, v) :: r else p :: mset r k v

def vcLookup (P : Program) (s : St) (t : TypeId) (x i : C) (ok : Bool) (K : C → Prop) : Prop :=
  match x, i with
  | .map r, .d k =>
    (match s.H[r]?, tMap P t with
    | some (.map sk es), some (sk', zd) => sk = sk' ∧ keyOk sk k = true ∧
      (match ok with
      | true => K (.tup [.d ((mget es k).getD zd), .d (.bool (mget es k).isSome)])
      | false => K (.d ((mget es k).getD zd)))
    | _, _ => False)
  | _, _ => False

def vcEntry (s : St) (x : C) (K : C → Prop) : Prop :=
  match x with
  | .ptr r 0 =>
    (match s.H[r]? with
    | some (.iter m _ c0 seen) =>
      (match s.H[m]?, seen.getLast? with
      | some (.map _ es), some i => c0 = es.length ∧ idx es i (fun p => K (.tup [.d p.1, .d p.2])) ∧ i < es.length
      | _, _ => False)
    | _ => False)
  | _ => False

/-- A struct's zero value, cell by cell, and its fields' places and sizes. -/
def tBuild (P : Program) (t : TypeId) : Option (List Value × List (Nat × Nat)) :=
  match P.info? t, P.underlying t with
  | some it, some (.struct fields) =>
    match it.zero, fields.toList.mapM (fun f => (P.info? f.type).map fun i => (f.offset, i.size)) with
    | some z, some places => if z.cells.all (·.oneCell') then some (z.cells.toList, places) else none
    | _, _ => none
  | _, _ => none

/-- The value has its cells at hand. -/
def okCells : C → Bool
  | .d (.agg _) | .agg _ => true
  | c => c.cell

def fillA (places : List (Nat × Nat)) (s : St) (K : List C → Prop) : List (Nat × Operand) → List C → Prop
  | [], cs => K cs
  | (i, x) :: r, cs =>
    match places[i]? with
    | some (o, n) => okOperand x = true ∧ okCells (ev s x) = true ∧ (cellsOf (ev s x)).length = n ∧ o + n ≤ cs.length ∧
        fillA places s K r (cs.take o ++ cellsOf (ev s x) ++ cs.drop (o + n))
    | none => False

def kAgg (K : C → Prop) : List C → Prop := fun cs => K (.agg cs)

/-- An operation that leaves the world alone: what it yields goes to K. -/
def vcPure (P : Program) (s : St) (op : Op) (K : C → Prop) : Prop :=
  match op with
  | .move x | .assign x => okOperand x = true ∧ K (ev s x)
  | .pick c x y => okOperand c = true ∧ okOperand x = true ∧ okOperand y = true ∧ (match ev s c with | .d (.bool b) => K (if b then ev s x else ev s y) | _ => False)
  | .load t p => okOperand p = true ∧ vcLoad P s t (ev s p) K
  | .nilCheck x => okOperand x = true ∧ (match ev s x with | .cptr cs => K (.cptr cs) | .ptr r o => K (.ptr r o) | .eptr r z i o => K (.eptr r z i o) | .fn f cs => K (.fn f cs) | _ => False)
  | .fieldAddr t x f => okOperand x = true ∧ vcFieldAddr P t f (ev s x) K
  | .field t x f => okOperand x = true ∧ vcField P s t f (ev s x) K
  | .indexAddr t x i => okOperand x = true ∧ okOperand i = true ∧ vcIndexAddr P s t (ev s x) (ev s i) K
  | .index t x i => okOperand x = true ∧ okOperand i = true ∧ (match ev s x, ev s i with
    | .d (.str l), .d (.int _ m) => tIsStr P t = true ∧ 0 ≤ m ∧ m < l.length ∧ K (.d (.int .u8 (l.getD m.toNat 0).toNat))
    | _, _ => False)
  | .binOp op t x y _ => okOperand x = true ∧ okOperand y = true ∧ vcBin P s op t (ev s x) (ev s y) K
  | .unOp op _ x => okOperand x = true ∧ (match op, ev s x with
    | .not, .d (.bool b) => K (.d (.bool (!b)))
    | .neg, .d (.int k n) => K (.d (.int k (k.wrap (0 - n))))
    | _, _ => False)
  | .slice t x lo hi none => okOperand x = true ∧ (lo.all okOperand) = true ∧ (hi.all okOperand) = true ∧ vcSlice P s t (ev s x) (lo.map (ev s)) (hi.map (ev s)) K
  | .lookup t x i ok => okOperand x = true ∧ okOperand i = true ∧ vcLookup P s t (ev s x) (norm1 s (ev s i)) ok K
  | .entry x => okOperand x = true ∧ vcEntry s (ev s x) K
  | .extract x i => okOperand x = true ∧ (match ev s x with | .tup cs => i < cs.length ∧ K (cs.getD i .top) | _ => False)
  | .makeFunc (.func f) first cap => first = #[] ∧ (cap.all okOperand) = true ∧ K (.fn f (cap.toList.map (ev s)))
  | .convert src dst x => okOperand x = true ∧ (match norm1 s (ev s x) with
    | .d (.int _ n) => (match tInt P dst with | some k => (P.underlying src).isSome = true ∧ K (.d (.int k (k.wrap n))) | none => False)
    | .d (.sl xs) => (match bytesOf xs with | some l => tIsBytes P src = true ∧ tIsStr P dst = true ∧ K (.d (.str (l.map fun n => UInt8.ofNat n.toNat))) | none => False)
    | _ => False)
  | .build t ps => (match tBuild P t with
    | some (z, places) => fillA places s (kAgg K) ps.toList (z.map cv1)
    | none => False)
  | .call c =>
    (match c.callee with
    | .builtin .len => (match c.args.toList, c.argTypes.toList with | [x], [t] => okOperand x = true ∧ vcLen P s t (ev s x) K | _, _ => False)
    | .builtin .max => (match c.args.toList with | [x, y] => okOperand x = true ∧ okOperand y = true ∧ (match ev s x, ev s y with | .d (.int k a), .d (.int k' b) => k = k' ∧ K (.d (.int k (if a < b then b else a))) | _, _ => False) | _ => False)
    | .builtin .min => (match c.args.toList with | [x, y] => okOperand x = true ∧ okOperand y = true ∧ (match ev s x, ev s y with | .d (.int k a), .d (.int k' b) => k = k' ∧ K (.d (.int k (if b < a then b else a))) | _, _ => False) | _ => False)
    | _ => False)
  | _ => False

def Yields (P : Program) (E : Env) (a : Act) (o : Oper) (c : C) : Prop := ∃ v, (execOp a.eval o).run P E.w = .ok (.value v) E.w ∧ Rd E c v

end Go.Abs
