/- The plain-data layer, part 1: data, slot values, what they mean in a world, and how a world may grow. -/
import Derived.Orders
import Derived.Laws.AppendOwn
import Derived.Below
namespace Go.Abs

/-- Plain data: what a value reads as, slices by their contents. A list of cells stands for one variable. -/
inductive D where
  | int (k : IntKind) (n : Int)
  | bool (b : Bool)
  | str (s : List UInt8)
  | sl (xs : List (List D))
  | agg (cs : List D)

inductive RdD (w : World) (S : Nat → Nat → Prop) : D → Value → Prop
  | int (k : IntKind) (n : Int) : RdD w S (.int k n) (.int k n)
  | bool (b : Bool) : RdD w S (.bool b) (.bool b)
  | str (s : List UInt8) : RdD w S (.str s) (.string ⟨s.toArray⟩)
  | nil (a : Option Addr) (cap : Nat) : RdD w S (.sl []) (.slice a 0 cap)
  | sl (b off cap z : Nat) (xs : List (List D)) (val : Nat → Nat → Value)
      (hne : xs ≠ []) (hcap : xs.length ≤ cap) (hmax : cap ≤ maxLen)
      (hz : ∀ x, x ∈ xs → x.length = z)
      (hc : ∀ i j, i < xs.length → j < z → S b (off + i * z + j) ∧ w.cell? ⟨b, off + i * z + j, none⟩ = some (val i j) ∧ (val i j).oneCell' = true)
      (hr : ∀ i j x c, xs[i]? = some x → x[j]? = some c → RdD w S c (val i j)) :
      RdD w S (.sl xs) (.slice (some ⟨b, off, none⟩) xs.length cap)
  | agg (cs : List D) (vs : Array Value) (hl : vs.size = cs.length)
      (h1 : ∀ (i : Nat) (v : Value), vs[i]? = some v → v.oneCell' = true)
      (hr : ∀ (i : Nat) c (v : Value), cs[i]? = some c → vs[i]? = some v → RdD w S c v) : RdD w S (.agg cs) (.agg vs)

/-- What a slot holds: data, or a reference. 'own r q': an own slice (object r) as of its version q; 'rsl r n': a row made by make; 'cptr': a pointer to cells that nobody writes. -/
inductive C where
  | top
  | d (x : D)
  | nil0
  | cptr (cs : List D)
  | ptr (r off : Nat)
  | nilp
  | own (r q : Nat)
  | rsl (r n : Nat)
  | eptr (r z i off : Nat)
  | map (r : Nat)
  | fn (f : Nat) (caps : List C)
  | agg (cs : List C)
  | tup (cs : List C)

/-- The objects that a call may write: variables, slices that it appends to, rows that it made, maps. -/
inductive O where
  | box (cs : List C)
  | grow (q z e : Nat) (xs : List (List D))
  | row (z e : Nat) (xs : List (List D))
  | map (sk : Bool) (es : List (D × D))
  | iter (m since c0 : Nat) (seen : List Nat)
  | buf (q z e : Nat) (xs : List (List D))
  | dead

structure Env where
  w : World
  S : Nat → Nat → Prop
  N : Nat
  β : Nat → Nat
  τ : Nat → Nat × Value
  pv : Nat → Prop

inductive Rd (E : Env) : C → Value → Prop
  | top (v : Value) : Rd E .top v
  | d (x : D) (v : Value) (h : RdD E.w E.S x v) : Rd E (.d x) v
  | nil0 (a : Option Addr) : Rd E .nil0 (.slice a 0 0)
  | cptr (b off : Nat) (cs : List D) (val : Nat → Value)
      (hc : ∀ j, j < cs.length → E.S b (off + j) ∧ E.w.cell? ⟨b, off + j, none⟩ = some (val j) ∧ (val j).oneCell' = true)
      (hr : ∀ j c, cs[j]? = some c → RdD E.w E.S c (val j)) : Rd E (.cptr cs) (.pointer (some ⟨b, off, none⟩))
  | ptr (r off : Nat) (h : r < E.N) : Rd E (.ptr r off) (.pointer (some ⟨E.β r, off, none⟩))
  | nilp : Rd E .nilp (.pointer none)
  | own (r q : Nat) (v : Value) (h : r < E.N) (h1 : v.oneCell' = true) (hq : q ≤ (E.τ r).1) (hv : q = (E.τ r).1 → v = (E.τ r).2) : Rd E (.own r q) v
  | rsl (r n : Nat) (h : r < E.N) : Rd E (.rsl r n) (.slice (some ⟨E.β r, 0, none⟩) n n)
  | eptr (r z i off : Nat) (h : r < E.N) : Rd E (.eptr r z i off) (.pointer (some ⟨E.β r, i * z + off, none⟩))
  | map (r : Nat) (h : r < E.N) : Rd E (.map r) (.map (some (E.β r)))
  | fn (f : Nat) (caps : List C) (vs : Array Value) (hl : vs.size = caps.length)
      (hr : ∀ (i : Nat) c (v : Value), caps[i]? = some c → vs[i]? = some v → Rd E c v) : Rd E (.fn f caps) (.func (.func f) #[] vs)
  | agg (cs : List C) (vs : Array Value) (hl : vs.size = cs.length)
      (h1 : ∀ (i : Nat) (v : Value), vs[i]? = some v → v.oneCell' = true)
      (hr : ∀ (i : Nat) c (v : Value), cs[i]? = some c → vs[i]? = some v → Rd E c v) : Rd E (.agg cs) (.agg vs)
  | tup (cs : List C) (vs : Array Value) (hl : vs.size = cs.length)
      (hr : ∀ (i : Nat) c (v : Value), cs[i]? = some c → vs[i]? = some v → Rd E c v) : Rd E (.tup cs) (.tuple vs)

/-- How memory may go on: what is readable stays as it is; of the blocks that were there only the private ones turn. -/
structure Le (E E' : Env) : Prop where
  os : E'.w.os = E.w.os
  tape : E'.w.tape = E.w.tape
  output : E'.w.output = E.w.output
  size : E.w.heap.size ≤ E'.w.heap.size
  N : E.N ≤ E'.N
  β : ∀ r, r < E.N → E'.β r = E.β r
  τ : ∀ r, r < E.N → (E.τ r).1 ≤ (E'.τ r).1 ∧ ((E.τ r).1 = (E'.τ r).1 → E'.τ r = E.τ r)
  S : ∀ b i, E.S b i → E'.S b i
  cell : ∀ b i, E.S b i → E'.w.cell? ⟨b, i, none⟩ = E.w.cell? ⟨b, i, none⟩
  blk : ∀ b, b < E.w.heap.size → ¬ E.pv b → E'.w.heap[b]? = E.w.heap[b]?
  newS : ∀ b i, E'.S b i → E.S b i ∨ E.w.heap.size ≤ b ∨ E.pv b
  newP : ∀ b, E'.pv b → E.pv b ∨ E.w.heap.size ≤ b

theorem Le.refl (E : Env) : Le E E :=
  ⟨rfl, rfl, rfl, Nat.le_refl _, Nat.le_refl _, fun _ _ => rfl, fun _ _ => ⟨Nat.le_refl _, fun _ => rfl⟩, fun _ _ h => h, fun _ _ _ => rfl, fun _ _ _ => rfl, fun _ _ h => .inl h, fun _ h => .inl h⟩

theorem Le.trans {E₁ E₂ E₃ : Env} (h : Le E₁ E₂) (k : Le E₂ E₃) : Le E₁ E₃ where
  os := k.os.trans h.os
  tape := k.tape.trans h.tape
  output := k.output.trans h.output
  size := Nat.le_trans h.size k.size
  N := Nat.le_trans h.N k.N
  β r hr := (k.β r (Nat.lt_of_lt_of_le hr h.N)).trans (h.β r hr)
  τ r hr := by
    obtain ⟨a1, a2⟩ := h.τ r hr
    obtain ⟨b1, b2⟩ := k.τ r (Nat.lt_of_lt_of_le hr h.N)
    refine ⟨Nat.le_trans a1 b1, fun e => ?_⟩
    have e1 : (E₁.τ r).1 = (E₂.τ r).1 := by omega
    have e2 : (E₂.τ r).1 = (E₃.τ r).1 := by omega
    rw [b2 e2, a2 e1]
  S b i hs := k.S b i (h.S b i hs)
  cell b i hs := (k.cell b i (h.S b i hs)).trans (h.cell b i hs)
  blk b hb hp := (k.blk b (Nat.lt_of_lt_of_le hb h.size) (fun hp' => by rcases h.newP b hp' with h1 | h1; exact hp h1; omega)).trans (h.blk b hb hp)
  newS b i hs := by
    rcases k.newS b i hs with h1 | h1 | h1
    · exact h.newS b i h1
    · exact .inr (.inl (Nat.le_trans h.size h1))
    · rcases h.newP b h1 with h2 | h2
      · exact .inr (.inr h2)
      · exact .inr (.inl h2)
  newP b hp := by
    rcases k.newP b hp with h1 | h1
    · exact h.newP b h1
    · exact .inr (Nat.le_trans h.size h1)

theorem RdD.mono {w w' : World} {S S' : Nat → Nat → Prop} (hS : ∀ b i, S b i → S' b i)
    (hc : ∀ b i, S b i → w'.cell? ⟨b, i, none⟩ = w.cell? ⟨b, i, none⟩) {x : D} {v : Value} (h : RdD w S x v) : RdD w' S' x v := by
  induction h with
  | int k n => exact .int k n
  | bool b => exact .bool b
  | str s => exact .str s
  | nil a cap => exact .nil a cap
  | sl b off cap z xs val hne hcap hmax hz hcc hr ih =>
    exact .sl b off cap z xs val hne hcap hmax hz (fun i j hi hj => by
      obtain ⟨h1, h2, h3⟩ := hcc i j hi hj
      exact ⟨hS _ _ h1, (hc _ _ h1).trans h2, h3⟩) ih
  | agg cs vs hl h1 hr ih => exact .agg cs vs hl h1 ih

theorem RdD.le {E E' : Env} (h : Le E E') {x : D} {v : Value} (hr : RdD E.w E.S x v) : RdD E'.w E'.S x v := hr.mono h.S h.cell

theorem Rd.le {E E' : Env} (h : Le E E') {c : C} {v : Value} (hr : Rd E c v) : Rd E' c v := by
  induction hr with
  | top v => exact .top v
  | d x v hd => exact .d x v (hd.le h)
  | nil0 a => exact .nil0 a
  | cptr b off cs val hc hr =>
    exact .cptr b off cs val (fun j hj => by obtain ⟨h1, h2, h3⟩ := hc j hj; exact ⟨h.S _ _ h1, (h.cell _ _ h1).trans h2, h3⟩) (fun j c hj => (hr j c hj).le h)
  | ptr r off hr => rw [← h.β r hr]; exact .ptr r off (Nat.lt_of_lt_of_le hr h.N)
  | nilp => exact .nilp
  | own r q v hr h1 hq hv =>
    obtain ⟨h2, h3⟩ := h.τ r hr
    refine .own r q v (Nat.lt_of_lt_of_le hr h.N) h1 (Nat.le_trans hq h2) (fun e => ?_)
    have : (E.τ r).1 = (E'.τ r).1 := by omega
    rw [h3 this]; exact hv (by omega)
  | rsl r n hr => rw [← h.β r hr]; exact .rsl r n (Nat.lt_of_lt_of_le hr h.N)
  | eptr r z i off hr => rw [← h.β r hr]; exact .eptr r z i off (Nat.lt_of_lt_of_le hr h.N)
  | map r hr => rw [← h.β r hr]; exact .map r (Nat.lt_of_lt_of_le hr h.N)
  | fn f caps vs hl hr ih => exact .fn f caps vs hl ih
  | agg cs vs hl h1 hr ih => exact .agg cs vs hl h1 ih
  | tup cs vs hl hr ih => exact .tup cs vs hl ih

/-- The block of a slice that has room or elements. -/
def ownB : Value → Option Nat
  | .slice (some a) _ cap => if cap = 0 then none else some a.block
  | _ => none

/-- The block that an object lies in. -/
def O.block (E : Env) (r : Nat) : O → Option Nat
  | .box _ | .row .. | .map .. | .iter .. => some (E.β r)
  | .grow .. | .buf .. => ownB (E.τ r).2
  | .dead => none

/-- Keys of a map: strings, or integers. -/
def keyOk : Bool → D → Bool
  | true, .str _ => true
  | false, .int .i64 _ => true
  | _, _ => false

def RepO (E : Env) (r : Nat) : O → Prop
  | .box cs => ∃ (arr : Array Value) (e : TypeId), E.w.heap[E.β r]? = some (.cells arr e (0, 0)) ∧ arr.size = cs.length ∧
      (∀ (i : Nat) (c : C) (v : Value), cs[i]? = some c → arr[i]? = some v → Rd E c v ∧ v.oneCell' = true) ∧ (∀ i, ¬ E.S (E.β r) i)
  | .grow q z e xs => (E.τ r).1 = q ∧ (∀ x, x ∈ xs → x.length = z) ∧ 0 < z ∧
      ((∃ a, (E.τ r).2 = .slice a 0 0 ∧ xs = []) ∨
       ∃ (b cap : Nat) (arr : Array Value), (E.τ r).2 = .slice (some ⟨b, 0, none⟩) xs.length cap ∧ E.w.heap[b]? = some (.cells arr e (0, 0)) ∧
         0 < cap ∧ xs.length ≤ cap ∧ cap ≤ maxLen ∧ arr.size = cap * z ∧
         (∀ (i j : Nat) (x : List D) (c : D), xs[i]? = some x → x[j]? = some c → E.S b (i * z + j) ∧ ∃ (v : Value), arr[i * z + j]? = some v ∧ v.oneCell' = true ∧ RdD E.w E.S c v) ∧
         (∀ i, xs.length * z ≤ i → ¬ E.S b i))
  | .row z e xs => ∃ (arr : Array Value), E.w.heap[E.β r]? = some (.cells arr e (0, 0)) ∧ arr.size = xs.length * z ∧ (∀ x, x ∈ xs → x.length = z) ∧ xs.length ≤ maxLen ∧
      (∀ (i j : Nat) (x : List D) (c : D), xs[i]? = some x → x[j]? = some c → ∃ (v : Value), arr[i * z + j]? = some v ∧ v.oneCell' = true ∧ RdD E.w E.S c v) ∧ (∀ i, ¬ E.S (E.β r) i)
  | .map sk es => ∃ (arr : Array MapEntry), E.w.heap[E.β r]? = some (.map arr es.length) ∧ arr.size = es.length ∧
      (∀ (i : Nat) (x : D × D) (m : MapEntry), es[i]? = some x → arr[i]? = some m → keyOk sk x.1 = true ∧ RdD E.w E.S x.1 m.key ∧ RdD E.w E.S x.2 m.val ∧ m.val.oneCell' = true ∧ m.born = i) ∧ (∀ i, ¬ E.S (E.β r) i)
  | .iter m since c0 seen => m < r ∧ E.w.heap[E.β r]? = some (.mapIter (some (E.β m)) since seen.toArray c0) ∧ (∀ i, ¬ E.S (E.β r) i)
  | .buf q z e xs => (E.τ r).1 = q ∧ (∀ x, x ∈ xs → x.length = z) ∧ 0 < z ∧
      ((∃ a, (E.τ r).2 = .slice a 0 0 ∧ xs = []) ∨
       ∃ (b cap : Nat) (arr : Array Value), (E.τ r).2 = .slice (some ⟨b, 0, none⟩) xs.length cap ∧ E.w.heap[b]? = some (.cells arr e (0, 0)) ∧
         0 < cap ∧ xs.length ≤ cap ∧ cap ≤ maxLen ∧ arr.size = cap * z ∧
         (∀ (i j : Nat) (x : List D) (c : D), xs[i]? = some x → x[j]? = some c → ∃ (v : Value), arr[i * z + j]? = some v ∧ v.oneCell' = true ∧ RdD E.w E.S c v) ∧
         (∀ i, ¬ E.S b i))
  | .dead => True

structure RepH (E : Env) (H : List O) : Prop where
  N : E.N = H.length
  obj : ∀ (r : Nat) (o : O), H[r]? = some o → RepO E r o
  pv : ∀ (r : Nat) (o : O) (b : Nat), H[r]? = some o → o.block E r = some b → E.pv b
  lt : ∀ (r : Nat) (o : O) (b : Nat), H[r]? = some o → o.block E r = some b → b < E.w.heap.size
  apart : ∀ (r r' : Nat) (o o' : O) (b : Nat), H[r]? = some o → H[r']? = some o' → o.block E r = some b → o'.block E r' = some b → r = r'
  Slt : ∀ b i, E.S b i → b < E.w.heap.size

/-- A state: what the slots hold (the newest first; the others: anything), and the objects. -/
structure St where
  σ : List (Nat × C)
  H : List O

def get : List (Nat × C) → Nat → C
  | [], _ => .top
  | (t, c) :: r, t' => if t = t' then c else get r t'

structure RepSt (E : Env) (n : Nat) (s : St) (a : Act) : Prop where
  size : a.tmps.size = n
  defers : a.defers = []
  heap : RepH E s.H
  slot : ∀ t, Rd E (get s.σ t) (a.tmps.getD t undef)

def put (s : St) (dst : Option Tmp) (c : C) : St :=
  match dst with
  | some d => { s with σ := (d, c) :: s.σ }
  | none => s

theorem RepSt.put {E E' : Env} {n : Nat} {s : St} {a : Act} (h : RepSt E n s a) (hl : Le E E') {H' : List O} (hH : RepH E' H') {dst : Option Tmp} {c : C} {v : Value}
    (hd : ∀ d, dst = some d → d < n) (hv : Rd E' c v) : RepSt E' n (Abs.put { s with H := H' } dst c) (a.put dst v) := by
  cases dst with
  | none => exact ⟨h.size, h.defers, hH, fun t => (h.slot t).le hl⟩
  | some d =>
    refine ⟨by simp [Act.put, h.size], h.defers, hH, fun t => ?_⟩
    have hdn := hd d rfl
    have hs := h.size
    by_cases e : d = t
    · subst e
      simp only [Abs.put, get, if_pos, Act.put]
      have : d < a.tmps.size := by rw [hs]; exact hdn
      simpa [Array.getD_eq_getD_getElem?, this] using hv
    · simp only [Abs.put, get, if_neg e, Act.put]
      rw [Array.getD_eq_getD_getElem?, Array.getElem?_setIfInBounds_ne e, ← Array.getD_eq_getD_getElem?]
      exact (h.slot t).le hl

end Go.Abs
