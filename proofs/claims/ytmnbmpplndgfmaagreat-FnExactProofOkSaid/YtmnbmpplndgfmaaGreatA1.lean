/- The layer, part A1. -/
import Derived.Orders
import Derived.Laws.AppendOwn
import Derived.Below
import Derived.Laws.Cells
import Derived.Laws.Tables
import Derived.Laws.Strings
import Derived.Laws.Slices
import Derived.Laws.StructEq
import Derived.MapKept
/- The plain-data layer, part 1: data, slot values, what they mean in a world, and how a world may grow. -/
namespace Go.Abs

/-- Plain data: what a value reads as, slices by their contents. A list of cells stands for one variable. -/
inductive D where
  | int (k : IntKind) (n : Int)
  | bool (b : Bool)
  | str (s : List UInt8)
  | sl (xs : List (List D))
  | agg (cs : List D)
  | fset (ks : List Int)

inductive RdD (w : World) (S : Nat → Nat → Prop) : D → Value → Prop
  | int (k : IntKind) (n : Int) : RdD w S (.int k n) (.int k n)
  | bool (b : Bool) : RdD w S (.bool b) (.bool b)
  | str (s : List UInt8) : RdD w S (.str s) (.string ⟨s.toArray⟩)
  | nil (a : Option Addr) (cap : Nat) : RdD w S (.sl []) (.slice a 0 cap)
  | sl (b off cap z : Nat) (xs : List (List D)) (val : Nat → Nat → Value)
      (hne : xs ≠ []) (hcap : xs.length ≤ cap) (hmax : cap ≤ maxLen)
      (hz : ∀ x, x ∈ xs → x.length = z)
      (hc : ∀ i j, i < xs.length → j < z → S b (off + i * z + j) ∧ w.cell? ⟨b, off + i * z + j, none⟩ = some (val i j) ∧ (val i j).oneCell' = true)
      (hr : ∀ i j x c, xs[i]? = some x → x[j]? = some c → RdD w S c (val i j)) :
      RdD w S (.sl xs) (.slice (some ⟨b, off, none⟩) xs.length cap)
  | agg (cs : List D) (vs : Array Value) (hl : vs.size = cs.length)
      (h1 : ∀ (i : Nat) (v : Value), vs[i]? = some v → v.oneCell' = true)
      (hr : ∀ (i : Nat) c (v : Value), cs[i]? = some c → vs[i]? = some v → RdD w S c v) : RdD w S (.agg cs) (.agg vs)
  | fset (b : Nat) (ks : List Int) (arr : Array MapEntry) (hS : S b 0) (hh : w.heap[b]? = some (.map arr ks.length)) (hl : arr.size = ks.length)
      (he : ∀ (i : Nat) (n : Int) (m : MapEntry), ks[i]? = some n → arr[i]? = some m → m.key = .int .i64 n ∧ m.val = .bool true) : RdD w S (.fset ks) (.map (some b))

/-- What a slot holds: data, or a reference. 'own r q': an own slice (object r) as of its version q; 'rsl r n': a row made by make; 'cptr': a pointer to cells that nobody writes. -/
inductive C where
  | top
  | d (x : D)
  | nil0
  | cptr (cs : List D)
  | ptr (r off : Nat)
  | nilp
  | own (r q : Nat)
  | rsl (r n : Nat)
  | eptr (r z i off : Nat)
  | tptr (r q z i off : Nat)
  | map (r : Nat)
  | fn (f : Nat) (caps : List C)
  | agg (cs : List C)
  | tup (cs : List C)

/-- The objects that a call may write: variables, slices that it appends to, rows that it made, maps. -/
inductive O where
  | box (cs : List C)
  | grow (q z e : Nat) (xs : List (List D))
  | row (z e : Nat) (xs : List (List D))
  | map (sk : Bool) (es : List (D × D))
  | iter (m since c0 : Nat) (seen : List Nat)
  | buf (q z e : Nat) (xs : List (List D))
  | tree (q z e : Nat) (xs : List (List D)) (B : Nat → Prop) (L : Option (Nat × Nat × Nat × Nat))
  | hole
  | dead

structure Env where
  w : World
  S : Nat → Nat → Prop
  N : Nat
  β : Nat → Nat
  τ : Nat → Nat × Value
  pv : Nat → Prop

inductive Rd (E : Env) : C → Value → Prop
  | top (v : Value) : Rd E .top v
  | d (x : D) (v : Value) (h : RdD E.w E.S x v) : Rd E (.d x) v
  | nil0 (a : Option Addr) : Rd E .nil0 (.slice a 0 0)
  | cptr (b off : Nat) (cs : List D) (val : Nat → Value)
      (hc : ∀ j, j < cs.length → E.S b (off + j) ∧ E.w.cell? ⟨b, off + j, none⟩ = some (val j) ∧ (val j).oneCell' = true)
      (hr : ∀ j c, cs[j]? = some c → RdD E.w E.S c (val j)) : Rd E (.cptr cs) (.pointer (some ⟨b, off, none⟩))
  | ptr (r off : Nat) (h : r < E.N) : Rd E (.ptr r off) (.pointer (some ⟨E.β r, off, none⟩))
  | nilp : Rd E .nilp (.pointer none)
  | own (r q : Nat) (v : Value) (h : r < E.N) (h1 : v.oneCell' = true) (hq : q ≤ (E.τ r).1) (hv : q = (E.τ r).1 → v = (E.τ r).2) : Rd E (.own r q) v
  | rsl (r n : Nat) (h : r < E.N) : Rd E (.rsl r n) (.slice (some ⟨E.β r, 0, none⟩) n n)
  | eptr (r z i off : Nat) (h : r < E.N) : Rd E (.eptr r z i off) (.pointer (some ⟨E.β r, i * z + off, none⟩))
  | tptr (r q z i off b : Nat) (h : r < E.N) (hq : q ≤ (E.τ r).1) (hv : q = (E.τ r).1 → ∃ n cap, (E.τ r).2 = .slice (some ⟨b, 0, none⟩) n cap) : Rd E (.tptr r q z i off) (.pointer (some ⟨b, i * z + off, none⟩))
  | map (r : Nat) (h : r < E.N) : Rd E (.map r) (.map (some (E.β r)))
  | fn (f : Nat) (caps : List C) (vs : Array Value) (hl : vs.size = caps.length)
      (hr : ∀ (i : Nat) c (v : Value), caps[i]? = some c → vs[i]? = some v → Rd E c v) : Rd E (.fn f caps) (.func (.func f) #[] vs)
  | agg (cs : List C) (vs : Array Value) (hl : vs.size = cs.length)
      (h1 : ∀ (i : Nat) (v : Value), vs[i]? = some v → v.oneCell' = true)
      (hr : ∀ (i : Nat) c (v : Value), cs[i]? = some c → vs[i]? = some v → Rd E c v) : Rd E (.agg cs) (.agg vs)
  | tup (cs : List C) (vs : Array Value) (hl : vs.size = cs.length)
      (hr : ∀ (i : Nat) c (v : Value), cs[i]? = some c → vs[i]? = some v → Rd E c v) : Rd E (.tup cs) (.tuple vs)

/-- How memory may go on: what is readable stays as it is; of the blocks that were there only the private ones turn. -/
structure Le (E E' : Env) : Prop where
  os : E'.w.os = E.w.os
  tape : E'.w.tape = E.w.tape
  output : E'.w.output = E.w.output
  size : E.w.heap.size ≤ E'.w.heap.size
  N : E.N ≤ E'.N
  β : ∀ r, r < E.N → E'.β r = E.β r
  τ : ∀ r, r < E.N → (E.τ r).1 ≤ (E'.τ r).1 ∧ ((E.τ r).1 = (E'.τ r).1 → E'.τ r = E.τ r)
  S : ∀ b i, E.S b i → E'.S b i
  cell : ∀ b i, E.S b i → E'.w.cell? ⟨b, i, none⟩ = E.w.cell? ⟨b, i, none⟩
  blk : ∀ b, b < E.w.heap.size → ¬ E.pv b → E'.w.heap[b]? = E.w.heap[b]?
  newS : ∀ b i, E'.S b i → E.S b i ∨ E.w.heap.size ≤ b ∨ E.pv b
  newP : ∀ b, E'.pv b → E.pv b ∨ E.w.heap.size ≤ b
  map : ∀ b i arr n, E.S b i → E.w.heap[b]? = some (.map arr n) → E'.w.heap[b]? = some (.map arr n)

theorem Le.refl (E : Env) : Le E E :=
  ⟨rfl, rfl, rfl, Nat.le_refl _, Nat.le_refl _, fun _ _ => rfl, fun _ _ => ⟨Nat.le_refl _, fun _ => rfl⟩, fun _ _ h => h, fun _ _ _ => rfl, fun _ _ _ => rfl, fun _ _ h => .inl h, fun _ h => .inl h, fun _ _ _ _ _ h => h⟩

theorem Le.trans {E₁ E₂ E₃ : Env} (h : Le E₁ E₂) (k : Le E₂ E₃) : Le E₁ E₃ where
  os := k.os.trans h.os
  tape := k.tape.trans h.tape
  output := k.output.trans h.output
  size := Nat.le_trans h.size k.size
  N := Nat.le_trans h.N k.N
  β r hr := (k.β r (Nat.lt_of_lt_of_le hr h.N)).trans (h.β r hr)
  τ r hr := by
    obtain ⟨a1, a2⟩ := h.τ r hr
    obtain ⟨b1, b2⟩ := k.τ r (Nat.lt_of_lt_of_le hr h.N)
    refine ⟨Nat.le_trans a1 b1, fun e => ?_⟩
    have e1 : (E₁.τ r).1 = (E₂.τ r).1 := by omega
    have e2 : (E₂.τ r).1 = (E₃.τ r).1 := by omega
    rw [b2 e2, a2 e1]
  S b i hs := k.S b i (h.S b i hs)
  cell b i hs := (k.cell b i (h.S b i hs)).trans (h.cell b i hs)
  map b i arr n hs hh := k.map b i arr n (h.S b i hs) (h.map b i arr n hs hh)
  blk b hb hp := (k.blk b (Nat.lt_of_lt_of_le hb h.size) (fun hp' => by rcases h.newP b hp' with h1 | h1; exact hp h1; omega)).trans (h.blk b hb hp)
  newS b i hs := by
    rcases k.newS b i hs with h1 | h1 | h1
    · exact h.newS b i h1
    · exact .inr (.inl (Nat.le_trans h.size h1))
    · rcases h.newP b h1 with h2 | h2
      · exact .inr (.inr h2)
      · exact .inr (.inl h2)
  newP b hp := by
    rcases k.newP b hp with h1 | h1
    · exact h.newP b h1
    · exact .inr (Nat.le_trans h.size h1)

theorem RdD.mono {w w' : World} {S S' : Nat → Nat → Prop} (hS : ∀ b i, S b i → S' b i)
    (hc : ∀ b i, S b i → w'.cell? ⟨b, i, none⟩ = w.cell? ⟨b, i, none⟩) (hm : ∀ b i arr n, S b i → w.heap[b]? = some (.map arr n) → w'.heap[b]? = some (.map arr n)) {x : D} {v : Value} (h : RdD w S x v) : RdD w' S' x v := by
  induction h with
  | int k n => exact .int k n
  | bool b => exact .bool b
  | str s => exact .str s
  | nil a cap => exact .nil a cap
  | sl b off cap z xs val hne hcap hmax hz hcc hr ih =>
    exact .sl b off cap z xs val hne hcap hmax hz (fun i j hi hj => by
      obtain ⟨h1, h2, h3⟩ := hcc i j hi hj
      exact ⟨hS _ _ h1, (hc _ _ h1).trans h2, h3⟩) ih
  | agg cs vs hl h1 hr ih => exact .agg cs vs hl h1 ih
  | fset b ks arr hs hh hl he => exact .fset b ks arr (hS _ _ hs) (hm _ _ _ _ hs hh) hl he

theorem RdD.le {E E' : Env} (h : Le E E') {x : D} {v : Value} (hr : RdD E.w E.S x v) : RdD E'.w E'.S x v := hr.mono h.S h.cell h.map

theorem Rd.le {E E' : Env} (h : Le E E') {c : C} {v : Value} (hr : Rd E c v) : Rd E' c v := by
  induction hr with
  | top v => exact .top v
  | d x v hd => exact .d x v (hd.le h)
  | nil0 a => exact .nil0 a
  | cptr b off cs val hc hr =>
    exact .cptr b off cs val (fun j hj => by obtain ⟨h1, h2, h3⟩ := hc j hj; exact ⟨h.S _ _ h1, (h.cell _ _ h1).trans h2, h3⟩) (fun j c hj => (hr j c hj).le h)
  | ptr r off hr => rw [← h.β r hr]; exact .ptr r off (Nat.lt_of_lt_of_le hr h.N)
  | nilp => exact .nilp
  | own r q v hr h1 hq hv =>
    obtain ⟨h2, h3⟩ := h.τ r hr
    refine .own r q v (Nat.lt_of_lt_of_le hr h.N) h1 (Nat.le_trans hq h2) (fun e => ?_)
    have : (E.τ r).1 = (E'.τ r).1 := by omega
    rw [h3 this]; exact hv (by omega)
  | rsl r n hr => rw [← h.β r hr]; exact .rsl r n (Nat.lt_of_lt_of_le hr h.N)
  | eptr r z i off hr => rw [← h.β r hr]; exact .eptr r z i off (Nat.lt_of_lt_of_le hr h.N)
  | tptr r q z i off b hr hq hv =>
    obtain ⟨h2, h3⟩ := h.τ r hr
    refine .tptr r q z i off b (Nat.lt_of_lt_of_le hr h.N) (Nat.le_trans hq h2) (fun e => ?_)
    have : (E.τ r).1 = (E'.τ r).1 := by omega
    rw [h3 this]; exact hv (by omega)
  | map r hr => rw [← h.β r hr]; exact .map r (Nat.lt_of_lt_of_le hr h.N)
  | fn f caps vs hl hr ih => exact .fn f caps vs hl ih
  | agg cs vs hl h1 hr ih => exact .agg cs vs hl h1 ih
  | tup cs vs hl hr ih => exact .tup cs vs hl ih

/-- The block of a slice that has room or elements. -/
def ownB : Value → Option Nat
  | .slice (some a) _ cap => if cap = 0 then none else some a.block
  | _ => none

/-- The blocks that an object lies in. -/
def O.block (E : Env) (r : Nat) : O → Nat → Prop
  | .box _ | .row .. | .map .. | .iter .. => fun b => E.β r = b
  | .grow .. | .buf .. => fun b => ownB (E.τ r).2 = some b
  | .tree _ _ _ _ B _ => fun b => ownB (E.τ r).2 = some b ∨ B b
  | .hole | .dead => fun _ => False

/-- What slices in a row hold, and theirs, each in a block of its own. -/
inductive Tr (w : World) : D → Value → (Nat → Prop) → Prop where
  | int (k : IntKind) (n : Int) : Tr w (.int k n) (.int k n) (fun _ => False)
  | bool (b : Bool) : Tr w (.bool b) (.bool b) (fun _ => False)
  | str (s : List UInt8) : Tr w (.str s) (.string ⟨s.toArray⟩) (fun _ => False)
  | nil (a : Option Addr) (cap : Nat) : Tr w (.sl []) (.slice a 0 cap) (fun _ => False)
  | sl (b cap z : Nat) (e : TypeId) (xs : List (List D)) (arr : Array Value) (val : Nat → Nat → Value) (Bs : Nat → Nat → Nat → Prop)
      (hne : xs ≠ []) (h0 : 0 < z) (hcap : xs.length ≤ cap) (hmax : cap ≤ maxLen) (hz : ∀ x, x ∈ xs → x.length = z) (hb : w.heap[b]? = some (.cells arr e (0, 0))) (hsz : arr.size = cap * z)
      (hv : ∀ i j x c, xs[i]? = some x → x[j]? = some c → arr[i * z + j]? = some (val i j) ∧ (val i j).oneCell' = true)
      (hr : ∀ i j x c, xs[i]? = some x → x[j]? = some c → Tr w c (val i j) (Bs i j))
      (hself : ∀ i j, ¬ Bs i j b) (hdis : ∀ i j i' j' b', Bs i j b' → Bs i' j' b' → i = i' ∧ j = j') :
      Tr w (.sl xs) (.slice (some ⟨b, 0, none⟩) xs.length cap) (fun b' => b' = b ∨ ∃ i j x c, xs[i]? = some x ∧ x[j]? = some c ∧ Bs i j b')

/-- The cell that is lent. -/
def lent : Option (Nat × Nat × Nat × Nat) → Nat → Nat → Prop
  | some (i, j, _, _), i', j' => i' = i ∧ j' = j
  | none, _, _ => False

/-- The cells of a row as such trees; B: all their blocks. -/
def Kids (w : World) (z : Nat) (xs : List (List D)) (arr : Array Value) (B : Nat → Prop) (L : Option (Nat × Nat × Nat × Nat)) : Prop :=
  ∃ (val : Nat → Nat → Value) (Bs : Nat → Nat → Nat → Prop),
    (∀ i j x c, xs[i]? = some x → x[j]? = some c → arr[i * z + j]? = some (val i j) ∧ (val i j).oneCell' = true ∧ (¬ lent L i j → Tr w c (val i j) (Bs i j))) ∧ (∀ i j b', Bs i j b' → B b') ∧
    (∀ i j i' j' b', Bs i j b' → Bs i' j' b' → i = i' ∧ j = j')

/-- A lent cell holds object N's value, as long as N is what it was. -/
def Lent (E : Env) (z : Nat) (arr : Array Value) : Option (Nat × Nat × Nat × Nat) → Prop
  | some (i, j, N, q) => N < E.N ∧ q ≤ (E.τ N).1 ∧ ((E.τ N).1 = q → arr[i * z + j]? = some (E.τ N).2)
  | none => True

/-- Keys of a map: strings, or integers. -/
def keyOk : Bool → D → Bool
  | true, .str _ => true
  | false, .int .i64 _ => true
  | _, _ => false

def RepO (E : Env) (r : Nat) : O → Prop
  | .box cs => ∃ (arr : Array Value) (e : TypeId), E.w.heap[E.β r]? = some (.cells arr e (0, 0)) ∧ arr.size = cs.length ∧
      (∀ (i : Nat) (c : C) (v : Value), cs[i]? = some c → arr[i]? = some v → Rd E c v ∧ v.oneCell' = true) ∧ (∀ i, ¬ E.S (E.β r) i)
  | .grow q z e xs => (E.τ r).1 = q ∧ (∀ x, x ∈ xs → x.length = z) ∧ 0 < z ∧
      ((∃ a, (E.τ r).2 = .slice a 0 0 ∧ xs = []) ∨
       ∃ (b cap : Nat) (arr : Array Value), (E.τ r).2 = .slice (some ⟨b, 0, none⟩) xs.length cap ∧ E.w.heap[b]? = some (.cells arr e (0, 0)) ∧
         0 < cap ∧ xs.length ≤ cap ∧ cap ≤ maxLen ∧ arr.size = cap * z ∧
         (∀ (i j : Nat) (x : List D) (c : D), xs[i]? = some x → x[j]? = some c → E.S b (i * z + j) ∧ ∃ (v : Value), arr[i * z + j]? = some v ∧ v.oneCell' = true ∧ RdD E.w E.S c v) ∧
         (∀ i, xs.length * z ≤ i → ¬ E.S b i))
  | .row z e xs => ∃ (arr : Array Value), E.w.heap[E.β r]? = some (.cells arr e (0, 0)) ∧ arr.size = xs.length * z ∧ (∀ x, x ∈ xs → x.length = z) ∧ xs.length ≤ maxLen ∧
      (∀ (i j : Nat) (x : List D) (c : D), xs[i]? = some x → x[j]? = some c → ∃ (v : Value), arr[i * z + j]? = some v ∧ v.oneCell' = true ∧ RdD E.w E.S c v) ∧ (∀ i, ¬ E.S (E.β r) i)
  | .map sk es => ∃ (arr : Array MapEntry), E.w.heap[E.β r]? = some (.map arr es.length) ∧ arr.size = es.length ∧
      (∀ (i : Nat) (x : D × D) (m : MapEntry), es[i]? = some x → arr[i]? = some m → keyOk sk x.1 = true ∧ RdD E.w E.S x.1 m.key ∧ RdD E.w E.S x.2 m.val ∧ m.val.oneCell' = true ∧ m.born = i) ∧ (∀ i, ¬ E.S (E.β r) i)
  | .iter m since c0 seen => m < r ∧ E.w.heap[E.β r]? = some (.mapIter (some (E.β m)) since seen.toArray c0) ∧ (∀ i, ¬ E.S (E.β r) i)
  | .buf q z e xs => (E.τ r).1 = q ∧ (∀ x, x ∈ xs → x.length = z) ∧ 0 < z ∧
      ((∃ a, (E.τ r).2 = .slice a 0 0 ∧ xs = []) ∨
       ∃ (b cap : Nat) (arr : Array Value), (E.τ r).2 = .slice (some ⟨b, 0, none⟩) xs.length cap ∧ E.w.heap[b]? = some (.cells arr e (0, 0)) ∧
         xs ≠ [] ∧ xs.length ≤ cap ∧ cap ≤ maxLen ∧ arr.size = cap * z ∧
         (∀ (i j : Nat) (x : List D) (c : D), xs[i]? = some x → x[j]? = some c → ∃ (v : Value), arr[i * z + j]? = some v ∧ v.oneCell' = true ∧ RdD E.w E.S c v) ∧
         (∀ i, ¬ E.S b i))
  | .tree q z e xs B L => (E.τ r).1 = q ∧ (∀ x, x ∈ xs → x.length = z) ∧ 0 < z ∧ (∀ b, B b → ∀ i, ¬ E.S b i) ∧
      ((∃ a, (E.τ r).2 = .slice a 0 0 ∧ xs = []) ∨
       ∃ (b cap : Nat) (arr : Array Value), (E.τ r).2 = .slice (some ⟨b, 0, none⟩) xs.length cap ∧ E.w.heap[b]? = some (.cells arr e (0, 0)) ∧
         xs ≠ [] ∧ xs.length ≤ cap ∧ cap ≤ maxLen ∧ arr.size = cap * z ∧ Kids E.w z xs arr B L ∧ ¬ B b ∧ (∀ i, ¬ E.S b i) ∧ Lent E z arr L)
  | .hole => (E.τ r).1 = 0
  | .dead => True

theorem Tr.keep {w w' : World} {d : D} {v : Value} {B : Nat → Prop} (h : Tr w d v B) (hw : ∀ b, B b → w'.heap[b]? = w.heap[b]?) : Tr w' d v B := by
  induction h with
  | int k n => exact .int k n
  | bool b => exact .bool b
  | str s => exact .str s
  | nil a cap => exact .nil a cap
  | sl b cap z e xs arr val Bs hne h0 hcap hmax hz hb hsz hv hr hself hdis ih =>
    exact .sl b cap z e xs arr val Bs hne h0 hcap hmax hz (by rw [hw b (.inl rfl)]; exact hb) hsz hv (fun i j x c hi hj => ih i j x c hi hj (fun b' hb' => hw b' (.inr ⟨i, j, x, c, hi, hj, hb'⟩))) hself hdis
theorem Kids.keep {w w' : World} {z : Nat} {xs : List (List D)} {arr : Array Value} {B : Nat → Prop} {L : Option (Nat × Nat × Nat × Nat)} (h : Kids w z xs arr B L) (hw : ∀ b, B b → w'.heap[b]? = w.heap[b]?) : Kids w' z xs arr B L := by
  obtain ⟨val, Bs, h1, h2, h3⟩ := h
  exact ⟨val, Bs, fun i j x c hi hj => by obtain ⟨a1, a2, a3⟩ := h1 i j x c hi hj; exact ⟨a1, a2, fun hl => (a3 hl).keep (fun b hb => hw b (h2 i j b hb))⟩, h2, h3⟩
theorem Lent.le {E E' : Env} (hl : Le E E') {z : Nat} {arr : Array Value} {L : Option (Nat × Nat × Nat × Nat)} (h : Lent E z arr L) : Lent E' z arr L := by
  unfold Lent at h ⊢
  split at h
  · rename_i i j N q
    obtain ⟨h1, h2, h3⟩ := h
    obtain ⟨h4, h5⟩ := hl.τ N h1
    refine ⟨Nat.lt_of_lt_of_le h1 hl.N, Nat.le_trans h2 h4, fun e => ?_⟩
    have : (E.τ N).1 = (E'.τ N).1 := by omega
    rw [h5 this]; exact h3 (by omega)
  · trivial

structure RepH (E : Env) (H : List O) : Prop where
  N : E.N = H.length
  obj : ∀ (r : Nat) (o : O), H[r]? = some o → RepO E r o
  pv : ∀ (r : Nat) (o : O) (b : Nat), H[r]? = some o → o.block E r b → E.pv b
  lt : ∀ (r : Nat) (o : O) (b : Nat), H[r]? = some o → o.block E r b → b < E.w.heap.size
  apart : ∀ (r r' : Nat) (o o' : O) (b : Nat), H[r]? = some o → H[r']? = some o' → o.block E r b → o'.block E r' b → r = r'
  Slt : ∀ b i, E.S b i → b < E.w.heap.size

/-- A state: what the slots hold (the newest first; the others: anything), and the objects. -/
structure St where
  σ : List (Nat × C)
  H : List O

def get : List (Nat × C) → Nat → C
  | [], _ => .top
  | (t, c) :: r, t' => if t = t' then c else get r t'

structure RepSt (E : Env) (n : Nat) (s : St) (a : Act) : Prop where
  size : a.tmps.size = n
  defers : a.defers = []
  heap : RepH E s.H
  slot : ∀ t, Rd E (get s.σ t) (a.tmps.getD t undef)

def put (s : St) (dst : Option Tmp) (c : C) : St :=
  match dst with
  | some d => { s with σ := (d, c) :: s.σ }
  | none => s

theorem RepSt.put {E E' : Env} {n : Nat} {s : St} {a : Act} (h : RepSt E n s a) (hl : Le E E') {H' : List O} (hH : RepH E' H') {dst : Option Tmp} {c : C} {v : Value}
    (hd : ∀ d, dst = some d → d < n) (hv : Rd E' c v) : RepSt E' n (Abs.put { s with H := H' } dst c) (a.put dst v) := by
  cases dst with
  | none => exact ⟨h.size, h.defers, hH, fun t => (h.slot t).le hl⟩
  | some d =>
    refine ⟨by simp [Act.put, h.size], h.defers, hH, fun t => ?_⟩
    have hdn := hd d rfl
    have hs := h.size
    by_cases e : d = t
    · subst e
      simp only [Abs.put, get, if_pos, Act.put]
      have : d < a.tmps.size := by rw [hs]; exact hdn
      simpa [Array.getD_eq_getD_getElem?, this] using hv
    · simp only [Abs.put, get, if_neg e, Act.put]
      rw [Array.getD_eq_getD_getElem?, Array.getElem?_setIfInBounds_ne e, ← Array.getD_eq_getD_getElem?]
      exact (h.slot t).le hl

end Go.Abs

/- The plain-data layer, part 2: operations that leave the world alone. -/
namespace Go.Abs

def tAgg (P : Program) (t : TypeId) : Option Bool := (P.underlying t).map fun | .struct _ | .array _ _ => true | _ => false
def tSize (P : Program) (t : TypeId) : Option Nat := (P.info? t).map (·.size)
def tBytes (P : Program) (t : TypeId) : Option Nat := (P.info? t).map (·.bytes)
/-- The element type of a slice type. -/
def tElem (P : Program) (t : TypeId) : Option TypeId := (P.underlying t).bind fun | .slice e => some e | _ => none
/-- Offset and type of a struct's field. -/
def tField (P : Program) (t : TypeId) (f : Nat) : Option (Nat × TypeId) := (P.underlying t).bind fun | .struct fs => (fs[f]?).map fun x => (x.offset, x.type) | _ => none
/-- A slice type's element type, its size in cells and in bytes. -/
def tSlice (P : Program) (t : TypeId) : Option (TypeId × Nat × Nat) :=
  (tElem P t).bind fun e => (P.info? e).bind fun i => i.zero.bind fun zv => if zv.cells.size = i.size ∧ 0 < i.size then some (e, i.size, i.bytes) else none
def tIsStr (P : Program) (t : TypeId) : Bool := match P.underlying t with | some .string => true | _ => false
def tIsSlice (P : Program) (t : TypeId) : Bool := match P.underlying t with | some (.slice _) => true | _ => false
/-- Slices of bytes, and the bytes of a row of such cells. -/
def tIsBytes (P : Program) (t : TypeId) : Bool := match P.underlying t with | some (.slice e) => (match P.underlying e with | some (.int .u8) => true | _ => false) | _ => false
def bytesOf : List (List D) → Option (List Int)
  | [] => some []
  | [.int .u8 n] :: r => (bytesOf r).map (n :: ·)
  | _ :: _ => none
theorem bytesOf_at : ∀ (xs : List (List D)) (l : List Int), bytesOf xs = some l → xs = l.map fun n => [.int .u8 n]
  | [], l, h => by cases h; rfl
  | x :: r, l, h => by
    unfold bytesOf at h
    split at h
    · cases h; rename_i h'; cases h'
    · rename_i n r' heq
      cases heq
      obtain ⟨l', h1, rfl⟩ := Option.map_eq_some_iff.1 h
      rw [bytesOf_at r l' h1]; rfl
    · cases h
def tIsMap (P : Program) (t : TypeId) : Bool := match P.underlying t with | some (.map ..) => true | _ => false
def tInt (P : Program) (t : TypeId) : Option IntKind := (P.underlying t).bind fun | .int k => some k | _ => none

theorem run_isAgg {P : Program} {t : TypeId} {b : Bool} (h : tAgg P t = some b) (w : World) : (isAgg t).run P w = .ok b w := by
  unfold tAgg at h
  cases hu : P.underlying t with
  | none => simp [hu] at h
  | some d =>
    simp only [hu, Option.map_some, Option.some.injEq] at h
    unfold isAgg
    rw [Sem.run_bind, run_underlying hu w]
    subst h
    cases d <;> rfl

theorem run_sizeOf {P : Program} {t : TypeId} {n : Nat} (h : tSize P t = some n) (w : World) : (sizeOf t).run P w = .ok n w := by
  unfold tSize at h
  cases hi : P.info? t with
  | none => simp [hi] at h
  | some i =>
    simp only [hi, Option.map_some, Option.some.injEq] at h
    simp [sizeOf, typeInfo, hi, h]

theorem und_of_tElem {P : Program} {t e : TypeId} (h : tElem P t = some e) : P.underlying t = some (.slice e) := by
  unfold tElem at h
  cases hu : P.underlying t with
  | none => simp [hu] at h
  | some d => cases d <;> simp_all

theorem of_tSlice {P : Program} {t e : TypeId} {z by_ : Nat} (h : tSlice P t = some (e, z, by_)) :
    P.underlying t = some (.slice e) ∧ 0 < z ∧ ∃ i zv, P.info? e = some i ∧ i.zero = some zv ∧ zv.cells.size = z ∧ i.size = z ∧ i.bytes = by_ := by
  unfold tSlice at h
  cases he : tElem P t with
  | none => simp [he] at h
  | some e' =>
    cases hi : P.info? e' with
    | none => simp [he, hi] at h
    | some i =>
      cases hz : i.zero with
      | none => simp [he, hi, hz] at h
      | some zv =>
        simp only [he, hi, hz, Option.bind_some] at h
        split at h
        · rename_i hc
          simp only [Option.some.injEq, Prod.mk.injEq] at h
          obtain ⟨rfl, rfl, rfl⟩ := h
          exact ⟨und_of_tElem he, hc.2, i, zv, hi, hz, hc.1, rfl, rfl⟩
        · simp at h

theorem und_of_tField {P : Program} {t : TypeId} {f o : Nat} {u : TypeId} (h : tField P t f = some (o, u)) : ∃ fs x, P.underlying t = some (.struct fs) ∧ fs[f]? = some x ∧ x.offset = o ∧ x.type = u := by
  unfold tField at h
  cases hu : P.underlying t with
  | none => simp [hu] at h
  | some d =>
    cases d <;> simp [hu] at h
    case struct fs =>
      obtain ⟨x, hx, h1, h2⟩ := h
      exact ⟨fs, x, rfl, hx, h1, h2⟩

theorem und_of_tInt {P : Program} {t : TypeId} {k : IntKind} (h : tInt P t = some k) : P.underlying t = some (.int k) := by
  unfold tInt at h
  cases hu : P.underlying t with
  | none => simp [hu] at h
  | some d => cases d <;> simp_all

theorem Addr.add_mk (b o n : Nat) : Addr.add ⟨b, o, none⟩ n = ⟨b, o + n, none⟩ := by
  unfold Go.Addr.add
  split
  · simp_all
  · rfl

/-! ### Reading an operand -/

def cv1 : Value → C
  | .int k n => .d (.int k n)
  | .bool b => .d (.bool b)
  | .string s => .d (.str s.data.toList)
  | .slice none 0 0 => .nil0
  | .pointer none => .nilp
  | _ => .top

def cv : Value → C
  | .agg cs => .agg (cs.toList.map cv1)
  | v => cv1 v

def ev (s : St) : Operand → C
  | .tmp t => get s.σ t
  | .const v => cv v
  | .func f => .fn f []
  | .global _ => .top

theorem rd_cv1 (E : Env) (v : Value) : Rd E (cv1 v) v := by
  unfold cv1
  split
  · exact .d _ _ (.int _ _)
  · exact .d _ _ (.bool _)
  · rename_i s
    refine .d _ _ ?_
    have : s = ⟨s.data.toList.toArray⟩ := by cases s; simp
    rw [this]; exact .str _
  · exact .nil0 _
  · exact .nilp
  · exact .top _

/-- Constants that are structs hold no structs in a cell. -/
def Value.flat : Value → Bool
  | .agg cs => cs.all fun v => v.oneCell'
  | _ => true

theorem rd_cv (E : Env) (v : Value) (h : Value.flat v = true) : Rd E (cv v) v := by
  unfold cv
  split
  · rename_i cs
    refine .agg _ _ (by simp) (fun i v hv => ?_) (fun i c v hc hv => ?_)
    · simp only [Value.flat, Array.all_eq_true] at h
      obtain ⟨hi, rfl⟩ := Array.getElem?_eq_some_iff.1 hv
      exact h i hi
    · simp only [List.getElem?_map, Array.getElem?_toList, hv, Option.map_some, Option.some.injEq] at hc
      subst hc
      exact rd_cv1 E v
  · exact rd_cv1 E v

def okOperand : Operand → Bool
  | .const v => Value.flat v
  | _ => true

theorem rd_ev {E : Env} {n : Nat} {s : St} {a : Act} (h : RepSt E n s a) (x : Operand) (hx : okOperand x = true) : Rd E (ev s x) (a.eval x) := by
  cases x with
  | tmp t => exact h.slot t
  | const v => exact rd_cv E v hx
  | func f => exact .fn f [] #[] rfl (fun i c v hc => by simp at hc)
  | _=>exact .top _

/-! ### Reference-free forms -/

def toDs : List C → Option (List D)
  | [] => some []
  | .d x :: r => (toDs r).map (x :: ·)
  | _ :: _ => none

theorem toDs_get : ∀ {cs : List C} {ds : List D}, toDs cs = some ds → cs = ds.map .d
  | [], ds, h => by simp [toDs] at h; simp [← h]
  | c :: r, ds, h => by
    cases c <;> simp [toDs] at h
    obtain ⟨l, hl, rfl⟩ := h
    simp [toDs_get hl]

def norm1 (s : St) : C → C
  | .nil0 => .d (.sl [])
  | .own r q => match s.H[r]? with
    | some (.grow q' _ _ xs) => if q = q' then .d (.sl xs) else .top
    | some (.buf ..) => .own r q
    | some (.tree ..) => .own r q
    | _ => .top
  | c => c

/-- As data, where it can be read so. -/
def norm (s : St) : C → C
  | .agg cs => match toDs (cs.map (norm1 s)) with
    | some ds => .d (.agg ds)
    | none => .agg (cs.map (norm1 s))
  | c => norm1 s c

theorem rdD_grow {E : Env} {r q z e : Nat} {xs : List (List D)} (h : RepO E r (.grow q z e xs)) : RdD E.w E.S (.sl xs) (E.τ r).2 := by
  obtain ⟨_, hz, hz0, h⟩ := h
  rcases h with ⟨a, h1, rfl⟩ | ⟨b, cap, arr, h1, h2, _, h3, h4, h5, h6, h7⟩
  · rw [h1]; exact .nil _ _
  · rw [h1]
    by_cases hx : xs = []
    · subst hx; exact .nil _ _
    · refine .sl b 0 cap z xs (fun i j => arr.getD (i * z + j) undef) hx h3 h4 hz (fun i j hi hj => ?_) (fun i j x c hi hj => ?_)
      · have hx := hz xs[i] (List.getElem_mem _)
        obtain ⟨k1, v, k2, k3, k4⟩ := h6 i j xs[i] (xs[i][j]'(by omega)) (List.getElem?_eq_getElem hi) (List.getElem?_eq_getElem _)
        refine ⟨by simpa using k1, ?_, ?_⟩
        · simp only [Nat.zero_add]
          rw [cell_of_row _ _ _ _ _ _ h2, k2, Array.getD_eq_getD_getElem?, k2]; rfl
        · rw [Array.getD_eq_getD_getElem?, k2]; exact k3
      · obtain ⟨k1, v, k2, k3, k4⟩ := h6 i j x c hi hj
        rw [Array.getD_eq_getD_getElem?, k2]; exact k4

theorem rd_norm1 {E : Env} {n : Nat} {s : St} {a : Act} (h : RepSt E n s a) {c : C} {v : Value} (hr : Rd E c v) : Rd E (norm1 s c) v := by
  unfold norm1
  split
  · cases hr; exact .d _ _ (.nil _ _)
  · rename_i r q
    split
    · rename_i q' z e xs ho
      split
      · rename_i hq; subst hq
        cases hr with
        | own _ _ _ h1 _ h2 h3 =>
          have hrep := h.heap.obj r _ ho
          have := rdD_grow hrep
          rw [← h3 hrep.1.symm] at this
          exact .d _ _ this
      · exact .top _
    · exact hr
    · exact hr
    · exact .top _
  · exact hr

theorem rd_norm {E : Env} {n : Nat} {s : St} {a : Act} (h : RepSt E n s a) {c : C} {v : Value} (hr : Rd E c v) : Rd E (norm s c) v := by
  unfold norm
  split
  · rename_i cs
    cases hr with
    | agg _ vs hl h1 hr =>
      have key : ∀ (i : Nat) c (v : Value), (cs.map (norm1 s))[i]? = some c → vs[i]? = some v → Rd E c v := by
        intro i c v hc hv
        simp only [List.getElem?_map, Option.map_eq_some_iff] at hc
        obtain ⟨c0, hc0, rfl⟩ := hc
        exact rd_norm1 h (hr i c0 v hc0 hv)
      split
      · rename_i ds hds
        have e := toDs_get hds
        refine .d _ _ (.agg ds vs ?_ h1 (fun i c v hc hv => ?_))
        · have := congrArg List.length e
          simp at this; omega
        · have hk := key i (.d c) v (by rw [e]; simp [hc]) hv
          cases hk; assumption
      · exact .agg _ _ (by simpa using hl) h1 key
  · exact rd_norm1 h hr

/-- The cells of a value. -/
def cellsOf : C → List C
  | .d (.agg ds) => ds.map .d
  | .agg cs => cs
  | c => [c]

def mkD (agg : Bool) (cs : List D) : Option C := if agg then some (.d (.agg cs)) else match cs with | [x] => some (.d x) | _ => none

end Go.Abs

/- The plain-data layer, part 3: what an operation that leaves the world alone yields. -/
namespace Go.Abs

def D.cell : D → Bool
  | .agg _ => false
  | _ => true

def C.cell : C → Bool
  | .top | .agg _ | .tup _ => false
  | .d x => x.cell
  | _ => true

theorem RdD.oneCell {w : World} {S : Nat → Nat → Prop} {x : D} {v : Value} (hx : x.cell = true) (h : RdD w S x v) : v.oneCell' = true := by
  cases h <;> first | rfl | simp [D.cell] at hx

theorem Rd.oneCell {E : Env} {c : C} {v : Value} (hc : c.cell = true) (h : Rd E c v) : v.oneCell' = true := by
  cases h with
  | top => simp [C.cell] at hc
  | d x v hd => exact hd.oneCell (by simpa [C.cell] using hc)
  | own r q v hr h1 hq hv => exact h1
  | agg => simp [C.cell] at hc
  | tup => simp [C.cell] at hc
  | _ => rfl

/-- What 'field' takes of a struct value. -/
def vcPart (P : Program) (cs : List C) (o : Nat) (u : TypeId) (K : C → Prop) : Prop :=
  match tAgg P u, tSize P u with
  | some true, some n => o + n ≤ cs.length ∧ K (.agg ((cs.drop o).take n))
  | some false, some _ => o < cs.length ∧ K (cs.getD o .top)
  | _, _ => False

def vcPartD (P : Program) (cs : List D) (o : Nat) (u : TypeId) (K : C → Prop) : Prop :=
  match tAgg P u, tSize P u with
  | some true, some n => o + n ≤ cs.length ∧ K (.d (.agg ((cs.drop o).take n)))
  | some false, some _ => o < cs.length ∧ K (.d (cs.getD o (.bool false)))
  | _, _ => False

def vcLoad (P : Program) (s : St) (t : TypeId) (p : C) (K : C → Prop) : Prop :=
  match p with
  | .cptr cs =>
    match tAgg P t, tSize P t with
    | some true, some n => cs.length = n ∧ K (.d (.agg cs))
    | some false, some _ => cs.length = 1 ∧ K (.d (cs.getD 0 (.bool false)))
    | _, _ => False
  | .ptr r off =>
    match s.H[r]? with
    | some (.box cs) => vcPart P cs off t K
    | _ => False
  | .eptr r z i off =>
    match s.H[r]? with
    | some (.row z' _ xs) => z = z' ∧ i < xs.length ∧ vcPartD P (xs.getD i []) off t K
    | _ => False
  | _ => False

def vcFieldAddr (P : Program) (t : TypeId) (f : Nat) (p : C) (K : C → Prop) : Prop :=
  match tField P t f with
  | some (o, u) =>
    match tSize P u with
    | some n => n ≠ 0 ∧
      (match p with
      | .cptr cs => o + n ≤ cs.length ∧ K (.cptr ((cs.drop o).take n))
      | .ptr r off => K (.ptr r (off + o))
      | .eptr r z i off => K (.eptr r z i (off + o))
      | .tptr r q z i off => K (.tptr r q z i (off + o))
      | _ => False)
    | _ => False
  | _ => False

def vcField (P : Program) (s : St) (t : TypeId) (f : Nat) (x : C) (K : C → Prop) : Prop :=
  match tField P t f with
  | some (o, u) =>
    match norm s x with
    | .d (.agg cs) => vcPartD P cs o u K
    | .agg cs => vcPart P cs o u K
    | _ => False
  | _ => False

/-- What is at place i meets Q. -/
def idx {α : Type} (l : List α) (i : Nat) (Q : α → Prop) : Prop := ∀ x, l[i]? = some x → Q x

theorem idx_of {α : Type} {l : List α} {i : Nat} {x : α} (h : l[i]? = some x) (Q : α → Prop) : idx l i Q = Q x := by
  unfold idx; rw [h]; simp
theorem idx_map {α β : Type} (f : α → β) (l : List α) (i : Nat) (Q : β → Prop) : idx (l.map f) i Q = idx l i (fun x => Q (f x)) := by
  unfold idx
  apply propext
  constructor
  · intro h x hx; exact h (f x) (by simp [hx])
  · intro h x hx
    rw [List.getElem?_map, Option.map_eq_some_iff] at hx
    obtain ⟨y, hy, rfl⟩ := hx
    exact h y hy
theorem idx_zero {α : Type} (a : α) (l : List α) (Q : α → Prop) : idx (a :: l) 0 Q = Q a := idx_of (by simp) Q
theorem idx_succ {α : Type} (a : α) (l : List α) (i : Nat) (Q : α → Prop) : idx (a :: l) (i + 1) Q = idx l i Q := by
  unfold idx; simp
theorem idx_intro {α : Type} {l : List α} {i : Nat} {Q : α → Prop} (h : ∀ x, l[i]? = some x → Q x) : idx l i Q := h

/-- All elements are of the slice type's size. -/
def eltLen (P : Program) (t : TypeId) (l : List (List D)) : Prop :=
  match (tElem P t).bind (tSize P) with
  | some z => ∀ x, x ∈ l → x.length = z
  | none => False

theorem eltLen.out {P : Program} {t : TypeId} {l : List (List D)} (h : eltLen P t l) : ∃ e z, tElem P t = some e ∧ tSize P e = some z ∧ ∀ x, x ∈ l → x.length = z := by
  unfold eltLen at h
  cases he : tElem P t with
  | none => simp [he] at h
  | some e =>
    cases hz : tSize P e with
    | none => simp [he, hz] at h
    | some z => simp [he, hz] at h; exact ⟨e, z, rfl, hz, h⟩

def vcIndexAddr (P : Program) (s : St) (t : TypeId) (x i : C) (K : C → Prop) : Prop :=
  match i, tElem P t with
  | .d (.int _ m), some e =>
    match tSize P e with
    | some z =>
      (match norm1 s x with
      | .d (.sl xs) => 0 ≤ m ∧ m < xs.length ∧ idx xs m.toNat (fun x => x.length = z ∧ K (.cptr x))
      | .rsl r n => 0 ≤ m ∧ m < n ∧ K (.eptr r z m.toNat 0)
      | .own r q => (match s.H[r]? with
        | some (.tree q' z' _ xs _ _) => q = q' ∧ z = z' ∧ 0 ≤ m ∧ m < xs.length ∧ K (.tptr r q z m.toNat 0)
        | _ => False)
      | _ => False)
    | _ => False
  | _, _ => False

def vcBin (P : Program) (s : St) (op : BinOp) (t : TypeId) (x y : C) (K : C → Prop) : Prop :=
  match norm1 s x, norm1 s y with
  | .d (.int k a), .d (.int k' b) => k = k' ∧
    (match op with
    | .add => K (.d (.int k (k.wrap (a + b))))
    | .sub => K (.d (.int k (k.wrap (a - b))))
    | .mul => K (.d (.int k (k.wrap (a * b))))
    | .quo => b ≠ 0 ∧ K (.d (.int k (k.wrap (a.tdiv b))))
    | .rem => b ≠ 0 ∧ K (.d (.int k (a.tmod b)))
    | .eql => K (.d (.bool (a == b)))
    | .neq => K (.d (.bool (a != b)))
    | .lss => K (.d (.bool (decide (a < b))))
    | .leq => K (.d (.bool (decide (a ≤ b))))
    | .gtr => K (.d (.bool (decide (a > b))))
    | .geq => K (.d (.bool (decide (a ≥ b))))
    | _ => False)
  | .d (.str a), .d (.str b) =>
    (match op with
    | .add => a.length + b.length ≤ maxLen ∧ K (.d (.str (a ++ b)))
    | .eql => K (.d (.bool (a == b)))
    | .neq => K (.d (.bool (!(a == b))))
    | .lss => K (.d (.bool (Op.bytesLess a b)))
    | .leq => K (.d (.bool (Op.bytesLess a b || a == b)))
    | .gtr => K (.d (.bool (!(Op.bytesLess a b || a == b))))
    | .geq => K (.d (.bool (!Op.bytesLess a b)))
    | _ => False)
  | .d (.bool a), .d (.bool b) =>
    (match op with
    | .eql => P.underlying t = some .bool ∧ K (.d (.bool (a == b)))
    | .neq => P.underlying t = some .bool ∧ K (.d (.bool (!(a == b))))
    | _ => False)
  | _, _ => False

def vcSlice (P : Program) (s : St) (t : TypeId) (x : C) (lo hi : Option C) (K : C → Prop) : Prop :=
  match norm1 s x, lo, hi with
  | .d (.str l), some (.d (.int _ a)), some (.d (.int _ b)) => tIsStr P t = true ∧ 0 ≤ a ∧ a ≤ b ∧ b ≤ l.length ∧ K (.d (.str ((l.take b.toNat).drop a.toNat)))
  | .d (.str l), some (.d (.int _ a)), none => tIsStr P t = true ∧ 0 ≤ a ∧ a ≤ l.length ∧ K (.d (.str (l.drop a.toNat)))
  | .d (.str l), none, some (.d (.int _ b)) => tIsStr P t = true ∧ 0 ≤ b ∧ b ≤ l.length ∧ K (.d (.str (l.take b.toNat)))
  | .d (.sl l), some (.d (.int _ a)), some (.d (.int _ b)) => eltLen P t l ∧ 0 ≤ a ∧ a ≤ b ∧ b ≤ l.length ∧ K (.d (.sl ((l.take b.toNat).drop a.toNat)))
  | .d (.sl l), some (.d (.int _ a)), none => eltLen P t l ∧ 0 ≤ a ∧ a ≤ l.length ∧ K (.d (.sl (l.drop a.toNat)))
  | .d (.sl l), none, some (.d (.int _ b)) => eltLen P t l ∧ 0 ≤ b ∧ b ≤ l.length ∧ K (.d (.sl (l.take b.toNat)))
  | _, _, _ => False

def vcLen (P : Program) (s : St) (t : TypeId) (x : C) (K : C → Prop) : Prop :=
  match norm1 s x with
  | .d (.str l) => tIsStr P t = true ∧ K (.d (.int .i64 l.length))
  | .d (.sl l) => tIsSlice P t = true ∧ K (.d (.int .i64 l.length))
  | .rsl _ n => tIsSlice P t = true ∧ K (.d (.int .i64 n))
  | .own r q => (match s.H[r]? with
    | some (.tree q' _ _ xs _ _) => q = q' ∧ tIsSlice P t = true ∧ K (.d (.int .i64 xs.length))
    | _ => False)
  | .map r => (match s.H[r]? with
    | some (.map _ es) => tIsMap P t = true ∧ K (.d (.int .i64 es.length))
    | _ => False)
  | _ => False

def cvD : Value → Option D
  | .int k n => some (.int k n)
  | .bool b => some (.bool b)
  | .string s => some (.str s.data.toList)
  | .slice none 0 0 => some (.sl [])
  | _ => none

def cvDs : List Value → Option (List D)
  | [] => some []
  | v :: r => match cvD v, cvDs r with
    | some d, some l => some (d :: l)
    | _, _ => none

def tZero (P : Program) (t : TypeId) : Option (List Value) := ((P.info? t).bind (·.zero)).bind fun v => if v.cells.all (·.oneCell') then some v.cells.toList else none

def keySort (P : Program) (k : TypeId) : Option Bool := match tInt P k with
  | some .i64 => some false
  | _ => if tIsStr P k then some true else none
/-- A map type's keys (strings or not), and its values' zero. -/
def tMap (P : Program) (t : TypeId) : Option (Bool × D) :=
  match P.underlying t with
  | some (.map k e) => (match keySort P k, ((P.info? e).bind (·.zero)).bind cvD with
    | some sk, some z => some (sk, z)
    | _, _ => none)
  | _ => none
def kEq : D → D → Bool
  | .int _ a, .int _ b => a == b
  | .str a, .str b => a == b
  | _, _ => false
def mget : List (D × D) → D → Option D
  | [], _ => none
  | p :: r, k => if kEq k p.1 then some p.2 else mget r k
def mset : List (D × D) → D → D → List (D × D)
  | [], k, v => [(k, v)]
  | p :: r, k, v => if kEq k p.1 then (p.1, v) :: r else p :: mset r k v

def vcLookup (P : Program) (s : St) (t : TypeId) (x i : C) (ok : Bool) (K : C → Prop) : Prop :=
  match x, i with
  | .map r, .d k =>
    (match s.H[r]?, tMap P t with
    | some (.map sk es), some (sk', zd) => sk = sk' ∧ keyOk sk k = true ∧
      (match ok with
      | true => K (.tup [.d ((mget es k).getD zd), .d (.bool (mget es k).isSome)])
      | false => K (.d ((mget es k).getD zd)))
    | _, _ => False)
  | .d (.fset ks), .d (.int .i64 n) =>
    (match tMap P t with
    | some (false, .bool false) => ok = false ∧ K (.d (.bool (decide (n ∈ ks))))
    | _ => False)
  | _, _ => False

def vcEntry (s : St) (x : C) (K : C → Prop) : Prop :=
  match x with
  | .ptr r 0 =>
    (match s.H[r]? with
    | some (.iter m _ c0 seen) =>
      (match s.H[m]?, seen.getLast? with
      | some (.map _ es), some i => c0 = es.length ∧ idx es i (fun p => K (.tup [.d p.1, .d p.2])) ∧ i < es.length
      | _, _ => False)
    | _ => False)
  | _ => False

/-- A struct's zero value, cell by cell, and its fields' places and sizes. -/
def tBuild (P : Program) (t : TypeId) : Option (List Value × List (Nat × Nat)) :=
  match P.info? t, P.underlying t with
  | some it, some (.struct fields) =>
    match it.zero, fields.toList.mapM (fun f => (P.info? f.type).map fun i => (f.offset, i.size)) with
    | some z, some places => if z.cells.all (·.oneCell') then some (z.cells.toList, places) else none
    | _, _ => none
  | _, _ => none

/-- The value has its cells at hand. -/
def okCells : C → Bool
  | .d (.agg _) | .agg _ => true
  | c => c.cell

def fillA (places : List (Nat × Nat)) (s : St) (K : List C → Prop) : List (Nat × Operand) → List C → Prop
  | [], cs => K cs
  | (i, x) :: r, cs =>
    match places[i]? with
    | some (o, n) => okOperand x = true ∧ okCells (ev s x) = true ∧ (cellsOf (ev s x)).length = n ∧ o + n ≤ cs.length ∧
        fillA places s K r (cs.take o ++ cellsOf (ev s x) ++ cs.drop (o + n))
    | none => False

def kAgg (K : C → Prop) : List C → Prop := fun cs => K (.agg cs)

/-- An operation that leaves the world alone: what it yields goes to K. -/
def vcPure (P : Program) (s : St) (op : Op) (K : C → Prop) : Prop :=
  match op with
  | .move x | .assign x => okOperand x = true ∧ K (ev s x)
  | .pick c x y => okOperand c = true ∧ okOperand x = true ∧ okOperand y = true ∧ (match ev s c with | .d (.bool b) => K (if b then ev s x else ev s y) | _ => False)
  | .load t p => okOperand p = true ∧ vcLoad P s t (ev s p) K
  | .nilCheck x => okOperand x = true ∧ (match ev s x with | .cptr cs => K (.cptr cs) | .ptr r o => K (.ptr r o) | .eptr r z i o => K (.eptr r z i o) | .fn f cs => K (.fn f cs) | _ => False)
  | .fieldAddr t x f => okOperand x = true ∧ vcFieldAddr P t f (ev s x) K
  | .field t x f => okOperand x = true ∧ vcField P s t f (ev s x) K
  | .indexAddr t x i => okOperand x = true ∧ okOperand i = true ∧ vcIndexAddr P s t (ev s x) (ev s i) K
  | .index t x i => okOperand x = true ∧ okOperand i = true ∧ (match ev s x, ev s i with
    | .d (.str l), .d (.int _ m) => tIsStr P t = true ∧ 0 ≤ m ∧ m < l.length ∧ K (.d (.int .u8 (l.getD m.toNat 0).toNat))
    | _, _ => False)
  | .binOp op t x y _ => okOperand x = true ∧ okOperand y = true ∧ vcBin P s op t (ev s x) (ev s y) K
  | .unOp op _ x => okOperand x = true ∧ (match op, ev s x with
    | .not, .d (.bool b) => K (.d (.bool (!b)))
    | .neg, .d (.int k n) => K (.d (.int k (k.wrap (0 - n))))
    | _, _ => False)
  | .slice t x lo hi none => okOperand x = true ∧ (lo.all okOperand) = true ∧ (hi.all okOperand) = true ∧ vcSlice P s t (ev s x) (lo.map (ev s)) (hi.map (ev s)) K
  | .lookup t x i ok => okOperand x = true ∧ okOperand i = true ∧ vcLookup P s t (ev s x) (norm1 s (ev s i)) ok K
  | .entry x => okOperand x = true ∧ vcEntry s (ev s x) K
  | .extract x i => okOperand x = true ∧ (match ev s x with | .tup cs => i < cs.length ∧ K (cs.getD i .top) | _ => False)
  | .makeFunc (.func f) first cap => first = #[] ∧ (cap.all okOperand) = true ∧ K (.fn f (cap.toList.map (ev s)))
  | .convert src dst x => okOperand x = true ∧ (match norm1 s (ev s x) with
    | .d (.int _ n) => (match tInt P dst with | some k => (P.underlying src).isSome = true ∧ K (.d (.int k (k.wrap n))) | none => False)
    | .d (.sl xs) => (match bytesOf xs with | some l => tIsBytes P src = true ∧ tIsStr P dst = true ∧ K (.d (.str (l.map fun n => UInt8.ofNat n.toNat))) | none => False)
    | _ => False)
  | .build t ps => (match tBuild P t with
    | some (z, places) => fillA places s (kAgg K) ps.toList (z.map cv1)
    | none => False)
  | .call c =>
    (match c.callee with
    | .builtin .len => (match c.args.toList, c.argTypes.toList with | [x], [t] => okOperand x = true ∧ vcLen P s t (ev s x) K | _, _ => False)
    | .builtin .max => (match c.args.toList with | [x, y] => okOperand x = true ∧ okOperand y = true ∧ (match ev s x, ev s y with | .d (.int k a), .d (.int k' b) => k = k' ∧ K (.d (.int k (if a < b then b else a))) | _, _ => False) | _ => False)
    | .builtin .min => (match c.args.toList with | [x, y] => okOperand x = true ∧ okOperand y = true ∧ (match ev s x, ev s y with | .d (.int k a), .d (.int k' b) => k = k' ∧ K (.d (.int k (if b < a then b else a))) | _, _ => False) | _ => False)
    | _ => False)
  | _ => False

def Yields (P : Program) (E : Env) (a : Act) (o : Oper) (c : C) : Prop := ∃ v, (execOp a.eval o).run P E.w = .ok (.value v) E.w ∧ Rd E c v

end Go.Abs

/- The plain-data layer, part 4: the operations of part 3 yield what part 3 says. -/
namespace Go.Abs

section
variable {P : Program} {E : Env}

theorem run_load_cptr {b off n : Nat} {cs : List D} {val : Nat → Value} (hn : cs.length = n)
    (hc : ∀ j, j < cs.length → E.S b (off + j) ∧ E.w.cell? ⟨b, off + j, none⟩ = some (val j) ∧ (val j).oneCell' = true)
    (hr : ∀ j c, cs[j]? = some c → RdD E.w E.S c (val j)) :
    ∃ vs : Array Value, (loadCells ⟨b, off, none⟩ n).run P E.w = .ok vs E.w ∧ RdD E.w E.S (.agg cs) (.agg vs) := by
  refine ⟨((List.range n).map val).toArray, run_loadCells E.w _ n val (fun j hj => ?_), .agg _ _ (by simp [hn]) (fun i v hv => ?_) (fun i c v hc' hv => ?_)⟩
  · rw [Addr.add_mk]; exact (hc j (by omega)).2.1
  · simp only [List.getElem?_toArray, List.getElem?_map] at hv
    by_cases hi : i < n
    · rw [List.getElem?_range hi] at hv
      simp only [Option.map_some, Option.some.injEq] at hv
      subst hv; exact (hc i (by omega)).2.2
    · rw [List.getElem?_eq_none (by simpa using hi)] at hv; simp at hv
  · simp only [List.getElem?_toArray, List.getElem?_map] at hv
    by_cases hi : i < n
    · rw [List.getElem?_range hi] at hv
      simp only [Option.map_some, Option.some.injEq] at hv
      subst hv; exact hr i c hc'
    · rw [List.getElem?_eq_none (by simpa using hi)] at hv; simp at hv

theorem run_load_block {b off n : Nat} {arr : Array Value} {e : TypeId} {fz : Nat × Nat} (hb : E.w.heap[b]? = some (.cells arr e fz)) (hn : off + n ≤ arr.size) :
    (loadCells ⟨b, off, none⟩ n).run P E.w = .ok ((List.range n).map fun j => arr.getD (off + j) undef).toArray E.w :=
  run_loadCells E.w _ n _ (fun j hj => by
    rw [Addr.add_mk, cell_of_row _ _ _ _ _ _ hb, Array.getD_eq_getD_getElem?, Array.getElem?_eq_getElem (by omega)]; rfl)

theorem loadVar_agg {t : TypeId} {n : Nat} (h1 : tAgg P t = some true) (h2 : tSize P t = some n) {ad : Addr} {vs : Array Value} (h : (loadCells ad n).run P E.w = .ok vs E.w) :
    (loadVar t ad).run P E.w = .ok (.agg vs) E.w := by
  unfold loadVar
  simp [run_isAgg h1, run_sizeOf h2, h]

theorem loadVar_one {t : TypeId} (h1 : tAgg P t = some false) {ad : Addr} {v : Value} (h : E.w.cell? ad = some v) :
    (loadVar t ad).run P E.w = .ok v E.w := by
  unfold loadVar
  simp [run_isAgg h1, h]



/-- 'K' is met by one form, which the run yields in every world that fits. -/
def Sound (P : Program) (s : St) (K : C → Prop) (run : Act → Sem Value) : Prop :=
  ∃ c, K c ∧ ∀ E n a, RepSt E n s a → ∃ u, (run a).run P E.w = .ok u E.w ∧ Rd E c u

theorem rd_agg_part {cs : List C} {arr : Array Value} {off n : Nat}
    (hr : ∀ (i : Nat) (c : C) (v : Value), cs[i]? = some c → arr[i]? = some v → Rd E c v ∧ v.oneCell' = true) (hs : arr.size = cs.length) (hn : off + n ≤ cs.length) :
    Rd E (.agg ((cs.drop off).take n)) (.agg ((List.range n).map fun j => arr.getD (off + j) undef).toArray) := by
  have hget : ∀ i, i < n → arr[off + i]? = some (arr.getD (off + i) undef) := fun i hi => by
    rw [Array.getD_eq_getD_getElem?, Array.getElem?_eq_getElem (by omega)]; rfl
  refine .agg _ _ (by simp; omega) (fun i v hv => ?_) (fun i c v hc hv => ?_)
  · simp only [List.getElem?_toArray, List.getElem?_map] at hv
    by_cases hi : i < n
    · rw [List.getElem?_range hi] at hv
      simp only [Option.map_some, Option.some.injEq] at hv
      subst hv
      exact (hr (off + i) (cs[off + i]'(by omega)) _ (List.getElem?_eq_getElem _) (hget i hi)).2
    · rw [List.getElem?_eq_none (by simpa using hi)] at hv; simp at hv
  · simp only [List.getElem?_toArray, List.getElem?_map] at hv
    by_cases hi : i < n
    · rw [List.getElem?_range hi] at hv
      simp only [Option.map_some, Option.some.injEq] at hv
      subst hv
      rw [List.getElem?_take, if_pos hi, List.getElem?_drop] at hc
      exact (hr (off + i) c _ hc (hget i hi)).1
    · rw [List.getElem?_eq_none (by simpa using hi)] at hv; simp at hv

theorem load_box {t : TypeId} {cs : List C} {off : Nat} {K : C → Prop} (h : vcPart P cs off t K) :
    ∃ c, K c ∧ ∀ (E : Env) (b : Nat) (arr : Array Value) (e : TypeId), E.w.heap[b]? = some (.cells arr e (0, 0)) → arr.size = cs.length →
      (∀ (i : Nat) (c : C) (v : Value), cs[i]? = some c → arr[i]? = some v → Rd E c v ∧ v.oneCell' = true) →
      ∃ u, (loadVar t ⟨b, off, none⟩).run P E.w = .ok u E.w ∧ Rd E c u := by
  unfold vcPart at h
  split at h
  · rename_i n h1 h2
    obtain ⟨hn, hk⟩ := h
    exact ⟨_, hk, fun E b arr e hb hs hr => ⟨_, loadVar_agg h1 h2 (run_load_block hb (by omega)), rd_agg_part hr hs hn⟩⟩
  · rename_i n h1 h2
    obtain ⟨hn, hk⟩ := h
    refine ⟨_, hk, fun E b arr e hb hs hr => ⟨arr.getD off undef, loadVar_one h1 ?_, ?_⟩⟩
    · rw [cell_of_row _ _ _ _ _ _ hb, Array.getD_eq_getD_getElem?, Array.getElem?_eq_getElem (by omega)]; rfl
    · refine (hr off _ _ (by rw [List.getD_eq_getElem?_getD, List.getElem?_eq_getElem hn]; rfl) ?_).1
      rw [Array.getD_eq_getD_getElem?, Array.getElem?_eq_getElem (by omega)]; rfl
  · exact h.elim

theorem load_row {t : TypeId} {cs : List D} {off : Nat} {K : C → Prop} (h : vcPartD P cs off t K) :
    ∃ c, K c ∧ ∀ (E : Env) (b o : Nat) (arr : Array Value) (e : TypeId), E.w.heap[b]? = some (.cells arr e (0, 0)) →
      (∀ (j : Nat) (c : D), cs[j]? = some c → ∃ (v : Value), arr[o + j]? = some v ∧ v.oneCell' = true ∧ RdD E.w E.S c v) →
      ∃ u, (loadVar t ⟨b, o + off, none⟩).run P E.w = .ok u E.w ∧ Rd E c u := by
  have hbd : ∀ {E : Env} {o : Nat} {arr : Array Value} {n : Nat}, (∀ (j : Nat) (c : D), cs[j]? = some c → ∃ (v : Value), arr[o + j]? = some v ∧ v.oneCell' = true ∧ RdD E.w E.S c v) → off + n ≤ cs.length → n ≠ 0 → o + off + n ≤ arr.size := by
    intro E o arr n hr hn h0
    obtain ⟨v, hv, _⟩ := hr (off + n - 1) (cs[off + n - 1]'(by omega)) (List.getElem?_eq_getElem _)
    have := (Array.getElem?_eq_some_iff.1 hv).1
    omega
  unfold vcPartD at h
  split at h
  · rename_i n h1 h2
    obtain ⟨hn, hk⟩ := h
    refine ⟨_, hk, fun E b o arr e hb hr => ?_⟩
    by_cases h0 : n = 0
    · subst h0
      refine ⟨_, loadVar_agg h1 h2 (run_loadCells E.w _ 0 (fun _ => undef) (fun j hj => by omega)), .d _ _ (.agg _ _ (by simp) (fun i v hv => by simp at hv) (fun i c v hc hv => by simp at hv))⟩
    · have hsz := hbd hr hn h0
      refine ⟨_, loadVar_agg h1 h2 (run_load_block hb hsz), .d _ _ (.agg _ _ (by simp; omega) (fun i v hv => ?_) (fun i c v hc hv => ?_))⟩
      · simp only [List.getElem?_toArray, List.getElem?_map] at hv
        by_cases hi : i < n
        · rw [List.getElem?_range hi] at hv
          simp only [Option.map_some, Option.some.injEq] at hv
          subst hv
          obtain ⟨v, hv, h1, h2⟩ := hr (off + i) (cs[off + i]'(by omega)) (List.getElem?_eq_getElem _)
          rw [Array.getD_eq_getD_getElem?, show o + off + i = o + (off + i) by omega, hv]; exact h1
        · rw [List.getElem?_eq_none (by simpa using hi)] at hv; simp at hv
      · simp only [List.getElem?_toArray, List.getElem?_map] at hv
        by_cases hi : i < n
        · rw [List.getElem?_range hi] at hv
          simp only [Option.map_some, Option.some.injEq] at hv
          subst hv
          rw [List.getElem?_take, if_pos hi, List.getElem?_drop] at hc
          obtain ⟨v, hv, h1, h2⟩ := hr (off + i) c hc
          rw [Array.getD_eq_getD_getElem?, show o + off + i = o + (off + i) by omega, hv]; exact h2
        · rw [List.getElem?_eq_none (by simpa using hi)] at hv; simp at hv
  · rename_i n h1 h2
    obtain ⟨hn, hk⟩ := h
    refine ⟨_, hk, fun E b o arr e hb hr => ?_⟩
    obtain ⟨v, hv, h3, h4⟩ := hr off (cs[off]'hn) (List.getElem?_eq_getElem _)
    refine ⟨v, loadVar_one h1 (by rw [cell_of_row _ _ _ _ _ _ hb, hv]), .d _ _ ?_⟩
    rw [List.getD_eq_getElem?_getD, List.getElem?_eq_getElem hn]; exact h4
  · exact h.elim

theorem load_sound {s : St} {t : TypeId} {x : Operand} {K : C → Prop} (hx : okOperand x = true) (h : vcLoad P s t (ev s x) K) :
    Sound P s K fun a => Instr.loadAt t (a.eval x) := by
  unfold vcLoad at h
  split at h
  · rename_i cs hp
    split at h
    · rename_i n h1 h2
      obtain ⟨hn, hk⟩ := h
      refine ⟨_, hk, fun E n' a hst => ?_⟩
      have hv := rd_ev hst x hx
      rw [hp] at hv
      dsimp only
      generalize a.eval x = v at hv ⊢
      cases hv with
      | cptr b off cs val hc hr =>
        obtain ⟨vs, h3, h4⟩ := run_load_cptr (P := P) hn hc hr
        exact ⟨_, by simp [Instr.loadAt, Instr.sureAddr, loadVar_agg h1 h2 h3], .d _ _ h4⟩
    · rename_i n h1 h2
      obtain ⟨hn, hk⟩ := h
      refine ⟨_, hk, fun E n' a hst => ?_⟩
      have hv := rd_ev hst x hx
      rw [hp] at hv
      dsimp only
      generalize a.eval x = v at hv ⊢
      cases hv with
      | cptr b off cs val hc hr =>
        obtain ⟨_, h3, h4⟩ := hc 0 (by omega)
        refine ⟨val 0, by simp only [Instr.loadAt, Instr.sureAddr, Sem.run_bind, Sem.run_pure, Result.andThen_ok]; exact loadVar_one h1 (by simpa using h3), .d _ _ (hr 0 _ ?_)⟩
        rw [List.getD_eq_getElem?_getD, List.getElem?_eq_getElem (by omega)]; rfl
    · exact h.elim
  · rename_i r off hp
    split at h
    · rename_i cs ho
      obtain ⟨c, hk, hall⟩ := load_box h
      refine ⟨c, hk, fun E n' a hst => ?_⟩
      have hv := rd_ev hst x hx
      rw [hp] at hv
      dsimp only
      generalize a.eval x = v at hv ⊢
      cases hv with
      | ptr r off hr =>
        obtain ⟨arr, e, h1, h2, h3, _⟩ := hst.heap.obj _ _ ho
        obtain ⟨u, h4, h5⟩ := hall E _ arr e h1 h2 h3
        exact ⟨u, by simpa [Instr.loadAt, Instr.sureAddr] using h4, h5⟩
    · exact h.elim
  · rename_i r z i off hp
    split at h
    · rename_i z' e xs ho
      obtain ⟨rfl, hi, h⟩ := h
      obtain ⟨c, hk, hall⟩ := load_row h
      refine ⟨c, hk, fun E n' a hst => ?_⟩
      have hv := rd_ev hst x hx
      rw [hp] at hv
      dsimp only
      generalize a.eval x = v at hv ⊢
      cases hv with
      | eptr _ _ _ _ hr =>
        obtain ⟨arr, h1, h2, h3, h3', h4, _⟩ := hst.heap.obj _ _ ho
        obtain ⟨u, h5, h6⟩ := hall E _ (i * z) arr e h1 (fun j c hj => h4 i j _ c (by rw [List.getD_eq_getElem?_getD, List.getElem?_eq_getElem hi]; rfl) hj)
        exact ⟨u, by simpa [Instr.loadAt, Instr.sureAddr] using h5, h6⟩
    · exact h.elim
  · exact h.elim

theorem fieldAddr_sound {s : St} {t : TypeId} {f : Nat} {x : Operand} {K : C → Prop} (hx : okOperand x = true) (h : vcFieldAddr P t f (ev s x) K) :
    Sound P s K fun a => Instr.fieldAt t (a.eval x) f := by
  unfold vcFieldAddr at h
  split at h
  · rename_i o u hf
    obtain ⟨fs, fd, hu, hfs, rfl, rfl⟩ := und_of_tField hf
    split at h
    · rename_i n hn
      obtain ⟨h0, h⟩ := h
      have hrun : ∀ (w : World) (b off : Nat), (Instr.fieldAt t (.pointer (some ⟨b, off, none⟩)) f).run P w = .ok (.pointer (some ⟨b, off + fd.offset, none⟩)) w := by
        intro w b off
        simp [Instr.fieldAt, run_underlying hu, hfs, Instr.sureAddr, fieldPlace, run_sizeOf hn, h0, Addr.add_mk]
      split at h
      · rename_i cs hp
        obtain ⟨hle, hk⟩ := h
        refine ⟨_, hk, fun E n' a hst => ?_⟩
        have hv := rd_ev hst x hx
        rw [hp] at hv
        dsimp only
        generalize a.eval x = v at hv ⊢
        cases hv with
        | cptr b off cs val hc hr =>
          refine ⟨_, hrun _ _ _, .cptr b (off + fd.offset) _ (fun j => val (fd.offset + j)) (fun j hj => ?_) (fun j c hj => ?_)⟩
          · simp at hj
            rw [Nat.add_assoc]; exact hc _ (by omega)
          · rw [List.getElem?_take] at hj
            split at hj
            · rw [List.getElem?_drop] at hj; exact hr _ _ hj
            · simp at hj
      · rename_i r off hp
        refine ⟨_, h, fun E n' a hst => ?_⟩
        have hv := rd_ev hst x hx
        rw [hp] at hv
        dsimp only
        generalize a.eval x = v at hv ⊢
        cases hv with
        | ptr r off hr => exact ⟨_, hrun _ _ _, .ptr _ _ hr⟩
      · rename_i r z i off hp
        refine ⟨_, h, fun E n' a hst => ?_⟩
        have hv := rd_ev hst x hx
        rw [hp] at hv
        dsimp only
        generalize a.eval x = v at hv ⊢
        cases hv with
        | eptr _ _ _ _ hr =>
          refine ⟨_, hrun _ _ _, ?_⟩
          rw [Nat.add_assoc]; exact .eptr _ _ _ _ hr
      · rename_i r q z i off hp
        refine ⟨_, h, fun E n' a hst => ?_⟩
        have hv := rd_ev hst x hx
        rw [hp] at hv
        dsimp only
        generalize a.eval x = v at hv ⊢
        cases hv with
        | tptr _ _ _ _ _ b hr hq hv =>
          refine ⟨_, hrun _ _ _, ?_⟩
          rw [Nat.add_assoc]; exact .tptr _ _ _ _ _ _ hr hq hv
      · exact h.elim
    · exact h.elim
  · exact h.elim

theorem part_sound {cs : List C} {o : Nat} {u : TypeId} {K : C → Prop} (h : vcPart P cs o u K) :
    ∃ c, K c ∧ ∀ (E : Env) (vs : Array Value), vs.size = cs.length → (∀ (i : Nat) (v : Value), vs[i]? = some v → v.oneCell' = true) → (∀ (i : Nat) (c : C) (v : Value), cs[i]? = some c → vs[i]? = some v → Rd E c v) →
      ∃ x, (part u vs o).run P E.w = .ok x E.w ∧ Rd E c x := by
  unfold vcPart at h
  split at h
  · rename_i n h1 h2
    obtain ⟨hn, hk⟩ := h
    refine ⟨_, hk, fun E vs hl h3 hr => ⟨.agg (vs.extract o (o + n)), by simp [part, run_isAgg h1, run_sizeOf h2], .agg _ _ (by simp; omega) (fun i v hv => ?_) (fun i c v hc hv => ?_)⟩⟩
    · rw [Array.getElem?_extract] at hv
      split at hv
      · exact h3 _ _ hv
      · simp at hv
    · rw [Array.getElem?_extract] at hv
      split at hv
      · rw [List.getElem?_take] at hc
        split at hc
        · rw [List.getElem?_drop] at hc; exact hr _ _ _ hc hv
        · simp at hc
      · simp at hv
  · rename_i n h1 h2
    obtain ⟨hn, hk⟩ := h
    refine ⟨_, hk, fun E vs hl h3 hr => ?_⟩
    have hv : vs[o]? = some (vs[o]'(by omega)) := Array.getElem?_eq_getElem _
    refine ⟨vs[o]'(by omega), by simp [part, run_isAgg h1, hv], hr o _ _ ?_ hv⟩
    rw [List.getD_eq_getElem?_getD, List.getElem?_eq_getElem hn]; rfl
  · exact h.elim

theorem partD_sound {cs : List D} {o : Nat} {u : TypeId} {K : C → Prop} (h : vcPartD P cs o u K) :
    ∃ c, K c ∧ ∀ (E : Env) (vs : Array Value), vs.size = cs.length → (∀ (i : Nat) (v : Value), vs[i]? = some v → v.oneCell' = true) → (∀ (i : Nat) (c : D) (v : Value), cs[i]? = some c → vs[i]? = some v → RdD E.w E.S c v) →
      ∃ x, (part u vs o).run P E.w = .ok x E.w ∧ Rd E c x := by
  unfold vcPartD at h
  split at h
  · rename_i n h1 h2
    obtain ⟨hn, hk⟩ := h
    refine ⟨_, hk, fun E vs hl h3 hr => ⟨.agg (vs.extract o (o + n)), by simp [part, run_isAgg h1, run_sizeOf h2], .d _ _ (.agg _ _ (by simp; omega) (fun i v hv => ?_) (fun i c v hc hv => ?_))⟩⟩
    · rw [Array.getElem?_extract] at hv
      split at hv
      · exact h3 _ _ hv
      · simp at hv
    · rw [Array.getElem?_extract] at hv
      split at hv
      · rw [List.getElem?_take] at hc
        split at hc
        · rw [List.getElem?_drop] at hc; exact hr _ _ _ hc hv
        · simp at hc
      · simp at hv
  · rename_i n h1 h2
    obtain ⟨hn, hk⟩ := h
    refine ⟨_, hk, fun E vs hl h3 hr => ?_⟩
    have hv : vs[o]? = some (vs[o]'(by omega)) := Array.getElem?_eq_getElem _
    refine ⟨vs[o]'(by omega), by simp [part, run_isAgg h1, hv], .d _ _ (hr o _ _ ?_ hv)⟩
    rw [List.getD_eq_getElem?_getD, List.getElem?_eq_getElem hn]; rfl
  · exact h.elim

theorem field_sound {s : St} {t : TypeId} {f : Nat} {x : Operand} {K : C → Prop} (hx : okOperand x = true) (h : vcField P s t f (ev s x) K) :
    Sound P s K fun a => Instr.field t (a.eval x) f := by
  unfold vcField at h
  split at h
  · rename_i o u hf
    obtain ⟨fs, fd, hu, hfs, rfl, rfl⟩ := und_of_tField hf
    split at h
    · rename_i cs hp
      obtain ⟨c, hk, hall⟩ := partD_sound h
      refine ⟨c, hk, fun E n' a hst => ?_⟩
      have hv := rd_norm hst (rd_ev hst x hx)
      rw [hp] at hv
      dsimp only
      generalize a.eval x = v at hv ⊢
      cases hv with
      | d _ _ hd =>
        cases hd with
        | agg _ vs hl h1 hr =>
          obtain ⟨y, h2, h3⟩ := hall E vs hl h1 hr
          exact ⟨y, by simp [Instr.field, run_underlying hu, hfs, asAgg, h2], h3⟩
    · rename_i cs hp
      obtain ⟨c, hk, hall⟩ := part_sound h
      refine ⟨c, hk, fun E n' a hst => ?_⟩
      have hv := rd_norm hst (rd_ev hst x hx)
      rw [hp] at hv
      dsimp only
      generalize a.eval x = v at hv ⊢
      cases hv with
      | agg _ vs hl h1 hr =>
        obtain ⟨y, h2, h3⟩ := hall E vs hl h1 hr
        exact ⟨y, by simp [Instr.field, run_underlying hu, hfs, asAgg, h2], h3⟩
    · exact h.elim
  · exact h.elim

end
end Go.Abs

/- The plain-data layer, part 5: the rest of the operations that leave the world alone. -/
namespace Go.Abs

section
variable {P : Program} {E : Env}

theorem indexAddr_sound {s : St} {t : TypeId} {x i : Operand} {K : C → Prop} (hx : okOperand x = true) (hi : okOperand i = true) (h : vcIndexAddr P s t (ev s x) (ev s i) K) :
    Sound P s K fun a => Instr.indexAt t (a.eval x) (a.eval i) := by
  unfold vcIndexAddr at h
  split at h
  · rename_i k m e hpi he
    split at h
    · rename_i z hz
      have hu := und_of_tElem he
      split at h
      · rename_i xs hp
        obtain ⟨h0, h1, hall⟩ := h
        have hm : m.toNat < xs.length := by omega
        obtain ⟨h2, hk⟩ := hall xs[m.toNat] (List.getElem?_eq_getElem hm)
        refine ⟨_, hk, fun E n' a hst => ?_⟩
        have hvi := rd_ev hst i hi
        have hv := rd_norm1 hst (rd_ev hst x hx)
        rw [hp] at hv
        rw [hpi] at hvi
        dsimp only
        generalize a.eval x = v at hv ⊢
        generalize a.eval i = vi at hvi ⊢
        cases hvi with
        | d _ _ hd =>
          cases hd
          cases hv with
          | d _ _ hd =>
            cases hd with
            | nil => simp at hm
            | sl b off cap z' _ val hne hcap hmax hzz hc hr =>
              have hzz' : z' = z := by rw [← h2]; exact (hzz _ (List.getElem_mem _)).symm
              subst hzz'
              refine ⟨.pointer (some ⟨b, off + m.toNat * z', none⟩), ?_, .cptr b (off + m.toNat * z') _ (fun j => val m.toNat j) (fun j hj => ?_) (fun j c hj => ?_)⟩
              · simp [Instr.indexAt, asIntOf, run_underlying hu, h0, h1, run_sizeOf hz, Addr.add_mk]
              · exact hc _ _ hm (by rw [h2] at hj; exact hj)
              · exact hr _ j _ c (List.getElem?_eq_getElem hm) hj
      · rename_i r n hp
        obtain ⟨h0, h1, hk⟩ := h
        refine ⟨_, hk, fun E n' a hst => ?_⟩
        have hvi := rd_ev hst i hi
        have hv := rd_norm1 hst (rd_ev hst x hx)
        rw [hp] at hv
        rw [hpi] at hvi
        dsimp only
        generalize a.eval x = v at hv ⊢
        generalize a.eval i = vi at hvi ⊢
        cases hvi with
        | d _ _ hd =>
          cases hd
          cases hv with
          | rsl _ _ hr =>
            refine ⟨.pointer (some ⟨E.β r, m.toNat * z + 0, none⟩), ?_, .eptr _ _ _ _ hr⟩
            simp [Instr.indexAt, asIntOf, run_underlying hu, h0, h1, run_sizeOf hz, Addr.add_mk]
      · rename_i r q hp
        split at h
        · rename_i q' z' e' xs B L ho
          obtain ⟨rfl, rfl, h0, h1, hk⟩ := h
          refine ⟨_, hk, fun E n' a hst => ?_⟩
          have hvi := rd_ev hst i hi
          have hv := rd_norm1 hst (rd_ev hst x hx)
          rw [hp] at hv
          rw [hpi] at hvi
          dsimp only
          generalize a.eval x = v at hv ⊢
          generalize a.eval i = vi at hvi ⊢
          obtain ⟨g1, g2, g3, g4, g5⟩ := hst.heap.obj r _ ho
          cases hvi with
          | d _ _ hd =>
            cases hd
            cases hv with
            | own _ _ _ hr h1' hq hv =>
              have hv := hv g1.symm
              subst hv
              rcases g5 with ⟨a, g5, rfl⟩ | ⟨b, cap, arr, g5, _⟩
              · simp at h1; omega
              · refine ⟨.pointer (some ⟨b, m.toNat * z + 0, none⟩), ?_, .tptr _ _ _ _ _ b hr hq (fun _ => ⟨_, _, g5⟩)⟩
                simp [g5, Instr.indexAt, asIntOf, run_underlying hu, h0, h1, run_sizeOf hz, Addr.add_mk]
        · exact h.elim
      · exact h.elim
    · exact h.elim
  · exact h.elim

theorem index_sound {s : St} {t : TypeId} {x i : Operand} {K : C → Prop} (hx : okOperand x = true) (hi : okOperand i = true)
    (h : match ev s x, ev s i with
      | .d (.str l), .d (.int _ m) => tIsStr P t = true ∧ 0 ≤ m ∧ m < l.length ∧ K (.d (.int .u8 (l.getD m.toNat 0).toNat))
      | _, _ => False) : Sound P s K fun a => Instr.index t (a.eval x) (a.eval i) := by
  split at h
  · rename_i l k m hp hpi
    obtain ⟨ht, h0, h1, hk⟩ := h
    have hu : P.underlying t = some .string := by
      unfold tIsStr at ht
      split at ht
      · assumption
      · simp at ht
    refine ⟨_, hk, fun E n' a hst => ?_⟩
    have hvi := rd_ev hst i hi
    have hv := rd_ev hst x hx
    rw [hp] at hv
    rw [hpi] at hvi
    dsimp only
    generalize a.eval x = v at hv ⊢
    generalize a.eval i = vi at hvi ⊢
    have hm : m.toNat < l.length := by omega
    cases hvi with
    | d _ _ hd =>
      cases hd
      cases hv with
      | d _ _ hd =>
        cases hd
        refine ⟨_, ?_, .d _ _ (.int _ _)⟩
        have hget : (⟨l.toArray⟩ : ByteArray)[m.toNat]? = some (l.getD m.toNat 0) := by
          rw [ByteArray.getElem?_lt' _ _ (by simpa [ByteArray.size] using hm)]
          congr 1
          rw [List.getD_eq_getElem?_getD, List.getElem?_eq_getElem hm]
          rfl
        simp [Instr.index, asIntOf, run_underlying hu, h0, hget]
  · exact h.elim

theorem run_eql_bool (w : World) {t : TypeId} (h : P.underlying t = some .bool) (a b : Bool) : (Op.equal t (.bool a) (.bool b)).run P w = .ok (a == b) w := by
  show (Op.equalIn (9999 + 1) t (.bool a) (.bool b)).run P w = _
  unfold Op.equalIn
  simp [run_underlying h]

theorem run_bin {o : Oper} {op : BinOp} {t u : TypeId} {x y : Operand} (ho : o.op = .binOp op t x y u) {ρ : Operand → Value} {w : World} {r : Value}
    (hg : (eqGuard op t x y (ρ x) (ρ y)).run P w = .ok () w) (h : (binOp op t (ρ x) (ρ y)).run P w = .ok r w) : (execOp ρ o).run P w = .ok (.value r) w := by
  unfold execOp
  simp only [ho, Sem.run_bind, hg, Result.andThen_ok, h, Sem.run_pure]

theorem guard_int {op : BinOp} {t : TypeId} {x y : Operand} {k : IntKind} {a : Int} {v : Value} {w : World} : (eqGuard op t x y (.int k a) v).run P w = .ok () w := by
  unfold eqGuard
  split <;> rfl
theorem guard_str {op : BinOp} {t : TypeId} {x y : Operand} {a : ByteArray} {v : Value} {w : World} : (eqGuard op t x y (.string a) v).run P w = .ok () w := by
  unfold eqGuard
  split <;> rfl
theorem guard_bool {op : BinOp} {t : TypeId} {x y : Operand} {a : Bool} {v : Value} {w : World} : (eqGuard op t x y (.bool a) v).run P w = .ok () w := by
  unfold eqGuard
  split <;> rfl

theorem str_append (a b : List UInt8) : (⟨a.toArray⟩ : ByteArray) ++ ⟨b.toArray⟩ = ⟨(a ++ b).toArray⟩ := by
  have : ((⟨a.toArray⟩ : ByteArray) ++ ⟨b.toArray⟩).data = (a ++ b).toArray := by simp
  cases h : (⟨a.toArray⟩ : ByteArray) ++ ⟨b.toArray⟩
  rw [h] at this
  simp only at this
  rw [this]

theorem bin_sound {s : St} {o : Oper} {op : BinOp} {t u : TypeId} {x y : Operand} (ho : o.op = .binOp op t x y u) {K : C → Prop} (hx : okOperand x = true) (hy : okOperand y = true) (h : vcBin P s op t (ev s x) (ev s y) K) :
    ∃ c, K c ∧ ∀ E n a, RepSt E n s a → Yields P E a o c := by
  unfold vcBin at h
  split at h
  · rename_i k a k' b hp hq
    obtain ⟨rfl, h⟩ := h
    have key : ∀ r, (∀ w, (binOp op t (.int k a) (.int k b)).run P w = .ok r w) → ∀ c, (∀ E : Env, Rd E c r) → ∀ E n a, RepSt E n s a → Yields P E a o c := by
      intro r hr c hc E n' ac hst
      have hv := rd_norm1 hst (rd_ev hst x hx)
      have hw := rd_norm1 hst (rd_ev hst y hy)
      rw [hp] at hv
      rw [hq] at hw
      cases hv with
      | d _ _ hd =>
        cases hw with
        | d _ _ hd' =>
          generalize e1 : ac.eval x = v at hd
          generalize e2 : ac.eval y = v' at hd'
          cases hd
          cases hd'
          exact ⟨r, run_bin ho (by rw [e1]; exact guard_int) (by rw [e1, e2]; exact hr _), hc E⟩
    cases op <;> simp only at h
    case quo => exact ⟨_, h.2, key (.int k (k.wrap (a.tdiv b))) (fun w => by simp [binOp, Op.intDiv, h.1]) _ (fun E => .d _ _ (.int _ _))⟩
    case rem => exact ⟨_, h.2, key (.int k (a.tmod b)) (fun w => by simp [binOp, Op.intDiv, h.1]) _ (fun E => .d _ _ (.int _ _))⟩
    case add => exact ⟨_, h, key (.int k (k.wrap (a + b))) (fun w => by simp [binOp, Op.intArith]) _ (fun E => .d _ _ (.int _ _))⟩
    case sub => exact ⟨_, h, key (.int k (k.wrap (a - b))) (fun w => by simp [binOp, Op.intArith]) _ (fun E => .d _ _ (.int _ _))⟩
    case mul => exact ⟨_, h, key (.int k (k.wrap (a * b))) (fun w => by simp [binOp, Op.intArith]) _ (fun E => .d _ _ (.int _ _))⟩
    case eql => exact ⟨_, h, key (.bool (a == b)) (fun w => by simp [binOp, Op.intCmp]) _ (fun E => .d _ _ (.bool _))⟩
    case neq => exact ⟨_, h, key (.bool (a != b)) (fun w => by simp [binOp, Op.intCmp]) _ (fun E => .d _ _ (.bool _))⟩
    case lss => exact ⟨_, h, key (.bool (decide (a < b))) (fun w => by simp [binOp, Op.intCmp]) _ (fun E => .d _ _ (.bool _))⟩
    case leq => exact ⟨_, h, key (.bool (decide (a ≤ b))) (fun w => by simp [binOp, Op.intCmp]) _ (fun E => .d _ _ (.bool _))⟩
    case gtr => exact ⟨_, h, key (.bool (decide (a > b))) (fun w => by simp [binOp, Op.intCmp]) _ (fun E => .d _ _ (.bool _))⟩
    case geq => exact ⟨_, h, key (.bool (decide (a ≥ b))) (fun w => by simp [binOp, Op.intCmp]) _ (fun E => .d _ _ (.bool _))⟩
    all_goals exact h.elim
  · rename_i a b hp hq
    have key : ∀ r, (∀ w, (binOp op t (.string ⟨a.toArray⟩) (.string ⟨b.toArray⟩)).run P w = .ok r w) → ∀ c, (∀ E : Env, Rd E c r) → ∀ E n a, RepSt E n s a → Yields P E a o c := by
      intro r hr c hc E n' ac hst
      have hv := rd_norm1 hst (rd_ev hst x hx)
      have hw := rd_norm1 hst (rd_ev hst y hy)
      rw [hp] at hv
      rw [hq] at hw
      cases hv with
      | d _ _ hd =>
        cases hw with
        | d _ _ hd' =>
          generalize e1 : ac.eval x = v at hd
          generalize e2 : ac.eval y = v' at hd'
          cases hd
          cases hd'
          exact ⟨r, run_bin ho (by rw [e1]; exact guard_str) (by rw [e1, e2]; exact hr _), hc E⟩
    cases op <;> simp only at h
    case add =>
      refine ⟨_, h.2, key (.string ⟨(a ++ b).toArray⟩) (fun w => ?_) _ (fun E => .d _ _ (.str _))⟩
      have hl : ¬ (((⟨a.toArray⟩ : ByteArray).size + (⟨b.toArray⟩ : ByteArray).size : Nat) : Int) > IntKind.i64.max := by
        have h1 := h.1
        simp only [maxLen] at h1
        have hmax : IntKind.i64.max = 9223372036854775807 := by decide
        rw [hmax]
        simp only [ByteArray.size, List.size_toArray]
        omega
      simp only [binOp, Op.stringOp, if_neg hl, str_append]
      rfl
    case eql => exact ⟨_, h, key (.bool (a == b)) (fun w => by simp [binOp, Op.stringOp]) _ (fun E => .d _ _ (.bool _))⟩
    case neq => exact ⟨_, h, key (.bool (!(a == b))) (fun w => by simp [binOp, Op.stringOp]) _ (fun E => .d _ _ (.bool _))⟩
    case lss => exact ⟨_, h, key (.bool (Op.bytesLess a b)) (fun w => by simp [binOp, Op.stringOp]) _ (fun E => .d _ _ (.bool _))⟩
    case leq => exact ⟨_, h, key (.bool (Op.bytesLess a b || a == b)) (fun w => by simp [binOp, Op.stringOp]) _ (fun E => .d _ _ (.bool _))⟩
    case gtr => exact ⟨_, h, key (.bool (!(Op.bytesLess a b || a == b))) (fun w => by simp [binOp, Op.stringOp]) _ (fun E => .d _ _ (.bool _))⟩
    case geq => exact ⟨_, h, key (.bool (!Op.bytesLess a b)) (fun w => by simp [binOp, Op.stringOp]) _ (fun E => .d _ _ (.bool _))⟩
    all_goals exact h.elim
  · rename_i a b hp hq
    have key : ∀ r, (∀ w, (binOp op t (.bool a) (.bool b)).run P w = .ok r w) → ∀ c, (∀ E : Env, Rd E c r) → ∀ E n a, RepSt E n s a → Yields P E a o c := by
      intro r hr c hc E n' ac hst
      have hv := rd_norm1 hst (rd_ev hst x hx)
      have hw := rd_norm1 hst (rd_ev hst y hy)
      rw [hp] at hv
      rw [hq] at hw
      cases hv with
      | d _ _ hd =>
        cases hw with
        | d _ _ hd' =>
          generalize e1 : ac.eval x = v at hd
          generalize e2 : ac.eval y = v' at hd'
          cases hd
          cases hd'
          exact ⟨r, run_bin ho (by rw [e1]; exact guard_bool) (by rw [e1, e2]; exact hr _), hc E⟩
    cases op <;> simp only at h
    case eql => exact ⟨_, h.2, key (.bool (a == b)) (fun w => by simp [binOp, run_eql_bool w h.1]) _ (fun E => .d _ _ (.bool _))⟩
    case neq => exact ⟨_, h.2, key (.bool (!(a == b))) (fun w => by simp [binOp, run_eql_bool w h.1]) _ (fun E => .d _ _ (.bool _))⟩
    all_goals exact h.elim
  · exact h.elim

theorem len_sound {s : St} {t ty : TypeId} {x : Operand} {K : C → Prop} (hx : okOperand x = true) (h : vcLen P s t (ev s x) K) :
    Sound P s K fun a => Builtin.len_ #[t] ty #[a.eval x] := by
  unfold vcLen at h
  split at h
  · rename_i l hp
    obtain ⟨ht, hk⟩ := h
    have hu : P.underlying t = some .string := by
      unfold tIsStr at ht
      split at ht
      · assumption
      · simp at ht
    refine ⟨_, hk, fun E n' a hst => ?_⟩
    have hv := rd_norm1 hst (rd_ev hst x hx)
    rw [hp] at hv
    dsimp only
    generalize a.eval x = v at hv ⊢
    cases hv with
    | d _ _ hd =>
      cases hd
      refine ⟨.int .i64 l.length, ?_, .d _ _ (.int _ _)⟩
      rw [run_len_string _ _ _ _ hu]
      simp [goInt, ByteArray.size]
  · rename_i l hp
    obtain ⟨ht, hk⟩ := h
    obtain ⟨e, hu⟩ : ∃ e, P.underlying t = some (.slice e) := by
      unfold tIsSlice at ht
      split at ht
      · exact ⟨_, by assumption⟩
      · simp at ht
    refine ⟨_, hk, fun E n' a hst => ?_⟩
    have hv := rd_norm1 hst (rd_ev hst x hx)
    rw [hp] at hv
    dsimp only
    generalize a.eval x = v at hv ⊢
    cases hv with
    | d _ _ hd =>
      cases hd with
      | nil a' cap => exact ⟨.int .i64 0, by simp [Builtin.len_, run_underlying hu, goInt], .d _ _ (.int _ _)⟩
      | sl b off cap z _ val => exact ⟨.int .i64 l.length, by simp [Builtin.len_, run_underlying hu, goInt], .d _ _ (.int _ _)⟩
  · rename_i r n hp
    obtain ⟨ht, hk⟩ := h
    obtain ⟨e, hu⟩ : ∃ e, P.underlying t = some (.slice e) := by
      unfold tIsSlice at ht
      split at ht
      · exact ⟨_, by assumption⟩
      · simp at ht
    refine ⟨_, hk, fun E n' a hst => ?_⟩
    have hv := rd_norm1 hst (rd_ev hst x hx)
    rw [hp] at hv
    dsimp only
    generalize a.eval x = v at hv ⊢
    cases hv with
    | rsl _ _ hr => exact ⟨.int .i64 n, by simp [Builtin.len_, run_underlying hu, goInt], .d _ _ (.int _ _)⟩
  · rename_i r q hp
    split at h
    · rename_i q' z' e' xs B L ho
      obtain ⟨rfl, ht, hk⟩ := h
      obtain ⟨e, hu⟩ : ∃ e, P.underlying t = some (.slice e) := by
        unfold tIsSlice at ht
        split at ht
        · exact ⟨_, by assumption⟩
        · simp at ht
      refine ⟨_, hk, fun E n' a hst => ?_⟩
      have hv := rd_norm1 hst (rd_ev hst x hx)
      rw [hp] at hv
      dsimp only
      generalize a.eval x = v at hv ⊢
      obtain ⟨g1, g2, g3, g4, g5⟩ := hst.heap.obj r _ ho
      cases hv with
      | own _ _ _ hr h1' hq hv =>
        have hv := hv g1.symm
        subst hv
        refine ⟨.int .i64 xs.length, ?_, .d _ _ (.int _ _)⟩
        rcases g5 with ⟨a, g5, rfl⟩ | ⟨b, cap, arr, g5, _⟩ <;> simp [g5, Builtin.len_, run_underlying hu, goInt]
    · exact h.elim
  · rename_i r hp
    split at h
    · rename_i sk es ho
      obtain ⟨ht, hk⟩ := h
      obtain ⟨k, e, hu⟩ : ∃ k e, P.underlying t = some (.map k e) := by
        unfold tIsMap at ht
        split at ht
        · exact ⟨_, _, by assumption⟩
        · simp at ht
      refine ⟨_, hk, fun E n' a hst => ?_⟩
      have hv := rd_norm1 hst (rd_ev hst x hx)
      rw [hp] at hv
      dsimp only
      generalize a.eval x = v at hv ⊢
      cases hv with
      | map _ hr =>
        obtain ⟨arr, h1, h2, _⟩ := hst.heap.obj r _ ho
        exact ⟨.int .i64 es.length, by simp [Builtin.len_, run_underlying hu, getObj, Sem.run, h1, goInt, h2], .d _ _ (.int _ _)⟩
    · exact h.elim
  · exact h.elim

end
end Go.Abs

/- The plain-data layer, part 6: slicing, struct literals, and part 3's operations together. -/
namespace Go.Abs

section
variable {P : Program} {E : Env}

theorem run_slice_str {t : TypeId} (hu : P.underlying t = some .string) (w : World) (l : List UInt8) (a b : Nat) (h1 : a ≤ b) (h2 : b ≤ l.length) (k k' : IntKind) :
    (Instr.sliceAt t (.string ⟨l.toArray⟩) (some (.int k a)) (some (.int k' b)) none).run P w = .ok (.string ⟨((l.take b).drop a).toArray⟩) w ∧
    (Instr.sliceAt t (.string ⟨l.toArray⟩) (some (.int k a)) none none).run P w = .ok (.string ⟨(l.drop a).toArray⟩) w ∧
    (Instr.sliceAt t (.string ⟨l.toArray⟩) none (some (.int k' b)) none).run P w = .ok (.string ⟨(l.take b).toArray⟩) w := by
  have hx : ∀ a b, (⟨l.toArray⟩ : ByteArray).extract a b = ⟨((l.take b).drop a).toArray⟩ := by
    intro a b
    have : ((⟨l.toArray⟩ : ByteArray).extract a b).data = ((l.take b).drop a).toArray := by
      rw [ByteArray.data_extract]
      apply Array.ext'
      simp [List.drop_take]
    cases h : (⟨l.toArray⟩ : ByteArray).extract a b
    rw [h] at this
    simp only at this
    rw [this]
  have hs : (⟨l.toArray⟩ : ByteArray).size = l.length := by simp [ByteArray.size]
  refine ⟨?_, ?_, ?_⟩
  · simp [Instr.sliceAt, run_underlying hu, Instr.slice, Instr.sliceBounds, Instr.sliceBound, asIntOf, hs, hx, h1, h2]
  · have : a ≤ l.length := by omega
    simp [Instr.sliceAt, run_underlying hu, Instr.slice, Instr.sliceBounds, Instr.sliceBound, asIntOf, hs, hx, this]
  · simp [Instr.sliceAt, run_underlying hu, Instr.slice, Instr.sliceBounds, Instr.sliceBound, asIntOf, hs, hx, h2]

theorem run_slice_sl {t e : TypeId} {z : Nat} (hu : P.underlying t = some (.slice e)) (hz : tSize P e = some z) (w : World) (ad : Option Addr) (len cap : Nat) (a b : Nat) (h1 : a ≤ b) (h2 : b ≤ len) (h3 : len ≤ cap) (k k' : IntKind) :
    (Instr.sliceAt t (.slice ad len cap) (some (.int k a)) (some (.int k' b)) none).run P w = .ok (.slice (if cap = a then ad else ad.map (·.add (a * z))) (b - a) (cap - a)) w ∧
    (Instr.sliceAt t (.slice ad len cap) (some (.int k a)) none none).run P w = .ok (.slice (if cap = a then ad else ad.map (·.add (a * z))) (len - a) (cap - a)) w ∧
    (Instr.sliceAt t (.slice ad len cap) none (some (.int k' b)) none).run P w = .ok (.slice (if cap = 0 then ad else ad.map (·.add (0 * z))) (b - 0) (cap - 0)) w := by
  have hb : b ≤ cap := by omega
  refine ⟨?_, ?_, ?_⟩
  · simp [Instr.sliceAt, run_underlying hu, Instr.slice, Instr.sliceBounds, Instr.sliceBound, asIntOf, run_sizeOf hz, h1, hb]
  · have : a ≤ len := by omega
    simp [Instr.sliceAt, run_underlying hu, Instr.slice, Instr.sliceBounds, Instr.sliceBound, asIntOf, run_sizeOf hz, this]
  · simp [Instr.sliceAt, run_underlying hu, Instr.slice, Instr.sliceBounds, Instr.sliceBound, asIntOf, run_sizeOf hz, hb]

/-- A part of a slice reads as the part of the list. -/
theorem rdD_sub {w : World} {S : Nat → Nat → Prop} {l : List (List D)} {z : Nat} (hz : ∀ x, x ∈ l → x.length = z) {ad : Option Addr} {len cap a b : Nat} (h1 : a ≤ b) (h2 : b ≤ l.length)
    (h : RdD w S (.sl l) (.slice ad len cap)) : len = l.length ∧ l.length ≤ cap + l.length ∧ (len ≤ cap ∨ l = []) ∧ RdD w S (.sl ((l.take b).drop a)) (.slice (if cap = a then ad else ad.map (·.add (a * z))) (b - a) (cap - a)) := by
  cases h with
  | nil =>
    simp at h2
    refine ⟨rfl, by omega, .inr rfl, ?_⟩
    have : b - a = 0 := by omega
    simp only [List.take_nil, List.drop_nil, this]
    exact .nil _ _
  | sl b0 off _ z' _ val hne hcap hmax hzz hc hr =>
    have hzz' : z' = z := by
      cases l with
      | nil => exact absurd rfl hne
      | cons x r => rw [← hzz x (by simp), hz x (by simp)]
    subst hzz'
    refine ⟨rfl, by omega, .inl hcap, ?_⟩
    by_cases he : a = b
    · subst he
      have e1 : (l.take a).drop a = [] := List.drop_eq_nil_of_le (by simp; omega)
      rw [e1, Nat.sub_self]
      exact .nil _ _
    · have hlt : a < b := by omega
      have hlen : ((l.take b).drop a).length = b - a := by simp; omega
      have hca : ¬ cap = a := by omega
      rw [if_neg hca, Option.map_some, Addr.add_mk, ← hlen]
      have hgx : ∀ (i : Nat) (x : List D), ((l.take b).drop a)[i]? = some x → l[a + i]? = some x := by
        intro i x hi
        rw [List.getElem?_drop, List.getElem?_take] at hi
        split at hi
        · exact hi
        · simp at hi
      refine .sl b0 (off + a * z') (cap - a) z' _ (fun i j => val (a + i) j) (fun e => ?_) (by rw [hlen]; omega) (by omega) (fun x hx => ?_) (fun i j hi hj => ?_) (fun i j x c hi hj => ?_)
      · rw [e] at hlen; simp at hlen; omega
      · obtain ⟨i, hi⟩ := List.mem_iff_getElem?.1 hx
        exact hz x (List.mem_of_getElem? (hgx i x hi))
      · rw [hlen] at hi
        have := hc (a + i) j (by omega) hj
        rw [Nat.add_mul] at this
        rw [show off + a * z' + i * z' + j = off + (a * z' + i * z') + j by omega]
        exact this
      · exact hr (a + i) j x c (hgx i x hi) hj

theorem slice_sound {s : St} {t : TypeId} {x : Operand} {lo hi : Option Operand} {K : C → Prop} (hx : okOperand x = true) (hlo : lo.all okOperand = true) (hhi : hi.all okOperand = true)
    (h : vcSlice P s t (ev s x) (lo.map (ev s)) (hi.map (ev s)) K) : Sound P s K fun a => Instr.sliceAt t (a.eval x) (lo.map a.eval) (hi.map a.eval) none := by
  have isStr : tIsStr P t = true → P.underlying t = some .string := fun ht => by
    unfold tIsStr at ht
    split at ht
    · assumption
    · simp at ht
  have opd : ∀ {E : Env} {n : Nat} {a : Act} {y : Option Operand} {k : IntKind} {m : Int}, RepSt E n s a → y.all okOperand = true → y.map (ev s) = some (.d (.int k m)) → y.map a.eval = some (.int k m) := by
    intro E n a y k m hst hy he
    cases y with
    | none => simp at he
    | some y =>
      have := rd_ev hst y (by simpa using hy)
      simp only [Option.map_some, Option.some.injEq] at he ⊢
      rw [he] at this
      generalize a.eval y = v at this
      cases this with
      | d _ _ hd => cases hd; rfl
  have opn : ∀ {a : Act} {y : Option Operand}, y.map (ev s) = none → y.map a.eval = none := by
    intro a y he
    cases y with
    | none => rfl
    | some y => simp at he
  unfold vcSlice at h
  split at h
  · rename_i l k a k' b hp hlo' hhi'
    obtain ⟨ht, h0, h1, h2, hk⟩ := h
    refine ⟨_, hk, fun E n ac hst => ?_⟩
    have hv := rd_norm1 hst (rd_ev hst x hx)
    rw [hp] at hv
    dsimp only
    rw [opd hst hlo hlo', opd hst hhi hhi']
    generalize ac.eval x = v at hv ⊢
    cases hv with
    | d _ _ hd =>
      cases hd
      have := (run_slice_str (isStr ht) E.w l a.toNat b.toNat (by omega) (by omega) k k').1
      rw [Int.toNat_of_nonneg h0, Int.toNat_of_nonneg (by omega)] at this
      exact ⟨_, this, .d _ _ (.str _)⟩
  · rename_i l k a hp hlo' hhi'
    obtain ⟨ht, h0, h1, hk⟩ := h
    refine ⟨_, hk, fun E n ac hst => ?_⟩
    have hv := rd_norm1 hst (rd_ev hst x hx)
    rw [hp] at hv
    dsimp only
    rw [opd hst hlo hlo', opn hhi']
    generalize ac.eval x = v at hv ⊢
    cases hv with
    | d _ _ hd =>
      cases hd
      have := (run_slice_str (isStr ht) E.w l a.toNat l.length (by omega) (by omega) k k).2.1
      rw [Int.toNat_of_nonneg h0] at this
      exact ⟨_, this, .d _ _ (.str _)⟩
  · rename_i l k b hp hlo' hhi'
    obtain ⟨ht, h0, h1, hk⟩ := h
    refine ⟨_, hk, fun E n ac hst => ?_⟩
    have hv := rd_norm1 hst (rd_ev hst x hx)
    rw [hp] at hv
    dsimp only
    rw [opn hlo', opd hst hhi hhi']
    generalize ac.eval x = v at hv ⊢
    cases hv with
    | d _ _ hd =>
      cases hd
      have := (run_slice_str (isStr ht) E.w l 0 b.toNat (by omega) (by omega) k k).2.2
      rw [Int.toNat_of_nonneg h0] at this
      exact ⟨_, this, .d _ _ (.str _)⟩
  · rename_i l k a k' b hp hlo' hhi'
    obtain ⟨hel, h0, h1, h2, hk⟩ := h
    obtain ⟨e, z, he, hz, hlz⟩ := hel.out
    refine ⟨_, hk, fun E n ac hst => ?_⟩
    have hv := rd_norm1 hst (rd_ev hst x hx)
    rw [hp] at hv
    dsimp only
    rw [opd hst hlo hlo', opd hst hhi hhi']
    generalize ac.eval x = v at hv ⊢
    cases hv with
    | d _ _ hd =>
      obtain ⟨ad, len, cap, rfl⟩ : ∃ ad len cap, v = .slice ad len cap := by cases hd <;> exact ⟨_, _, _, rfl⟩
      obtain ⟨h3, _, h4, h5⟩ := rdD_sub hlz (a := a.toNat) (b := b.toNat) (by omega) (by omega) hd
      subst h3
      have hcl : l.length ≤ cap := by
        rcases h4 with h4 | rfl
        · exact h4
        · simp
      have := (run_slice_sl (und_of_tElem he) hz E.w ad l.length cap a.toNat b.toNat (by omega) (by omega) hcl k k').1
      rw [Int.toNat_of_nonneg h0, Int.toNat_of_nonneg (by omega)] at this
      exact ⟨_, this, .d _ _ h5⟩
  · rename_i l k a hp hlo' hhi'
    obtain ⟨hel, h0, h1, hk⟩ := h
    obtain ⟨e, z, he, hz, hlz⟩ := hel.out
    refine ⟨_, hk, fun E n ac hst => ?_⟩
    have hv := rd_norm1 hst (rd_ev hst x hx)
    rw [hp] at hv
    dsimp only
    rw [opd hst hlo hlo', opn hhi']
    generalize ac.eval x = v at hv ⊢
    cases hv with
    | d _ _ hd =>
      obtain ⟨ad, len, cap, rfl⟩ : ∃ ad len cap, v = .slice ad len cap := by cases hd <;> exact ⟨_, _, _, rfl⟩
      obtain ⟨h3, _, h4, h5⟩ := rdD_sub hlz (a := a.toNat) (b := l.length) (by omega) (by omega) hd
      subst h3
      have hcl : l.length ≤ cap := by
        rcases h4 with h4 | rfl
        · exact h4
        · simp
      have := (run_slice_sl (und_of_tElem he) hz E.w ad l.length cap a.toNat l.length (by omega) (by omega) hcl k k).2.1
      rw [Int.toNat_of_nonneg h0] at this
      rw [List.take_of_length_le (Nat.le_refl _)] at h5
      exact ⟨_, this, .d _ _ h5⟩
  · rename_i l k b hp hlo' hhi'
    obtain ⟨hel, h0, h1, hk⟩ := h
    obtain ⟨e, z, he, hz, hlz⟩ := hel.out
    refine ⟨_, hk, fun E n ac hst => ?_⟩
    have hv := rd_norm1 hst (rd_ev hst x hx)
    rw [hp] at hv
    dsimp only
    rw [opn hlo', opd hst hhi hhi']
    generalize ac.eval x = v at hv ⊢
    cases hv with
    | d _ _ hd =>
      obtain ⟨ad, len, cap, rfl⟩ : ∃ ad len cap, v = .slice ad len cap := by cases hd <;> exact ⟨_, _, _, rfl⟩
      obtain ⟨h3, _, h4, h5⟩ := rdD_sub hlz (a := 0) (b := b.toNat) (by omega) (by omega) hd
      subst h3
      have hcl : l.length ≤ cap := by
        rcases h4 with h4 | rfl
        · exact h4
        · simp
      have := (run_slice_sl (und_of_tElem he) hz E.w ad l.length cap 0 b.toNat (by omega) (by omega) hcl k k).2.2
      rw [Int.toNat_of_nonneg h0] at this
      exact ⟨_, this, .d _ _ h5⟩
  · exact h.elim

end
end Go.Abs

/- The plain-data layer: maps, their keys and values plain cells. -/
set_option linter.unusedVariables false
set_option linter.unusedSimpArgs false
namespace Go.Abs

theorem keyOk_inv {sk : Bool} {d : D} (h : keyOk sk d = true) : (sk = true ∧ ∃ s, d = .str s) ∨ (sk = false ∧ ∃ n, d = .int .i64 n) := by
  cases sk <;> cases d <;> simp [keyOk] at h ⊢
  rename_i k n
  cases k <;> simp [keyOk] at h ⊢

theorem sameNow_of {w : World} {S : Nat → Nat → Prop} {sk : Bool} {desc : TypeDesc} (hd : desc = if sk then .string else .int .i64) {k x : D} {kv xv : Value}
    (hk : keyOk sk k = true) (hx : keyOk sk x = true) (rk : RdD w S k kv) (rx : RdD w S x xv) : Instr.sameNow desc kv xv = some (kEq k x) := by
  rcases keyOk_inv hk with ⟨rfl, s, rfl⟩ | ⟨rfl, n, rfl⟩
  · rcases keyOk_inv hx with ⟨_, s', rfl⟩ | ⟨h, _⟩
    · cases rk; cases rx
      subst hd
      simp only [Instr.sameNow, kEq, if_true]
      congr 1
      show (s.toArray == s'.toArray) = _
      simp
    · cases h
  · rcases keyOk_inv hx with ⟨h, _⟩ | ⟨_, n', rfl⟩
    · cases h
    · cases rk; cases rx
      subst hd
      simp [Instr.sameNow, kEq]

/-- Where a key lies. -/
def mfind : List (D × D) → D → Option Nat
  | [], _ => none
  | p :: r, k => if kEq k p.1 then some 0 else (mfind r k).map (· + 1)

theorem mget_of : ∀ (es : List (D × D)) (k : D), mget es k = (mfind es k).bind fun j => (es[j]?).map (·.2)
  | [], _ => rfl
  | p :: r, k => by
    simp only [mget, mfind]
    split
    · simp
    · rw [mget_of r k]
      cases mfind r k <;> simp
theorem mset_none : ∀ (es : List (D × D)) (k v : D), mfind es k = none → mset es k v = es ++ [(k, v)]
  | [], _, _, _ => rfl
  | p :: r, k, v, h => by
    simp only [mfind] at h
    split at h
    · cases h
    · rename_i hk
      simp only [mset, hk, if_false, Bool.false_eq_true, List.cons_append]
      rw [mset_none r k v (by simpa using h)]
theorem mset_some : ∀ (es : List (D × D)) (k v : D) (j : Nat), mfind es k = some j → ∃ p, es[j]? = some p ∧ mset es k v = es.set j (p.1, v)
  | [], _, _, _, h => by simp [mfind] at h
  | p :: r, k, v, j, h => by
    simp only [mfind] at h
    split at h
    · rename_i hk
      cases h
      exact ⟨p, rfl, by simp [mset, hk]⟩
    · rename_i hk
      obtain ⟨j', hj, rfl⟩ := Option.map_eq_some_iff.1 h
      obtain ⟨q, h1, h2⟩ := mset_some r k v j' hj
      exact ⟨q, by simpa using h1, by simp [mset, hk, h2]⟩
theorem findNow_of {w : World} {S : Nat → Nat → Prop} {sk : Bool} {desc : TypeDesc} (hd : desc = if sk then .string else .int .i64) {k : D} {kv : Value} (hk : keyOk sk k = true) (rk : RdD w S k kv) :
    ∀ (es : List (D × D)) (ms : List MapEntry) (n : Nat), es.length = ms.length → (∀ (i : Nat) (x : D × D) (m : MapEntry), es[i]? = some x → ms[i]? = some m → keyOk sk x.1 = true ∧ RdD w S x.1 m.key) →
      (mfind es k = none ∧ Instr.findNow desc kv ms n = some none) ∨ (∃ j p m, mfind es k = some j ∧ es[j]? = some p ∧ ms[j]? = some m ∧ Instr.findNow desc kv ms n = some (some (n + j, m.val)))
  | [], [], n, _, _ => .inl ⟨rfl, rfl⟩
  | [], _ :: _, _, h, _ => by simp at h
  | _ :: _, [], _, h, _ => by simp at h
  | x :: es, m :: ms, n, hl, hr => by
    obtain ⟨h1, h2⟩ := hr 0 x m rfl rfl
    have hs := sameNow_of hd hk h1 rk h2
    unfold Instr.findNow mfind
    rw [hs]
    cases he : kEq k x.1 with
    | true => exact .inr ⟨0, x, m, by simp, rfl, rfl, rfl⟩
    | false =>
      simp only [Bool.false_eq_true, if_false]
      rcases findNow_of hd hk rk es ms (n + 1) (by simpa using hl) (fun i x m hx hm => hr (i + 1) x m (by simpa using hx) (by simpa using hm)) with ⟨a, b⟩ | ⟨j, p, m', a, b, c, d⟩
      · exact .inl ⟨by simp [a], b⟩
      · exact .inr ⟨j + 1, p, m', by simp [a], by simpa using b, by simpa using c, by rw [d]; congr 3; omega⟩

theorem und_of_tMap {P : Program} {t : TypeId} {sk : Bool} {zd : D} (h : tMap P t = some (sk, zd)) :
    ∃ k e i zv, P.underlying t = some (.map k e) ∧ P.underlying k = some (if sk then .string else .int .i64) ∧ P.info? e = some i ∧ i.zero = some zv ∧ cvD zv = some zd := by
  unfold tMap at h
  split at h
  · rename_i k e hu
    split at h
    · rename_i sk' z hs hz
      cases h
      cases hi : P.info? e with
      | none => simp [hi] at hz
      | some i =>
        cases hzz : i.zero with
        | none => simp [hi, hzz] at hz
        | some zv =>
          simp [hi, hzz] at hz
          refine ⟨k, e, i, zv, hu, ?_, hi, hzz, hz⟩
          unfold keySort at hs
          split at hs
          · rename_i hi; cases hs; simpa using und_of_tInt hi
          · split at hs
            · rename_i hi
              cases hs
              unfold tIsStr at hi
              split at hi
              · rename_i h; simpa using h
              · cases hi
            · cases hs
    · cases h
  · cases h

theorem cvD_rd {v : Value} {d : D} (h : cvD v = some d) (w : World) (S : Nat → Nat → Prop) : RdD w S d v := by
  unfold cvD at h
  split at h <;> cases h
  · exact .int _ _
  · exact .bool _
  · rename_i s
    have : s = ⟨s.data.toList.toArray⟩ := by cases s; simp
    rw [this]; exact .str _
  · exact .nil _ _

theorem run_zeroValue {P : Program} {e : TypeId} {i : TypeInfo} {zv : Value} (hi : P.info? e = some i) (hz : i.zero = some zv) (w : World) : (zeroValue e).run P w = .ok zv w := by
  simp [zeroValue, typeInfo, hi, hz]

theorem run_findKey {P : Program} {w : World} {k : TypeId} {desc : TypeDesc} (hu : P.underlying k = some desc) {kv : Value} {ms : List MapEntry} {r : Option (Nat × Value)} (h : Instr.findNow desc kv ms 0 = some r) :
    (Instr.findKey k kv ms).run P w = .ok r w := by
  simp [Instr.findKey, run_underlying hu, h]

theorem run_checkKey {P : Program} (w : World) (b : Bool) {sk : Bool} {k : TypeId} (hu : P.underlying k = some (if sk then .string else .int .i64)) (v : Value) : (Instr.checkKey b 10000 k v).run P w = .ok () w := by
  show (Instr.checkKey b (9999 + 1) k v).run P w = _
  unfold Instr.checkKey
  cases sk <;> simp at hu <;> simp [run_underlying hu]

theorem mget_fset (n : Int) : ∀ ks : List Int, mget (ks.map fun k => (D.int .i64 k, D.bool true)) (.int .i64 n) = if n ∈ ks then some (.bool true) else none
  | [] => rfl
  | k :: r => by
    simp only [List.map_cons, mget, kEq, mget_fset n r]
    by_cases h : n = k
    · subst h; simp
    · simp [h]

section
variable {P : Program} {E : Env}

theorem lookup_sound {s : St} {t : TypeId} {x i : Operand} {ok : Bool} {K : C → Prop} (hx : okOperand x = true) (hi : okOperand i = true) (h : vcLookup P s t (ev s x) (norm1 s (ev s i)) ok K) :
    Sound P s K fun a => Instr.lookup t (a.eval x) (a.eval i) ok := by
  unfold vcLookup at h
  split at h
  · rename_i r k hpx hpi
    split at h
    · rename_i sk es sk' zd ho hm
      obtain ⟨rfl, hk, hK⟩ := h
      obtain ⟨kt, e, inf, zv, hu, huk, hinf, hzv, hzd⟩ := und_of_tMap hm
      have key : ∀ E n a, RepSt E n s a → ∃ v, (Instr.lookup t (a.eval x) (a.eval i) ok).run P E.w = .ok (if ok then .tuple #[v, .bool (mget es k).isSome] else v) E.w ∧ RdD E.w E.S ((mget es k).getD zd) v := by
        intro E n a hst
        have hv := rd_ev hst x hx
        have hki := rd_norm1 hst (rd_ev hst i hi)
        rw [hpx] at hv
        rw [hpi] at hki
        generalize a.eval x = v at hv ⊢
        generalize a.eval i = kv at hki ⊢
        cases hv with
        | map _ hr =>
          cases hki with
          | d _ _ hd =>
            obtain ⟨arr, h1, h2, h3, h4⟩ := hst.heap.obj r _ ho
            rcases findNow_of (desc := if sk then .string else .int .i64) rfl hk hd es arr.toList 0 (by simpa using h2.symm) (fun i x m hx hm => by
              obtain ⟨a1, a2, _⟩ := h3 i x m hx (by simpa using hm)
              exact ⟨a1, a2⟩) with ⟨e1, e2⟩ | ⟨j, p, m, e1, e2, e3, e4⟩
            · have hg : mget es k = none := by rw [mget_of, e1]; rfl
              refine ⟨zv, ?_, by rw [hg]; exact cvD_rd hzd _ _⟩
              cases ok <;> simp [Instr.lookup, run_underlying hu, MapKept.run_getObj_map h1, run_checkKey E.w _ huk, run_findKey huk e2, run_zeroValue hinf hzv, hg]
            · have hg : mget es k = some p.2 := by rw [mget_of, e1]; simp [e2]
              obtain ⟨_, _, a3, _⟩ := h3 j p m e2 (by simpa using e3)
              refine ⟨m.val, ?_, by rw [hg]; exact a3⟩
              cases ok <;> simp [Instr.lookup, run_underlying hu, MapKept.run_getObj_map h1, run_checkKey E.w _ huk, run_findKey huk e4, hg]
      cases ok with
      | true =>
        refine ⟨_, hK, fun E n a hst => ?_⟩
        obtain ⟨v, h1, h2⟩ := key E n a hst
        refine ⟨_, h1, .tup _ #[v, .bool (mget es k).isSome] rfl (fun i c u hc hu => ?_)⟩
        match i with
        | 0 => simp at hc hu; subst hc hu; exact .d _ _ h2
        | 1 => simp at hc hu; subst hc hu; exact .d _ _ (.bool _)
        | i + 2 => simp at hc
      | false =>
        refine ⟨_, hK, fun E n a hst => ?_⟩
        obtain ⟨v, h1, h2⟩ := key E n a hst
        exact ⟨v, h1, .d _ _ h2⟩
    · exact h.elim
  · rename_i ks n hpx hpi
    split at h
    · rename_i hm
      obtain ⟨rfl, hK⟩ := h
      obtain ⟨kt, e, inf, zv, hu, huk, hinf, hzv, hzd⟩ := und_of_tMap hm
      have hg := mget_fset n ks
      have key : ∀ (E : Env) (v kv : Value), Rd E (.d (.fset ks)) v → Rd E (.d (.int .i64 n)) kv → (Instr.lookup t v kv false).run P E.w = .ok (.bool (decide (n ∈ ks))) E.w := by
        intro E v kv hv hki
        cases hv with
        | d _ _ hd0 =>
        cases hd0 with
        | fset b _ arr hS hh hl he =>
        cases hki with
        | d _ _ hd =>
          rcases findNow_of (desc := .int .i64) (sk := false) rfl rfl hd (ks.map fun k => (D.int .i64 k, D.bool true)) arr.toList 0 (by simpa using hl.symm) (fun i x m hx hm => by
            rw [List.getElem?_map, Option.map_eq_some_iff] at hx
            obtain ⟨k, hk, rfl⟩ := hx
            obtain ⟨a1, _⟩ := he i k m hk (by simpa using hm)
            refine ⟨rfl, ?_⟩
            rw [a1]; exact .int _ _) with ⟨e1, e2⟩ | ⟨j, p, m, e1, e2, e3, e4⟩
          · have hn : ¬ n ∈ ks := fun h => by
              have : mget (ks.map fun k => (D.int .i64 k, D.bool true)) (.int .i64 n) = none := by rw [mget_of, e1]; rfl
              rw [hg, if_pos h] at this; cases this
            have hz : zv = .bool false := by
              unfold cvD at hzd
              split at hzd <;> cases hzd
              rfl
            subst hz
            rw [decide_eq_false hn]
            simp [Instr.lookup, run_underlying hu, MapKept.run_getObj_map hh, run_checkKey (sk := false) E.w _ huk, run_findKey huk e2, run_zeroValue hinf hzv]
          · have hn : n ∈ ks := by
              by_cases h : n ∈ ks
              · exact h
              · have : mget (ks.map fun k => (D.int .i64 k, D.bool true)) (.int .i64 n) = some p.2 := by rw [mget_of, e1, Option.bind_some, e2]; rfl
                rw [hg, if_neg h] at this; cases this
            obtain ⟨k, hk⟩ : ∃ k, ks[j]? = some k := by
              rw [List.getElem?_map, Option.map_eq_some_iff] at e2
              obtain ⟨k, hk, _⟩ := e2; exact ⟨k, hk⟩
            obtain ⟨_, a2⟩ := he j k m hk (by simpa using e3)
            rw [decide_eq_true hn, ← a2]
            simp [Instr.lookup, run_underlying hu, MapKept.run_getObj_map hh, run_checkKey (sk := false) E.w _ huk, run_findKey huk e4]
      refine ⟨_, hK, fun E nn a hst => ?_⟩
      have hv := rd_ev hst x hx
      have hki := rd_norm1 hst (rd_ev hst i hi)
      rw [hpx] at hv
      rw [hpi] at hki
      exact ⟨_, key E _ _ hv hki, .d _ _ (.bool _)⟩
    · exact h.elim
  · exact h.elim

theorem entry_sound {s : St} {x : Operand} {K : C → Prop} (hx : okOperand x = true) (h : vcEntry s (ev s x) K) : Sound P s K fun a => Instr.entry (a.eval x) := by
  unfold vcEntry at h
  split at h
  · rename_i r hpx
    split at h
    · rename_i m since c0 seen ho
      split at h
      · rename_i sk es i hm hl
        obtain ⟨rfl, hK, hi⟩ := h
        have hK' := hK _ (List.getElem?_eq_getElem hi)
        refine ⟨_, hK', fun E n a hst => ?_⟩
        have hv := rd_ev hst x hx
        rw [hpx] at hv
        dsimp only
        generalize a.eval x = v at hv ⊢
        cases hv with
        | ptr _ _ hr =>
          obtain ⟨h0, h1, h2⟩ := hst.heap.obj r _ ho
          obtain ⟨arr, g1, g2, g3, g4⟩ := hst.heap.obj m _ hm
          have hia : i < arr.size := by omega
          obtain ⟨_, a1, a2, _, a3⟩ := g3 i es[i] arr[i] (List.getElem?_eq_getElem hi) (Array.getElem?_eq_getElem hia)
          have hf : arr.find? (fun e => e.born == i) = some arr[i] := by
            rw [Array.find?_eq_some_iff_getElem]
            refine ⟨by simp [a3], i, hia, rfl, fun j hj => ?_⟩
            obtain ⟨_, _, _, _, b3⟩ := g3 j es[j] arr[j] (List.getElem?_eq_getElem (by omega)) (Array.getElem?_eq_getElem (by omega))
            simp [b3]; omega
          have hb : seen.toArray.back? = some i := by simpa using hl
          refine ⟨.tuple #[arr[i].key, arr[i].val], ?_, .tup _ _ rfl (fun j c u hc hu => ?_)⟩
          · have hget : (getObj (E.β r)).run P E.w = .ok (.mapIter (some (E.β m)) since seen.toArray es.length) E.w := by simp [getObj, Sem.run, h1]
            simp [Instr.entry, hget, hb, MapKept.run_getObj_map g1, hf]
          · match j with
            | 0 => simp at hc hu; subst hc hu; exact .d _ _ a1
            | 1 => simp at hc hu; subst hc hu; exact .d _ _ a2
            | j + 2 => simp at hc
      · exact h.elim
    · exact h.elim
  · exact h.elim
end
end Go.Abs
