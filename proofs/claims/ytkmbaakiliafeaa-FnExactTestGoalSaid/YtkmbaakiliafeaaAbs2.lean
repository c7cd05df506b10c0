/- The plain-data layer, part 2: operations that leave the world alone. -/
import Derived.Test.YtkmbaakiliafeaaAbs1
import Derived.Laws.Cells
import Derived.Laws.Tables
namespace Go.Abs

def tAgg (P : Program) (t : TypeId) : Option Bool := (P.underlying t).map fun | .struct _ | .array _ _ => true | _ => false
def tSize (P : Program) (t : TypeId) : Option Nat := (P.info? t).map (·.size)
def tBytes (P : Program) (t : TypeId) : Option Nat := (P.info? t).map (·.bytes)
/-- The element type of a slice type. -/
def tElem (P : Program) (t : TypeId) : Option TypeId := (P.underlying t).bind fun | .slice e => some e | _ => none
/-- Offset and type of a struct's field. -/
def tField (P : Program) (t : TypeId) (f : Nat) : Option (Nat × TypeId) := (P.underlying t).bind fun | .struct fs => (fs[f]?).map fun x => (x.offset, x.type) | _ => none
/-- A slice type's element type, its size in cells and in bytes. -/
def tSlice (P : Program) (t : TypeId) : Option (TypeId × Nat × Nat) :=
  (tElem P t).bind fun e => (P.info? e).bind fun i => i.zero.bind fun zv => if zv.cells.size = i.size ∧ 0 < i.size then some (e, i.size, i.bytes) else none
def tIsStr (P : Program) (t : TypeId) : Bool := match P.underlying t with | some .string => true | _ => false
def tIsSlice (P : Program) (t : TypeId) : Bool := match P.underlying t with | some (.slice _) => true | _ => false
/-- Slices of bytes, and the bytes of a row of such cells. -/
def tIsBytes (P : Program) (t : TypeId) : Bool := match P.underlying t with | some (.slice e) => (match P.underlying e with | some (.int .u8) => true | _ => false) | _ => false
def bytesOf : List (List D) → Option (List Int)
  | [] => some []
  | [.int .u8 n] :: r => (bytesOf r).map (n :: ·)
  | _ :: _ => none
theorem bytesOf_at : ∀ (xs : List (List D)) (l : List Int), bytesOf xs = some l → xs = l.map fun n => [.int .u8 n]
  | [], l, h => by cases h; rfl
  | x :: r, l, h => by
    unfold bytesOf at h
    split at h
    · cases h; rename_i h'; cases h'
    · rename_i n r' heq
      cases heq
      obtain ⟨l', h1, rfl⟩ := Option.map_eq_some_iff.1 h
      rw [bytesOf_at r l' h1]; rfl
    · cases h
def tIsMap (P : Program) (t : TypeId) : Bool := match P.underlying t with | some (.map ..) => true | _ => false
def tInt (P : Program) (t : TypeId) : Option IntKind := (P.underlying t).bind fun | .int k => some k | _ => none

theorem run_isAgg {P : Program} {t : TypeId} {b : Bool} (h : tAgg P t = some b) (w : World) : (isAgg t).run P w = .ok b w := by
  unfold tAgg at h
  cases hu : P.underlying t with
  | none => simp [hu] at h
  | some d =>
    simp only [hu, Option.map_some, Option.some.injEq] at h
    unfold isAgg
    rw [Sem.run_bind, run_underlying hu w]
    subst h
    cases d <;> rfl

theorem run_sizeOf {P : Program} {t : TypeId} {n : Nat} (h : tSize P t = some n) (w : World) : (sizeOf t).run P w = .ok n w := by
  unfold tSize at h
  cases hi : P.info? t with
  | none => simp [hi] at h
  | some i =>
    simp only [hi, Option.map_some, Option.some.injEq] at h
    simp [sizeOf, typeInfo, hi, h]

theorem und_of_tElem {P : Program} {t e : TypeId} (h : tElem P t = some e) : P.underlying t = some (.slice e) := by
  unfold tElem at h
  cases hu : P.underlying t with
  | none => simp [hu] at h
  | some d => cases d <;> simp_all

theorem of_tSlice {P : Program} {t e : TypeId} {z by_ : Nat} (h : tSlice P t = some (e, z, by_)) :
    P.underlying t = some (.slice e) ∧ 0 < z ∧ ∃ i zv, P.info? e = some i ∧ i.zero = some zv ∧ zv.cells.size = z ∧ i.size = z ∧ i.bytes = by_ := by
  unfold tSlice at h
  cases he : tElem P t with
  | none => simp [he] at h
  | some e' =>
    cases hi : P.info? e' with
    | none => simp [he, hi] at h
    | some i =>
      cases hz : i.zero with
      | none => simp [he, hi, hz] at h
      | some zv =>
        simp only [he, hi, hz, Option.bind_some] at h
        split at h
        · rename_i hc
          simp only [Option.some.injEq, Prod.mk.injEq] at h
          obtain ⟨rfl, rfl, rfl⟩ := h
          exact ⟨und_of_tElem he, hc.2, i, zv, hi, hz, hc.1, rfl, rfl⟩
        · simp at h

theorem und_of_tField {P : Program} {t : TypeId} {f o : Nat} {u : TypeId} (h : tField P t f = some (o, u)) : ∃ fs x, P.underlying t = some (.struct fs) ∧ fs[f]? = some x ∧ x.offset = o ∧ x.type = u := by
  unfold tField at h
  cases hu : P.underlying t with
  | none => simp [hu] at h
  | some d =>
    cases d <;> simp [hu] at h
    case struct fs =>
      obtain ⟨x, hx, h1, h2⟩ := h
      exact ⟨fs, x, rfl, hx, h1, h2⟩

theorem und_of_tInt {P : Program} {t : TypeId} {k : IntKind} (h : tInt P t = some k) : P.underlying t = some (.int k) := by
  unfold tInt at h
  cases hu : P.underlying t with
  | none => simp [hu] at h
  | some d => cases d <;> simp_all

theorem Addr.add_mk (b o n : Nat) : Addr.add ⟨b, o, none⟩ n = ⟨b, o + n, none⟩ := by
  unfold Go.Addr.add
  split
  · simp_all
  · rfl

/-! ### Reading an operand -/

def cv1 : Value → C
  | .int k n => .d (.int k n)
  | .bool b => .d (.bool b)
  | .string s => .d (.str s.data.toList)
  | .slice none 0 0 => .nil0
  | .pointer none => .nilp
  | _ => .top

def cv : Value → C
  | .agg cs => .agg (cs.toList.map cv1)
  | v => cv1 v

def ev (s : St) : Operand → C
  | .tmp t => get s.σ t
  | .const v => cv v
  | .func f => .fn f []
  | .global _ => .top

theorem rd_cv1 (E : Env) (v : Value) : Rd E (cv1 v) v := by
  unfold cv1
  split
  · exact .d _ _ (.int _ _)
  · exact .d _ _ (.bool _)
  · rename_i s
    refine .d _ _ ?_
    have : s = ⟨s.data.toList.toArray⟩ := by cases s; simp
    rw [this]; exact .str _
  · exact .nil0 _
  · exact .nilp
  · exact .top _

/-- Constants that are structs hold no structs in a cell. -/
def Value.flat : Value → Bool
  | .agg cs => cs.all fun v => v.oneCell'
  | _ => true

theorem rd_cv (E : Env) (v : Value) (h : Value.flat v = true) : Rd E (cv v) v := by
  unfold cv
  split
  · rename_i cs
    refine .agg _ _ (by simp) (fun i v hv => ?_) (fun i c v hc hv => ?_)
    · simp only [Value.flat, Array.all_eq_true] at h
      obtain ⟨hi, rfl⟩ := Array.getElem?_eq_some_iff.1 hv
      exact h i hi
    · simp only [List.getElem?_map, Array.getElem?_toList, hv, Option.map_some, Option.some.injEq] at hc
      subst hc
      exact rd_cv1 E v
  · exact rd_cv1 E v

def okOperand : Operand → Bool
  | .const v => Value.flat v
  | _ => true

theorem rd_ev {E : Env} {n : Nat} {s : St} {a : Act} (h : RepSt E n s a) (x : Operand) (hx : okOperand x = true) : Rd E (ev s x) (a.eval x) := by
  cases x with
  | tmp t => exact h.slot t
  | const v => exact rd_cv E v hx
  | func f => exact .fn f [] #[] rfl (fun i c v hc => by simp at hc)
  | _=>exact .top _

/-! ### Reference-free forms -/

def toDs : List C → Option (List D)
  | [] => some []
  | .d x :: r => (toDs r).map (x :: ·)
  | _ :: _ => none

theorem toDs_get : ∀ {cs : List C} {ds : List D}, toDs cs = some ds → cs = ds.map .d
  | [], ds, h => by simp [toDs] at h; simp [← h]
  | c :: r, ds, h => by
    cases c <;> simp [toDs] at h
    obtain ⟨l, hl, rfl⟩ := h
    simp [toDs_get hl]

def norm1 (s : St) : C → C
  | .nil0 => .d (.sl [])
  | .own r q => match s.H[r]? with
    | some (.grow q' _ _ xs) => if q = q' then .d (.sl xs) else .top
    | some (.buf ..) => .own r q
    | _ => .top
  | c => c

/-- As data, where it can be read so. -/
def norm (s : St) : C → C
  | .agg cs => match toDs (cs.map (norm1 s)) with
    | some ds => .d (.agg ds)
    | none => .agg (cs.map (norm1 s))
  | c => norm1 s c

theorem rdD_grow {E : Env} {r q z e : Nat} {xs : List (List D)} (h : RepO E r (.grow q z e xs)) : RdD E.w E.S (.sl xs) (E.τ r).2 := by
  obtain ⟨_, hz, hz0, h⟩ := h
  rcases h with ⟨a, h1, rfl⟩ | ⟨b, cap, arr, h1, h2, _, h3, h4, h5, h6, h7⟩
  · rw [h1]; exact .nil _ _
  · rw [h1]
    by_cases hx : xs = []
    · subst hx; exact .nil _ _
    · refine .sl b 0 cap z xs (fun i j => arr.getD (i * z + j) undef) hx h3 h4 hz (fun i j hi hj => ?_) (fun i j x c hi hj => ?_)
      · have hx := hz xs[i] (List.getElem_mem _)
        obtain ⟨k1, v, k2, k3, k4⟩ := h6 i j xs[i] (xs[i][j]'(by omega)) (List.getElem?_eq_getElem hi) (List.getElem?_eq_getElem _)
        refine ⟨by simpa using k1, ?_, ?_⟩
        · simp only [Nat.zero_add]
          rw [cell_of_row _ _ _ _ _ _ h2, k2, Array.getD_eq_getD_getElem?, k2]; rfl
        · rw [Array.getD_eq_getD_getElem?, k2]; exact k3
      · obtain ⟨k1, v, k2, k3, k4⟩ := h6 i j x c hi hj
        rw [Array.getD_eq_getD_getElem?, k2]; exact k4

theorem rd_norm1 {E : Env} {n : Nat} {s : St} {a : Act} (h : RepSt E n s a) {c : C} {v : Value} (hr : Rd E c v) : Rd E (norm1 s c) v := by
  unfold norm1
  split
  · cases hr; exact .d _ _ (.nil _ _)
  · rename_i r q
    split
    · rename_i q' z e xs ho
      split
      · rename_i hq; subst hq
        cases hr with
        | own _ _ _ h1 _ h2 h3 =>
          have hrep := h.heap.obj r _ ho
          have := rdD_grow hrep
          rw [← h3 hrep.1.symm] at this
          exact .d _ _ this
      · exact .top _
    · exact hr
    · exact .top _
  · exact hr

theorem rd_norm {E : Env} {n : Nat} {s : St} {a : Act} (h : RepSt E n s a) {c : C} {v : Value} (hr : Rd E c v) : Rd E (norm s c) v := by
  unfold norm
  split
  · rename_i cs
    cases hr with
    | agg _ vs hl h1 hr =>
      have key : ∀ (i : Nat) c (v : Value), (cs.map (norm1 s))[i]? = some c → vs[i]? = some v → Rd E c v := by
        intro i c v hc hv
        simp only [List.getElem?_map, Option.map_eq_some_iff] at hc
        obtain ⟨c0, hc0, rfl⟩ := hc
        exact rd_norm1 h (hr i c0 v hc0 hv)
      split
      · rename_i ds hds
        have e := toDs_get hds
        refine .d _ _ (.agg ds vs ?_ h1 (fun i c v hc hv => ?_))
        · have := congrArg List.length e
          simp at this; omega
        · have hk := key i (.d c) v (by rw [e]; simp [hc]) hv
          cases hk; assumption
      · exact .agg _ _ (by simpa using hl) h1 key
  · exact rd_norm1 h hr

/-- The cells of a value. -/
def cellsOf : C → List C
  | .d (.agg ds) => ds.map .d
  | .agg cs => cs
  | c => [c]

def mkD (agg : Bool) (cs : List D) : Option C := if agg then some (.d (.agg cs)) else match cs with | [x] => some (.d x) | _ => none

end Go.Abs
