/- The plain-data layer, part 21: an argument's reading is plain data of the shape that its type says. -/
import Derived.Test.YtkmbaakiliafeaaAbs20
import Derived.ChangeArms
import Derived.DataReads
namespace Go.Abs

inductive Lf where
  | int (k : IntKind)
  | bool
  | str
  | sl (e : TypeId)

def leavesFs (g : TypeId → Option (List Lf)) (P : Program) : Nat → List Field → Option (List Lf)
  | _, [] => some []
  | o, f :: r => if f.offset = o then (match g f.type with
      | some l => if l.length = P.cellsOf f.type then (leavesFs g P (o + l.length) r).map (l ++ ·) else none
      | none => none) else none

/-- The cells of a value of this type, one after another. -/
def leaves (P : Program) : Nat → TypeId → Option (List Lf)
  | 0, _ => none
  | n + 1, t => match P.underlying t with
    | some (.int k) => some [.int k]
    | some .bool => some [.bool]
    | some .string => some [.str]
    | some (.slice e) => some [.sl e]
    | some (.struct fs) => (match leavesFs (leaves P n) P 0 fs.toList with
      | some ls => if ls.length = P.cellsOf t then some ls else none
      | none => none)
    | _ => none

/-- Data of the shape of a cell. -/
inductive ShC (P : Program) : Lf → D → Prop
  | int (k : IntKind) (n : Int) (h : (Lit.int k n).wf = true) : ShC P (.int k) (.int k n)
  | bool (b : Bool) : ShC P .bool (.bool b)
  | str (s : List UInt8) (h : s.length ≤ maxLen) : ShC P .str (.str s)
  | sl (e : TypeId) (xs : List (List D)) (ls : List Lf) (hl : leaves P 6 e = some ls) (hm : xs.length ≤ maxLen) (h1 : ∀ x, x ∈ xs → x.length = ls.length)
      (h2 : ∀ x, x ∈ xs → ∀ (i : Nat) l c, ls[i]? = some l → x[i]? = some c → ShC P l c) : ShC P (.sl e) (.sl xs)

/-- Data of the shape of a type. -/
def Sh (P : Program) (t : TypeId) (x : List D) : Prop := ∃ ls, leaves P 6 t = some ls ∧ x.length = ls.length ∧ ∀ (i : Nat) l c, ls[i]? = some l → x[i]? = some c → ShC P l c

theorem ShC.elems {P : Program} {e : TypeId} {d : D} (h : ShC P (.sl e) d) : ∃ xs, d = .sl xs ∧ xs.length ≤ maxLen ∧ ∀ x, x ∈ xs → Sh P e x := by
  cases h with
  | sl _ xs ls hl hm h1 h2 => exact ⟨xs, rfl, hm, fun x hx => ⟨ls, hl, h1 x hx, h2 x hx⟩⟩

def closedB (P : Program) (L : List TypeId) : Bool :=
  L.all fun e => match leaves P 6 e with
    | some ls => decide (ls.length = P.cellsOf e) && decide (0 < ls.length) && ls.all (fun | .sl e' => L.contains e' | _ => true)
    | none => false

def inL (L : List TypeId) (ls : List Lf) : Bool := ls.all (fun | .sl e' => L.contains e' | _ => true)

section
variable {H : Type} {enc : TypeId × Value → H} {P : Program} {w : World} {base : Nat} {sp : Nat → Bool} {held : Bool} {L : List TypeId}

def Good (P : Program) (w : World) (c : D) (v : Value) (l : Lf) : Prop := RdD w (fun b _ => b < w.heap.size) c v ∧ v.oneCell' = true ∧ ShC P l c

theorem one_good {c : D} {v : Value} {l : Lf} (h : Good P w c v l) : ∃ ds : List D, ds.length = [l].length ∧ [v].length = [l].length ∧ ∀ (i : Nat) c v' l', ds[i]? = some c → [v][i]? = some v' → [l][i]? = some l' → Good P w c v' l' := by
  refine ⟨[c], rfl, rfl, fun i c' v' l' h1 h2 h3 => ?_⟩
  match i with
  | 0 => simp at h1 h2 h3; subst h1 h2 h3; exact h
  | i + 1 => simp at h1

theorem lt_of_cell {a : Addr} {v : Value} (h : w.cell? a = some v) : a.spot = none ∧ a.block < w.heap.size := by
  unfold World.cell? at h
  split at h
  · rename_i hh
    split at h
    · cases h
    · rename_i hs
      exact ⟨by simpa using hs, (Array.getElem?_eq_some_iff.1 hh).1⟩
  · cases h

theorem read_fields {n m : Nat} {cs : List Value}
    (ih : ∀ (t : TypeId) (cs : List Value) (x : DataW H × List MemPlace) (ls : List Lf), DataW.trod enc P w base sp held n t cs = some x → leaves P m t = some ls → inL L ls = true →
      ∃ ds : List D, ds.length = ls.length ∧ cs.length = ls.length ∧ ∀ (i : Nat) c v l, ds[i]? = some c → cs[i]? = some v → ls[i]? = some l → Good P w c v l) :
    ∀ (fs : List Field) (o : Nat) (ls : List Lf), leavesFs (leaves P m) P o fs = some ls → inL L ls = true → cs.length = o + ls.length →
      (∀ f, f ∈ fs → ∃ y, DataW.trod enc P w base sp held n f.type ((cs.drop f.offset).take (P.cellsOf f.type)) = some y) →
      ∃ ds : List D, ds.length = ls.length ∧ ∀ (i : Nat) c v l, ds[i]? = some c → cs[o + i]? = some v → ls[i]? = some l → Good P w c v l
  | [], o, ls, h, _, _, _ => by cases h; exact ⟨[], rfl, fun i c v l h => by simp at h⟩
  | f :: r, o, ls, h, hin, hlen, hall => by
    unfold leavesFs at h
    split at h
    · rename_i ho
      split at h
      · rename_i l0 hl0
        split at h
        · rename_i hsz
          obtain ⟨l1, hl1, rfl⟩ := Option.map_eq_some_iff.1 h
          simp only [inL, List.all_append, Bool.and_eq_true] at hin
          simp only [List.length_append] at hlen
          obtain ⟨y, hy⟩ := hall f (by simp)
          obtain ⟨ds0, e1, e2, e3⟩ := ih _ _ y l0 hy hl0 hin.1
          obtain ⟨ds1, f1, f2⟩ := read_fields ih r (o + l0.length) l1 hl1 hin.2 (by omega) (fun g hg => hall g (by simp [hg]))
          refine ⟨ds0 ++ ds1, by simp [e1, f1], fun i c v l hc hv hl => ?_⟩
          by_cases hi : i < l0.length
          · rw [List.getElem?_append_left (by omega)] at hc hl
            refine e3 i c v l hc ?_ hl
            rw [ho, List.getElem?_take_of_lt (by omega), List.getElem?_drop]
            exact hv
          · rw [List.getElem?_append_right (by omega)] at hc hl
            rw [e1] at hc
            refine f2 (i - l0.length) c v l hc ?_ hl
            rw [← hv]; congr 1; omega
        · cases h
      · cases h
    · cases h

theorem read (hL : closedB P L = true) : ∀ (n m : Nat) (t : TypeId) (cs : List Value) (x : DataW H × List MemPlace) (ls : List Lf), DataW.trod enc P w base sp held n t cs = some x → leaves P m t = some ls → inL L ls = true →
      ∃ ds : List D, ds.length = ls.length ∧ cs.length = ls.length ∧ ∀ (i : Nat) c v l, ds[i]? = some c → cs[i]? = some v → ls[i]? = some l → Good P w c v l
  | 0, _, _, _, _, _, h, _, _ => by simp [DataW.trod] at h
  | n + 1, 0, _, _, _, _, _, h, _ => by simp [leaves] at h
  | n + 1, m + 1, t, cs, x, ls, h, hls, hin => by
    unfold leaves at hls
    split at hls
    · rename_i k hk
      cases hls
      obtain ⟨z, rfl, -, hz⟩ := DataW.trod_int hk h
      exact one_good ⟨.int _ _, rfl, .int _ _ hz⟩
    · rename_i hk
      cases hls
      obtain ⟨b, rfl, -⟩ := DataW.trod_bool hk h
      exact one_good ⟨.bool _, rfl, .bool _⟩
    · rename_i hk
      cases hls
      obtain ⟨s, rfl, -, hs⟩ := DataW.trod_string hk h
      obtain ⟨⟨s⟩⟩ := s
      refine one_good (c := .str s) ⟨.str _, rfl, .str _ ?_⟩
      simpa [ByteArray.size] using hs
    · rename_i e hk
      cases hls
      have he : e ∈ L := by simpa [inL] using hin
      have hcl := (List.all_eq_true.1 hL) e he
      split at hcl
      · rename_i le hle
        simp only [Bool.and_eq_true, decide_eq_true_eq] at hcl
        obtain ⟨⟨hz, hpos⟩, hin'⟩ := hcl
        rcases DataW.trod_slice hk h with ⟨rfl, -⟩ | ⟨a, len, cap, elems, rest, n', hn, rfl, -, hb, hlc, hcm, hel, hall, -, -⟩
        · exact one_good (c := .sl []) ⟨.nil _ _, rfl, .sl _ _ le hle (by simp) (by simp) (by simp)⟩
        · cases hn
          by_cases h0 : len = 0
          · subst h0
            exact one_good (c := .sl []) ⟨.nil _ _, rfl, .sl _ _ le hle (by simp) (by simp) (by simp)⟩
          · have each : ∀ i : Nat, ∃ p : List D × List Value, i < len → p.1.length = le.length ∧ p.2.length = le.length ∧ (∀ j, j < le.length → w.cell? ((a.add (i * P.cellsOf e)).add j) = p.2[j]?) ∧
                ∀ (j : Nat) c v l, p.1[j]? = some c → p.2[j]? = some v → le[j]? = some l → Good P w c v l := by
              intro i
              by_cases hi : i < len
              · have h1 := hall i hi
                have h2 : elems[i]? = some (elems[i]'(by omega)) := List.getElem?_eq_getElem (by omega)
                rw [h2] at h1
                obtain ⟨cs', h3, h4⟩ := Option.bind_eq_some_iff.1 h1
                obtain ⟨ds, g1, g2, g3⟩ := read hL n 6 e cs' _ le h4 hle hin'
                obtain ⟨-, q1, q2⟩ := World.cells?_some h3
                exact ⟨(ds, cs'), fun _ => ⟨g1, g2, fun j hj => q2 j (by omega), g3⟩⟩
              · exact ⟨([], []), fun hh => absurd hh hi⟩
            obtain ⟨F, hF⟩ := Classical.axiomOfChoice each
            obtain ⟨b, off, spot⟩ := a
            have hcell : ∀ i j, i < len → j < le.length → w.cell? (((⟨b, off, spot⟩ : Addr).add (i * P.cellsOf e)).add j) = some ((F i).2.getD j undef) := by
              intro i j hi hj
              obtain ⟨k1, k2, k3, k4⟩ := hF i hi
              rw [k3 j hj, List.getD, List.getElem?_eq_getElem (by omega)]
              rfl
            have hspot : spot = none := (lt_of_cell (by simpa [Addr.add] using hcell 0 0 (by omega) hpos)).1
            subst hspot
            have hadd : ∀ i j, ((⟨b, off, none⟩ : Addr).add (i * P.cellsOf e)).add j = ⟨b, off + i * le.length + j, none⟩ := by
              intro i j
              rw [← hz]
              unfold Addr.add
              split <;> split <;> simp_all
            have hlenR : ((List.range len).map fun i => (F i).1).length = len := by simp
            refine one_good (c := .sl ((List.range len).map fun i => (F i).1)) (v := .slice (some ⟨b, off, none⟩) len cap) ⟨?_, rfl, ?_⟩
            · have := RdD.sl (w := w) (S := fun b _ => b < w.heap.size) b off cap le.length ((List.range len).map fun i => (F i).1) (fun i j => (F i).2.getD j undef) (by intro hc; have := congrArg List.length hc; simp at this; omega) (by omega) hcm
                (by intro x hx; simp only [List.mem_map, List.mem_range] at hx; obtain ⟨i, hi, rfl⟩ := hx; exact (hF i hi).1)
                (by
                  intro i j hi hj
                  have hi : i < len := by omega
                  have hc := hcell i j hi hj
                  rw [hadd] at hc
                  obtain ⟨k1, k2, k3, k4⟩ := hF i hi
                  have hj2 : (F i).2[j]? = some ((F i).2.getD j undef) := by rw [List.getD, List.getElem?_eq_getElem (by omega)]; rfl
                  have hj1 : (F i).1[j]? = some ((F i).1[j]'(by omega)) := List.getElem?_eq_getElem (by omega)
                  exact ⟨(lt_of_cell hc).2, hc, (k4 j _ _ _ hj1 hj2 (List.getElem?_eq_getElem hj)).2.1⟩)
                (by
                  intro i j x c hx hc
                  simp only [List.getElem?_map, Option.map_eq_some_iff] at hx
                  obtain ⟨i', hi', rfl⟩ := hx
                  obtain ⟨hi, rfl⟩ := List.getElem?_eq_some_iff.1 hi'
                  simp only [List.length_range] at hi
                  simp only [List.getElem_range] at hc ⊢
                  obtain ⟨k1, k2, k3, k4⟩ := hF i hi
                  have hj : j < le.length := by have := (List.getElem?_eq_some_iff.1 hc).1; omega
                  have hj2 : (F i).2[j]? = some ((F i).2.getD j undef) := by rw [List.getD, List.getElem?_eq_getElem (by omega)]; rfl
                  exact (k4 j _ _ _ hc hj2 (List.getElem?_eq_getElem hj)).1)
              rwa [hlenR] at this
            · refine .sl e _ le hle (by omega) (fun x hx => ?_) (fun x hx i l c hl hc => ?_)
              · simp only [List.mem_map, List.mem_range] at hx; obtain ⟨i, hi, rfl⟩ := hx; exact (hF i hi).1
              · simp only [List.mem_map, List.mem_range] at hx
                obtain ⟨i', hi, rfl⟩ := hx
                obtain ⟨k1, k2, k3, k4⟩ := hF i' hi
                have hj : i < le.length := (List.getElem?_eq_some_iff.1 hl).1
                have hj2 : (F i').2[i]? = some ((F i').2.getD i undef) := by rw [List.getD, List.getElem?_eq_getElem (by omega)]; rfl
                exact (k4 i _ _ _ hc hj2 hl).2.2
      · cases hcl
    · rename_i fs hk
      split at hls
      · rename_i ls' hfs
        split at hls
        · rename_i hsz
          cases hls
          obtain ⟨xs, n', hn, -, hl, hxl, hall⟩ := DataW.trod_struct hk h
          cases hn
          obtain ⟨ds, g1, g2⟩ := read_fields (cs := cs) (fun t cs x ls h1 h2 h3 => read hL n m t cs x ls h1 h2 h3) fs.toList 0 ls hfs hin (by omega) (by
            intro f hf
            obtain ⟨i, hi⟩ := List.getElem?_of_mem hf
            have := hall i f (by simpa using hi)
            have hi' : i < xs.length := by
              have := (List.getElem?_eq_some_iff.1 hi).1
              simp at this; omega
            exact ⟨xs[i], by rw [this]; exact List.getElem?_eq_getElem hi'⟩)
          exact ⟨ds, g1, by omega, fun i c v l h1 h2 h3 => g2 i c v l h1 (by simpa using h2) h3⟩
        · cases hls
      · cases hls
    · cases hls

end
end Go.Abs
