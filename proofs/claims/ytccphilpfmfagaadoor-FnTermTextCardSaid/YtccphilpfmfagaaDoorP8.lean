import Derived.Test.YtccphilpfmfagaaDoorP2
import Derived.Test.YtccphilpfmfagaaDoorA9
import Derived.Lib.ItoaLen
import Derived.Test.YtccphilpfmfagaaDoorP7
set_option linter.unusedVariables false
set_option linter.unusedSimpArgs false
namespace Go.Abs
def dec (n : Int) : List UInt8 := Lib.itoa n
theorem dec_len {n : Int} (h0 : -1000000000 ≤ n) (h1 : n ≤ 1000000000) : (dec n).length ≤ 21 := Lib.itoa_length_le n (by omega) (by omega)
theorem dec_pos {n : Int} (h : 0 ≤ n) : dec n = Lib.decDigits n.toNat := by unfold dec Lib.itoa; rw [if_neg (by omega)]
theorem dec_neg {n : Int} (h : n < 0) : dec n = 45 :: Lib.decDigits n.natAbs := by unfold dec Lib.itoa; rw [if_pos h]
def joinS (by_ : List UInt8) : List (List UInt8) → List UInt8
 | [] => []
 | x :: r => x ++ r.flatMap fun y => by_ ++ y
namespace V
def txs : V → List UInt8 × List UInt8
 | nil => ([40, 41], [41])
 | var n => (63 :: dec n, [32, 46, 32] ++ (63 :: dec n) ++ [41])
 | sym s => (s, [32, 46, 32] ++ s ++ [41])
 | num n => (dec n, [32, 46, 32] ++ dec n ++ [41])
 | pair a b => (40 :: (a.txs.1 ++ b.txs.2), 32 :: (a.txs.1 ++ b.txs.2))
def txt (v : V) : List UInt8 := v.txs.1
def tl (v : V) : List UInt8 := v.txs.2
theorem txt_pair (a b : V) : (pair a b).txt = 40 :: (a.txt ++ b.tl) := rfl
theorem tl_pair (a b : V) : (pair a b).tl = 32 :: (a.txt ++ b.tl) := rfl
theorem tl_nil : nil.tl = [41] := rfl
theorem tl_atom {v : V} (h : v.kind ≠ 4) (h0 : v.kind ≠ 0) : v.tl = [32, 46, 32] ++ v.txt ++ [41] := by
 cases v <;> first | rfl | exact absurd rfl h | exact absurd rfl h0
theorem txs_len : ∀ v : V, v.fine = true → v.txt.length ≤ 26 * v.size ∧ v.tl.length ≤ 26 * v.size ∧ 1 ≤ v.txt.length
 | nil, _ => by simp [txt, tl, txs, size]
 | var n, h => by
  simp [fine] at h
  have := dec_len (n := n) (by omega) (by omega)
  simp [txt, tl, txs, size]; omega
 | sym s, h => by
  have := isName_len (s := s) h
  simp [txt, tl, txs, size]; omega
 | num n, h => by
  simp [fine] at h
  have := dec_len (n := n) (by omega) (by omega)
  have h1 : 1 ≤ (dec n).length := by
   have hd : ∀ u, 1 ≤ (Lib.decDigits u).length := fun u => by rw [Lib.decDigits]; split <;> simp
   by_cases hn : n < 0
   ·rw [dec_neg hn]; simp
   ·rw [dec_pos (by omega)]; exact hd _
  simp [txt, tl, txs, size]; omega
 | pair a b, h => by
  simp [fine] at h
  have h1 := txs_len a h.1
  have h2 := txs_len b h.2
  simp only [txt_pair, tl_pair, List.length_cons, List.length_append, size]
  omega
theorem txt_len {v : V} (h : v.ok = true) : v.txt.length ≤ 130000 := by
 simp [ok] at h
 have := (txs_len v h.1).1
 omega
theorem txt_ne {v : V} (h : v.fine = true) : v.txt ≠ [] := fun e => by have := (txs_len v h).2.2; rw [e] at this; simp at this
end V
def headT (k : Int) : List UInt8 :=
 if k = 0 then [116, 114, 117, 101] else if k = 1 then [102, 97, 105, 108] else if k = 2 then [61] else if k = 3 then [47, 61] else if k = 4 then [115, 121, 109, 98, 111, 108] else
 if k = 5 then [110, 117, 109, 98, 101, 114] else if k = 6 then [97, 98, 115, 101, 110, 116] else if k = 7 then [97, 110, 100] else if k = 8 then [111, 114] else if k = 10 then [110, 111, 116] else []
theorem headT_len (k : Int) : (headT k).length ≤ 6 := by
 unfold headT
 repeat' split
 all_goals decide
mutual
def Gl.txt : Gl → List UInt8
 | .mk k n ts gs => if k ≤ 1 then headT k ++ n else 40 :: (joinS [32] ((headT k ++ n) :: (ts.map (fun t => t.V.txt) ++ Gl.txts gs)) ++ [41])
def Gl.txts : List Gl → List (List UInt8)
 | [] => []
 | g :: r => Gl.txt g :: Gl.txts r
end
theorem Gl.txts_eq : ∀ l : List Gl, Gl.txts l = l.map Gl.txt
 | [] => by simp only [Gl.txts, List.map_nil]
 | g :: r => by simp only [Gl.txts, List.map_cons, Gl.txts_eq r]
def Gl.words (g : Gl) : List (List UInt8) := (headT g.kind ++ g.name) :: (g.terms.map (fun t => t.V.txt) ++ g.goals.map Gl.txt)
theorem Gl.txt_eq (g : Gl) : g.txt = if g.kind ≤ 1 then headT g.kind ++ g.name else 40 :: (joinS [32] g.words ++ [41]) := by
 cases g; simp only [Gl.txt, Gl.txts_eq, Gl.words, Gl.kind, Gl.name, Gl.terms, Gl.goals]; rfl
theorem flat_len (by_ : List UInt8) : ∀ l : List (List UInt8), (l.flatMap fun y => by_ ++ y).length = l.length * by_.length + (l.map List.length).sum
 | [] => by simp
 | x :: r => by
  have := flat_len by_ r
  simp only [List.flatMap_cons, List.length_append, List.length_cons, List.map_cons, List.sum_cons, this, Nat.add_mul]
  omega
theorem sum_le {l : List Nat} {b : Nat} (h : ∀ x, x ∈ l → x ≤ b) : l.sum ≤ l.length * b := by
 induction l with
 | nil => simp
 | cons x r ih =>
  have h1 := h x (by simp)
  have h2 := ih (fun y hy => h y (by simp [hy]))
  simp only [List.sum_cons, List.length_cons, Nat.add_mul]
  omega
theorem Gl.form_sizes {g : Gl} (h : g.form = true) : (g.kind ≠ 9 → g.name = []) ∧ g.name.length ≤ 12 ∧ g.terms.length ≤ 4 ∧ g.goals.length ≤ 8 ∧ 0 ≤ g.kind ∧ g.kind ≤ 10 := by
 rcases Gl.form_inv h with ⟨h1, h2, h3, h4⟩ | h
 ·have : isName g.name = true := by unfold isRel at h2; simp at h2; exact h2.2
  have := isName_len this
  exact ⟨fun h => absurd h1 h, by omega, by omega, by omega, by omega, by omega⟩
 ·have := arityOf_le g.kind
  rcases h with h | h <;> (try rcases h with h | h) <;> (try rcases h with h | h) <;> simp_all <;> omega
theorem joinS_len (by_ : List UInt8) (l : List (List UInt8)) : (joinS by_ l).length ≤ l.length * by_.length + (l.map List.length).sum := by
 cases l with
 | nil => simp [joinS]
 | cons x r =>
  simp only [joinS, List.length_append, flat_len, List.length_cons, List.map_cons, List.sum_cons, Nat.add_mul]
  omega
theorem Gl.cnts_sum : ∀ l : List Gl, Gl.cnts l = (l.map Gl.cnt).sum
 | [] => by simp only [Gl.cnts, List.map_nil, List.sum_nil]
 | g :: r => by simp only [Gl.cnts, List.map_cons, List.sum_cons, Gl.cnts_sum r]
theorem Gl.words_len {g : Gl} (h : g.shape = true) (ih : ∀ x, x ∈ g.goals → x.txt.length + 20 ≤ 600000 * x.cnt) : (joinS [32] g.words).length + 22 ≤ 600000 * g.cnt := by
 rw [Gl.shape_eq] at h
 simp only [Bool.and_eq_true] at h
 obtain ⟨⟨h1, h2⟩, h3⟩ := h
 obtain ⟨_, f2, f3, f4, _, _⟩ := Gl.form_sizes h1
 have hj := joinS_len [32] g.words
 have hh := headT_len g.kind
 have ht : ((g.terms.map fun t => t.V.txt).map List.length).sum ≤ g.terms.length * 130000 := by
  have := sum_le (l := (g.terms.map fun t => t.V.txt).map List.length) (b := 130000) (fun x hx => by
   simp only [List.map_map, List.mem_map, Function.comp_apply] at hx
   obtain ⟨t, ht, rfl⟩ := hx
   obtain ⟨v, e, hv⟩ := tmOk_of (List.all_eq_true.1 h2 t ht)
   have : t.V = v := by
    have hf : v.fine = true := by simp [V.ok] at hv; exact hv.1
    rw [e]; simp [Tm.V, V.v?_tm v hf]
   rw [this]; exact V.txt_len hv)
  simpa using this
 have hg : ((g.goals.map Gl.txt).map List.length).sum + g.goals.length ≤ 600000 * (g.goals.map Gl.cnt).sum := by
  generalize g.goals = l at ih
  induction l with
  | nil => simp
  | cons x r ihr =>
   have a := ih x (by simp)
   have b := ihr (fun y hy => ih y (by simp [hy]))
   simp only [List.map_cons, List.sum_cons, List.length_cons]
   omega
 have hc := Gl.cnt_eq g
 rw [Gl.cnts_sum] at hc
 simp only [Gl.words, List.length_cons, List.length_append, List.length_map, List.map_cons, List.map_append, List.sum_cons, List.sum_append, List.length_nil] at hj ⊢
 omega
theorem Gl.txt_len : ∀ g : Gl, g.shape = true → g.txt.length + 20 ≤ 600000 * g.cnt := by
 intro g
 induction g using Gl.ind' with
 | h g ih =>
  intro h
  have h3 : g.goals.all Gl.shape = true := by rw [Gl.shape_eq] at h; simp only [Bool.and_eq_true] at h; exact h.2
  have hw := Gl.words_len h (fun x hx => ih x hx (List.all_eq_true.1 h3 x hx))
  rw [Gl.txt_eq]
  split
  ·have h1 : g.form = true := by rw [Gl.shape_eq] at h; simp only [Bool.and_eq_true] at h; exact h.1.1
   have := (Gl.form_sizes h1).2.1
   have hh := headT_len g.kind
   have := g.cnt_pos
   rw [List.length_append]
   omega
  ·simp only [List.length_cons, List.length_append, List.length_nil]; omega
end Go.Abs
namespace Go.Abs
def JoinI (by_ : List UInt8) (l r : List (List UInt8)) (acc : List UInt8) : Prop := (r.length = l.length → acc = []) ∧ (r.length < l.length → acc ++ r.flatMap (fun y => by_ ++ y) = joinS by_ l)
theorem joinI_step {by_ : List UInt8} {l r : List (List UInt8)} {x acc : List UInt8} {i : Nat} (hd : l.drop i = x :: r) (h : JoinI by_ l (x :: r) acc) : (i = 0 → acc = [] ∧ JoinI by_ l r x) ∧ (0 < i → JoinI by_ l r (acc ++ by_ ++ x)) := by
 have hl : r.length + 1 = l.length - i := by have := congrArg List.length hd; simp at this; omega
 refine ⟨fun h0 => ?_, fun h0 => ?_⟩
 ·subst h0
  simp at hd
  subst hd
  refine ⟨h.1 rfl, fun e => by simp at e, fun _ => by simp [joinS]⟩
 ·have := h.2 (by simp only [List.length_cons]; omega)
  refine ⟨fun e => by omega, fun _ => ?_⟩
  rw [← this]; simp
theorem joinI_len {by_ : List UInt8} {l r : List (List UInt8)} {x acc : List UInt8} {i : Nat} (hd : l.drop i = x :: r) (h : JoinI by_ l (x :: r) acc) : acc.length + x.length + (if 0 < i then by_.length else 0) ≤ (joinS by_ l).length := by
 obtain ⟨h1, h2⟩ := joinI_step hd h
 have hl : r.length + 1 = l.length - i := by have := congrArg List.length hd; simp at this; omega
 split
 ·rename_i h0
  have := congrArg List.length ((h2 h0).2 (by omega))
  simp only [List.length_append] at this
  omega
 ·obtain ⟨rfl, h3⟩ := h1 (by omega)
  by_cases hr : r.length < l.length
  ·have := congrArg List.length (h3.2 hr)
   simp only [List.length_append] at this
   simp; omega
  ·omega
theorem joinI_end {by_ : List UInt8} {l : List (List UInt8)} {acc : List UInt8} (h : JoinI by_ l [] acc) : acc = joinS by_ l := by
 cases l with
 | nil => exact h.1 rfl
 | cons x r => simpa using h.2 (by simp)
theorem bytesOf_bytesD : ∀ l : List UInt8, bytesOf (bytesD l) = some (l.map fun b => (b.toNat : Int))
 | [] => rfl
 | x :: r => by
  have := bytesOf_bytesD r
  simp only [bytesD, List.map_cons] at this ⊢
  simp only [bytesOf, this, Option.map_some]
theorem bytes_back (l : List UInt8) : (l.map fun b => (b.toNat : Int)).map (fun n => UInt8.ofNat n.toNat) = l := by
 rw [List.map_map]
 conv => rhs; rw [← List.map_id l]
 apply List.map_congr_left
 intro b _
 simp
theorem bytesD_app (a b : List UInt8) : (bytesD a ++ b.map fun b => [D.int .u8 b.toNat]) = bytesD (a ++ b) := by simp [bytesD]
end Go.Abs
set_option linter.unusedSimpArgs false
set_option linter.unusedVariables false
namespace Go.Abs
def Fc.gl (f : Fc) : Gl := .mk 9 f.rel f.args []
def Fc.txt (f : Fc) : List UInt8 := if glOk f.gl = true ∧ f.gl.vars = [] then f.gl.txt else []
end Go.Abs
set_option linter.unusedSimpArgs false
set_option linter.unusedVariables false
namespace Go.Abs
def Rl.hdW (r : Rl) (i : Nat) : List (List UInt8) := r.name :: (List.range i).map fun k : Nat => 63 :: dec k
def Rl.txt (r : Rl) : List UInt8 := [40, 100, 101, 102, 105, 110, 101, 32, 40] ++ joinS [32] (r.hdW r.arity.toNat) ++ [41, 32] ++ r.body.txt ++ [41, 10]
def Pg.txt (p : Pg) : List UInt8 := p.rels.flatMap Rl.txt
theorem Rl.hd_len {r : Rl} (hn : r.name.length ≤ 12) {i : Nat} (hi : i ≤ 4) : (joinS [32] (r.hdW i)).length ≤ 1000 := by
 have h := joinS_len [32] (r.hdW i)
 have hs : (((List.range i).map fun k : Nat => 63 :: dec k).map List.length).sum ≤ i * 23 := by
  have := sum_le (l := ((List.range i).map fun k : Nat => 63 :: dec k).map List.length) (b := 23) (fun x hx => by
   simp only [List.map_map, List.mem_map, Function.comp_apply, List.mem_range] at hx
   obtain ⟨k, hk, rfl⟩ := hx
   have := dec_len (n := (k : Int)) (by omega) (by omega)
   simp only [List.length_cons]; omega)
  simpa using this
 simp only [Rl.hdW, List.length_cons, List.length_map, List.length_range, List.map_cons, List.sum_cons, List.length_nil] at h ⊢
 omega
theorem Rl.txt_len {r : Rl} (hn : r.name.length ≤ 12) (ha : r.arity ≤ 4) (hs : r.body.shape = true) (hc : r.body.cnt ≤ 80) : r.txt.length ≤ 49000000 := by
 have h1 := Rl.hd_len hn (i := r.arity.toNat) (by omega)
 have h2 := Gl.txt_len r.body hs
 simp only [Rl.txt, List.length_append, List.length_cons, List.length_nil]
 omega
theorem relOk_txt {p : Pg} {i : Nat} {r : Rl} (h : p.relOk i r = true) : r.name.length ≤ 12 ∧ 0 ≤ r.arity ∧ r.arity ≤ 4 ∧ r.body.shape = true ∧ r.body.cnt ≤ 80 := by
 unfold Pg.relOk at h
 simp only [Bool.and_eq_true, decide_eq_true_eq] at h
 have h1 : isRel r.name = true := h.1.1.1.1.1.1.2
 have h2 : isName r.name = true := by unfold isRel at h1; simp at h1; exact h1.2
 have := isName_len h2
 have h3 := h.1.1.1.1.1.2
 have h4 := h.1.1.1.2
 exact ⟨by omega, by omega, by omega, h.1.1.2, by omega⟩
theorem flatT_len : ∀ (l : List Rl), (∀ r, r ∈ l → r.txt.length ≤ 49000000) → (l.flatMap Rl.txt).length ≤ 49000000 * l.length
 | [], _ => by simp
 | x :: r, h => by
  have h1 := h x (by simp)
  have h2 := flatT_len r (fun y hy => h y (by simp [hy]))
  simp only [List.flatMap_cons, List.length_append, List.length_cons]
  omega
theorem Pg.txt_len {p : Pg} (h : pgOk p = true) : p.txt.length ≤ 400000000 := by
 unfold pgOk at h
 simp only [Bool.and_eq_true, decide_eq_true_eq] at h
 have := flatT_len p.rels (fun r hr => by
  obtain ⟨i, hi⟩ := okL_mem h.2 r hr
  obtain ⟨a, _, b, c, d⟩ := relOk_txt hi
  exact Rl.txt_len a b c d)
 unfold Pg.txt
 omega
end Go.Abs
set_option linter.unusedVariables false
set_option linter.unusedSimpArgs false
namespace Go.Abs
def grp (l : List (List UInt8)) : List UInt8 := 40 :: (joinS [32] l ++ [41])
theorem grp_len (l : List (List UInt8)) : (grp l).length ≤ 2 + l.length + (l.map List.length).sum := by
 have := joinS_len [32] l
 simp only [grp, List.length_cons, List.length_append, List.length_nil] at this ⊢
 omega
mutual
def Pf.txt : Pf → List UInt8
 | .mk rel cl vals kids => grp (rel :: dec cl :: grp (vals.map fun t => t.V.txt) :: Pf.txts kids)
def Pf.txts : List Pf → List (List UInt8)
 | [] => []
 | k :: r => Pf.txt k :: Pf.txts r
end
theorem Pf.txts_eq : ∀ l : List Pf, Pf.txts l = l.map Pf.txt
 | [] => by simp only [Pf.txts, List.map_nil]
 | g :: r => by simp only [Pf.txts, List.map_cons, Pf.txts_eq r]
def Pf.vals (t : Pf) : List (List UInt8) := t.values.map fun t => t.V.txt
def Pf.words (t : Pf) : List (List UInt8) := t.rel :: dec t.clause :: grp t.vals :: t.kids.map Pf.txt
theorem Pf.txt_eq (t : Pf) : t.txt = grp t.words := by
 cases t; simp only [Pf.txt, Pf.txts_eq, Pf.words, Pf.vals, Pf.rel, Pf.clause, Pf.values, Pf.kids]
theorem Pg.prf_node {p : Pg} {t : Pf} (hp : pgOk p = true) (h : p.prf t = true) : t.values.length ≤ 12 ∧ t.values.all tmOk = true ∧ 0 ≤ t.clause ∧ t.clause ≤ 64 ∧ ∀ k, k ∈ t.kids → p.prf k = true := by
 obtain ⟨_, r, hr, hrm, h3, h4, h5, _, h6⟩ := Pg.prf_kids h
 rw [Pg.prf_eq] at h
 unfold Pg.prfAt at h
 rw [hr] at h
 simp only [Bool.and_eq_true, decide_eq_true_eq] at h
 obtain ⟨_, hl, hg, _⟩ := h
 unfold pgOk at hp
 simp only [Bool.and_eq_true, decide_eq_true_eq] at hp
 obtain ⟨i, hi⟩ := okL_mem hp.2 r hrm
 unfold Pg.relOk at hi
 simp only [Bool.and_eq_true, decide_eq_true_eq] at hi
 have ha := hi.1.1.1.1.1.2
 have hb := hi.1.1.1.1.2
 refine ⟨by omega, ?_, h4, by omega, h6⟩
 rw [List.all_eq_true] at hg ⊢
 intro x hx
 have := hg x hx
 unfold Tm.ground at this
 simp only [Bool.and_eq_true] at this
 exact this.1
theorem vals_len {t : Pf} (h1 : t.values.length ≤ 12) (h2 : t.values.all tmOk = true) : (grp t.vals).length ≤ 1600000 := by
 have h := grp_len t.vals
 have hs : (t.vals.map List.length).sum ≤ t.values.length * 130000 := by
  have := sum_le (l := t.vals.map List.length) (b := 130000) (fun x hx => by
   simp only [Pf.vals, List.map_map, List.mem_map, Function.comp_apply] at hx
   obtain ⟨t, ht, rfl⟩ := hx
   obtain ⟨v, e, hv⟩ := tmOk_of (List.all_eq_true.1 h2 t ht)
   have : t.V = v := by
    have hf : v.fine = true := by simp [V.ok] at hv; exact hv.1
    rw [e]; simp [Tm.V, V.v?_tm v hf]
   rw [this]; exact V.txt_len hv)
  simpa [Pf.vals] using this
 have : t.vals.length = t.values.length := by simp [Pf.vals]
 omega
theorem Pf.cnts_sum : ∀ l : List Pf, Pf.cnts l = (l.map Pf.cnt).sum
 | [] => by simp only [Pf.cnts, List.map_nil, List.sum_nil]
 | g :: r => by simp only [Pf.cnts, List.map_cons, List.sum_cons, Pf.cnts_sum r]
theorem Pf.words_len {p : Pg} {t : Pf} (hp : pgOk p = true) (h : p.prf t = true) (hw : t.rel.length ≤ 1048576) (ih : ∀ x, x ∈ t.kids → x.txt.length + 20 ≤ 3000000 * x.cnt) :
  (grp t.words).length + 20 ≤ 3000000 * t.cnt := by
 obtain ⟨n1, n2, n3, n4, _⟩ := Pg.prf_node hp h
 have hv := vals_len n1 n2
 have hd := dec_len (n := t.clause) (by omega) (by omega)
 have hg := grp_len t.words
 have hk : ((t.kids.map Pf.txt).map List.length).sum + t.kids.length ≤ 3000000 * (t.kids.map Pf.cnt).sum := by
  generalize t.kids = l at ih
  induction l with
  | nil => simp
  | cons x r ihr =>
   have a := ih x (by simp)
   have b := ihr (fun y hy => ih y (by simp [hy]))
   simp only [List.map_cons, List.sum_cons, List.length_cons]
   omega
 have hc := Pf.cnt_eq t
 rw [Pf.cnts_sum] at hc
 simp only [Pf.words, List.length_cons, List.length_map, List.map_cons, List.sum_cons] at hg ⊢
 omega
theorem Pf.txt_len {p : Pg} (hp : pgOk p = true) : ∀ t : Pf, p.prf t = true → wtL t.enc ≤ 1048576 → t.txt.length + 20 ≤ 3000000 * t.cnt := by
 intro t
 induction t using Pf.ind' with
 | h t ih =>
  intro h hw
  obtain ⟨_, _, _, _, n5⟩ := Pg.prf_node hp h
  rw [Pf.txt_eq]
  refine Pf.words_len hp h (by simp only [Pf.enc_eq, wtL, D.wt] at hw; omega) (fun x hx => ih x hx (n5 x hx) ?_)
  have := Pf.wt_kids hx
  omega
end Go.Abs
