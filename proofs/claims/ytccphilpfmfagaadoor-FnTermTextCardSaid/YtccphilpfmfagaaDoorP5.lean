import Derived.Test.YtccphilpfmfagaaDoorP3
set_option linter.unusedVariables false
set_option linter.unusedSimpArgs false
namespace Go.Abs
def V.sub (f : Int → V) : V → V
 | .var n => f n
 | .pair a b => .pair (a.sub f) (b.sub f)
 | v => v
def valAt (vs : List V) (n : Int) : V := vs.getD n.toNat .nil
abbrev FcV := List UInt8 × List V
def Gl.testV (f : Int → V) (g : Gl) : Bool :=
 match g.kind, g.terms with
 | 0, _ => true
 | 2, [a, b] => decide ((a.V.sub f).cmp (b.V.sub f) = 0)
 | 3, [a, b] => !decide ((a.V.sub f).cmp (b.V.sub f) = 0)
 | 4, [a] => decide ((a.V.sub f).kind = 2)
 | 5, [a] => decide ((a.V.sub f).kind = 3)
 | 6, [a, b] => !(b.V.sub f).has (a.V.sub f).name
 | _, _ => false
def Gl.callV (f : Int → V) (g : Gl) : FcV := (g.name, g.terms.map fun t => t.V.sub f)
def FcV.eq (a b : FcV) : Bool := decide (cmpFact a.1 a.2 b.1 b.2 = 0)
def clsLoop (f : Int → V) : List Gl → List (Bool × FcV) → Bool
 | [], ks => ks.isEmpty
 | g :: r, ks => if g.kind = 10 then false else if g.kind = 9 then
   (match ks with
   | [] => false
   | k :: ks => k.1 && k.2.eq (g.callV f) && clsLoop f r ks)
  else g.testV f && clsLoop f r ks
def Pg.headV (p : Pg) (rel : List UInt8) (vals : List Tm) : FcV := (rel, (vals.map Tm.V).take (match p.rels[(p.find rel).toNat]? with | some r => r.arity.toNat | none => 0))
def Pg.prfAt (p : Pg) (rel : List UInt8) (cl : Int) (vals : List Tm) (ks : List (Bool × FcV)) : Bool :=
 decide (0 ≤ p.find rel) && (match p.rels[(p.find rel).toNat]? with
  | none => false
  | some r => decide ((vals.length : Int) = r.arity + r.locals) && (vals.all Tm.ground && (decide (r.body.clsS.length ≤ 64) && (decide (0 ≤ cl) && (match r.body.clsS[cl.toNat]? with
   | none => false
   | some c => clsLoop (valAt (vals.map Tm.V)) c ks)))))
mutual
def Pg.prf (p : Pg) : Pf → Bool
 | .mk rel cl vals kids => p.prfAt rel cl vals (Pg.prfs p kids)
def Pg.prfs (p : Pg) : List Pf → List (Bool × FcV)
 | [] => []
 | k :: r => (p.prf k, p.headV k.rel k.values) :: p.prfs r
end
theorem Pg.prf_eq (p : Pg) (t : Pf) : p.prf t = p.prfAt t.rel t.clause t.values (p.prfs t.kids) := by
 cases t; simp only [Pg.prf, Pf.rel, Pf.clause, Pf.values, Pf.kids]
theorem Pg.prfs_eq (p : Pg) : ∀ l : List Pf, p.prfs l = l.map fun k => (p.prf k, p.headV k.rel k.values)
 | [] => rfl
 | k :: r => by simp only [Pg.prfs, List.map_cons, Pg.prfs_eq p r]
theorem Pf.ind' {Q : Pf → Prop} (h : ∀ t : Pf, (∀ x, x ∈ t.kids → Q x) → Q t) : ∀ t, Q t := by
 intro t
 induction t using Pf.ind with
 | h a0 a1 a2 a3 ih => exact h _ ih
theorem Pf.wt_kids {t x : Pf} (h : x ∈ t.kids) : wtL x.enc < wtL t.enc := by
 have := wtL_lt (t.kids.map Pf.enc) x.enc (List.mem_map.2 ⟨x, h, rfl⟩)
 simp only [Pf.enc_eq t, wtL, D.wt]; omega
end Go.Abs
set_option linter.unusedVariables false
set_option linter.unusedSimpArgs false
namespace Go.Abs
mutual
def Pf.cnt : Pf → Nat
 | .mk _ _ _ ks => 1 + Pf.cnts ks
def Pf.cnts : List Pf → Nat
 | [] => 0
 | k :: r => k.cnt + Pf.cnts r
end
theorem Pf.cnt_eq (t : Pf) : t.cnt = 1 + Pf.cnts t.kids := by cases t; simp only [Pf.cnt, Pf.kids]
theorem Pf.cnt_pos (t : Pf) : 1 ≤ t.cnt := by rw [Pf.cnt_eq]; omega
mutual
def Gl.ins (f : Int → V) : Gl → Gl
 | .mk k n ts gs => .mk k n (ts.map fun t => (t.V.sub f).tm) (Gl.inss f gs)
def Gl.inss (f : Int → V) : List Gl → List Gl
 | [] => []
 | g :: r => g.ins f :: Gl.inss f r
end
end Go.Abs
