/- The plain-data layer, part 26: the program's data types. -/
import Derived.Test.YtkmbaakiliafeaaAbs25
set_option linter.unusedVariables false
set_option linter.unusedSimpArgs false
namespace Go.Abs
set_option linter.unusedSimpArgs false

def encI (n : Int) : List D := [.int .i64 n]
def encS (s : List UInt8) : List D := [.str s]
def encL {α : Type} (e : α → List D) (l : List α) : List D := [.sl (l.map e)]
def encB (b : Bool) : List D := [.bool b]
theorem encI_len (n : Int) : (encI n).length = 1 := rfl
theorem encS_len (n : List UInt8) : (encS n).length = 1 := rfl
theorem encB_len (n : Bool) : (encB n).length = 1 := rfl
theorem encL_len {α : Type} (e : α → List D) (n : List α) : (encL e n).length = 1 := rfl

inductive Tm where
  | mk (kind : Int) (int : Int) (name : List UInt8) (args : List Tm)
def Tm.kind : Tm → Int | .mk x _ _ _ => x
def Tm.int : Tm → Int | .mk _ x _ _ => x
def Tm.name : Tm → List UInt8 | .mk _ _ x _ => x
def Tm.args : Tm → List Tm | .mk _ _ _ x => x
mutual
def Tm.enc : Tm → List D
  | .mk a0 a1 a2 a3 => [.int .i64 a0] ++ [.int .i64 a1] ++ [.str a2] ++ [.sl (Tm.encs a3)]
def Tm.encs : List Tm → List (List D)
  | [] => []
  | t :: r => Tm.enc t :: Tm.encs r
end
theorem Tm.encs_eq : ∀ l : List Tm, Tm.encs l = l.map Tm.enc
  | [] => by simp only [Tm.encs, List.map_nil]
  | t :: r => by simp only [Tm.encs, List.map_cons, Tm.encs_eq r]
theorem Tm.enc_eq (t : Tm) : Tm.enc t = [.int .i64 t.kind, .int .i64 t.int, .str t.name, .sl (t.args.map Tm.enc)] := by
  cases t; simp only [Tm.enc, Tm.encs_eq, List.cons_append, List.nil_append, List.append_nil, Tm.kind, Tm.int, Tm.name, Tm.args]
theorem Tm.ind {Q : Tm → Prop} (h : ∀ a0 a1 a2 a3, (∀ x, x ∈ a3 → Q x) → Q (.mk a0 a1 a2 a3)) : ∀ t, Q t
  | .mk a0 a1 a2 a3 => h a0 a1 a2 a3 (fun x hx => Tm.ind h x)
theorem Tm.enc_len (t : Tm) : (Tm.enc t).length = 4 := by simp only [Tm.enc_eq] <;> rfl
theorem Tm.enc_at0 (t : Tm) : (Tm.enc t)[0]? = some (.int .i64 t.kind) := by simp only [Tm.enc_eq] <;> rfl
theorem Tm.enc_pt0 (t : Tm) : ((Tm.enc t).drop 0).take 1 = [.int .i64 t.kind] := by simp only [Tm.enc_eq] <;> rfl
theorem Tm.enc_at1 (t : Tm) : (Tm.enc t)[1]? = some (.int .i64 t.int) := by simp only [Tm.enc_eq] <;> rfl
theorem Tm.enc_pt1 (t : Tm) : ((Tm.enc t).drop 1).take 1 = [.int .i64 t.int] := by simp only [Tm.enc_eq] <;> rfl
theorem Tm.enc_at2 (t : Tm) : (Tm.enc t)[2]? = some (.str t.name) := by simp only [Tm.enc_eq] <;> rfl
theorem Tm.enc_pt2 (t : Tm) : ((Tm.enc t).drop 2).take 1 = [.str t.name] := by simp only [Tm.enc_eq] <;> rfl
theorem Tm.enc_at3 (t : Tm) : (Tm.enc t)[3]? = some (.sl (t.args.map Tm.enc)) := by simp only [Tm.enc_eq] <;> rfl
theorem Tm.enc_pt3 (t : Tm) : ((Tm.enc t).drop 3).take 1 = [.sl (t.args.map Tm.enc)] := by simp only [Tm.enc_eq] <;> rfl
theorem Tm.enc_tk0 (t : Tm) : (Tm.enc t).take 1 = [.int .i64 t.kind] := by simp only [Tm.enc_eq] <;> rfl
theorem Tm.encS : type_of% (And.intro Tm.enc_len <| And.intro Tm.enc_at0 <| And.intro Tm.enc_pt0 <| And.intro Tm.enc_at1 <| And.intro Tm.enc_pt1 <| And.intro Tm.enc_at2 <| And.intro Tm.enc_pt2 <| And.intro Tm.enc_at3 <| Tm.enc_pt3) := And.intro Tm.enc_len <| And.intro Tm.enc_at0 <| And.intro Tm.enc_pt0 <| And.intro Tm.enc_at1 <| And.intro Tm.enc_pt1 <| And.intro Tm.enc_at2 <| And.intro Tm.enc_pt2 <| And.intro Tm.enc_at3 <| Tm.enc_pt3

inductive Gl where
  | mk (kind : Int) (name : List UInt8) (terms : List Tm) (goals : List Gl)
def Gl.kind : Gl → Int | .mk x _ _ _ => x
def Gl.name : Gl → List UInt8 | .mk _ x _ _ => x
def Gl.terms : Gl → List Tm | .mk _ _ x _ => x
def Gl.goals : Gl → List Gl | .mk _ _ _ x => x
mutual
def Gl.enc : Gl → List D
  | .mk a0 a1 a2 a3 => [.int .i64 a0] ++ [.str a1] ++ [.sl (a2.map Tm.enc)] ++ [.sl (Gl.encs a3)]
def Gl.encs : List Gl → List (List D)
  | [] => []
  | t :: r => Gl.enc t :: Gl.encs r
end
theorem Gl.encs_eq : ∀ l : List Gl, Gl.encs l = l.map Gl.enc
  | [] => by simp only [Gl.encs, List.map_nil]
  | t :: r => by simp only [Gl.encs, List.map_cons, Gl.encs_eq r]
theorem Gl.enc_eq (t : Gl) : Gl.enc t = [.int .i64 t.kind, .str t.name, .sl (t.terms.map Tm.enc), .sl (t.goals.map Gl.enc)] := by
  cases t; simp only [Gl.enc, Gl.encs_eq, List.cons_append, List.nil_append, List.append_nil, Gl.kind, Gl.name, Gl.terms, Gl.goals]
theorem Gl.ind {Q : Gl → Prop} (h : ∀ a0 a1 a2 a3, (∀ x, x ∈ a3 → Q x) → Q (.mk a0 a1 a2 a3)) : ∀ t, Q t
  | .mk a0 a1 a2 a3 => h a0 a1 a2 a3 (fun x hx => Gl.ind h x)
theorem Gl.enc_len (t : Gl) : (Gl.enc t).length = 4 := by simp only [Gl.enc_eq] <;> rfl
theorem Gl.enc_at0 (t : Gl) : (Gl.enc t)[0]? = some (.int .i64 t.kind) := by simp only [Gl.enc_eq] <;> rfl
theorem Gl.enc_pt0 (t : Gl) : ((Gl.enc t).drop 0).take 1 = [.int .i64 t.kind] := by simp only [Gl.enc_eq] <;> rfl
theorem Gl.enc_at1 (t : Gl) : (Gl.enc t)[1]? = some (.str t.name) := by simp only [Gl.enc_eq] <;> rfl
theorem Gl.enc_pt1 (t : Gl) : ((Gl.enc t).drop 1).take 1 = [.str t.name] := by simp only [Gl.enc_eq] <;> rfl
theorem Gl.enc_at2 (t : Gl) : (Gl.enc t)[2]? = some (.sl (t.terms.map Tm.enc)) := by simp only [Gl.enc_eq] <;> rfl
theorem Gl.enc_pt2 (t : Gl) : ((Gl.enc t).drop 2).take 1 = [.sl (t.terms.map Tm.enc)] := by simp only [Gl.enc_eq] <;> rfl
theorem Gl.enc_at3 (t : Gl) : (Gl.enc t)[3]? = some (.sl (t.goals.map Gl.enc)) := by simp only [Gl.enc_eq] <;> rfl
theorem Gl.enc_pt3 (t : Gl) : ((Gl.enc t).drop 3).take 1 = [.sl (t.goals.map Gl.enc)] := by simp only [Gl.enc_eq] <;> rfl
theorem Gl.enc_tk0 (t : Gl) : (Gl.enc t).take 1 = [.int .i64 t.kind] := by simp only [Gl.enc_eq] <;> rfl
theorem Gl.encS : type_of% (And.intro Gl.enc_len <| And.intro Gl.enc_at0 <| And.intro Gl.enc_pt0 <| And.intro Gl.enc_at1 <| And.intro Gl.enc_pt1 <| And.intro Gl.enc_at2 <| And.intro Gl.enc_pt2 <| And.intro Gl.enc_at3 <| Gl.enc_pt3) := And.intro Gl.enc_len <| And.intro Gl.enc_at0 <| And.intro Gl.enc_pt0 <| And.intro Gl.enc_at1 <| And.intro Gl.enc_pt1 <| And.intro Gl.enc_at2 <| And.intro Gl.enc_pt2 <| And.intro Gl.enc_at3 <| Gl.enc_pt3

inductive Pf where
  | mk (rel : List UInt8) (clause : Int) (values : List Tm) (kids : List Pf)
def Pf.rel : Pf → List UInt8 | .mk x _ _ _ => x
def Pf.clause : Pf → Int | .mk _ x _ _ => x
def Pf.values : Pf → List Tm | .mk _ _ x _ => x
def Pf.kids : Pf → List Pf | .mk _ _ _ x => x
mutual
def Pf.enc : Pf → List D
  | .mk a0 a1 a2 a3 => [.str a0] ++ [.int .i64 a1] ++ [.sl (a2.map Tm.enc)] ++ [.sl (Pf.encs a3)]
def Pf.encs : List Pf → List (List D)
  | [] => []
  | t :: r => Pf.enc t :: Pf.encs r
end
theorem Pf.encs_eq : ∀ l : List Pf, Pf.encs l = l.map Pf.enc
  | [] => by simp only [Pf.encs, List.map_nil]
  | t :: r => by simp only [Pf.encs, List.map_cons, Pf.encs_eq r]
theorem Pf.enc_eq (t : Pf) : Pf.enc t = [.str t.rel, .int .i64 t.clause, .sl (t.values.map Tm.enc), .sl (t.kids.map Pf.enc)] := by
  cases t; simp only [Pf.enc, Pf.encs_eq, List.cons_append, List.nil_append, List.append_nil, Pf.rel, Pf.clause, Pf.values, Pf.kids]
theorem Pf.ind {Q : Pf → Prop} (h : ∀ a0 a1 a2 a3, (∀ x, x ∈ a3 → Q x) → Q (.mk a0 a1 a2 a3)) : ∀ t, Q t
  | .mk a0 a1 a2 a3 => h a0 a1 a2 a3 (fun x hx => Pf.ind h x)
theorem Pf.enc_len (t : Pf) : (Pf.enc t).length = 4 := by simp only [Pf.enc_eq] <;> rfl
theorem Pf.enc_at0 (t : Pf) : (Pf.enc t)[0]? = some (.str t.rel) := by simp only [Pf.enc_eq] <;> rfl
theorem Pf.enc_pt0 (t : Pf) : ((Pf.enc t).drop 0).take 1 = [.str t.rel] := by simp only [Pf.enc_eq] <;> rfl
theorem Pf.enc_at1 (t : Pf) : (Pf.enc t)[1]? = some (.int .i64 t.clause) := by simp only [Pf.enc_eq] <;> rfl
theorem Pf.enc_pt1 (t : Pf) : ((Pf.enc t).drop 1).take 1 = [.int .i64 t.clause] := by simp only [Pf.enc_eq] <;> rfl
theorem Pf.enc_at2 (t : Pf) : (Pf.enc t)[2]? = some (.sl (t.values.map Tm.enc)) := by simp only [Pf.enc_eq] <;> rfl
theorem Pf.enc_pt2 (t : Pf) : ((Pf.enc t).drop 2).take 1 = [.sl (t.values.map Tm.enc)] := by simp only [Pf.enc_eq] <;> rfl
theorem Pf.enc_at3 (t : Pf) : (Pf.enc t)[3]? = some (.sl (t.kids.map Pf.enc)) := by simp only [Pf.enc_eq] <;> rfl
theorem Pf.enc_pt3 (t : Pf) : ((Pf.enc t).drop 3).take 1 = [.sl (t.kids.map Pf.enc)] := by simp only [Pf.enc_eq] <;> rfl
theorem Pf.enc_tk0 (t : Pf) : (Pf.enc t).take 1 = [.str t.rel] := by simp only [Pf.enc_eq] <;> rfl
theorem Pf.encS : type_of% (And.intro Pf.enc_len <| And.intro Pf.enc_at0 <| And.intro Pf.enc_pt0 <| And.intro Pf.enc_at1 <| And.intro Pf.enc_pt1 <| And.intro Pf.enc_at2 <| And.intro Pf.enc_pt2 <| And.intro Pf.enc_at3 <| Pf.enc_pt3) := And.intro Pf.enc_len <| And.intro Pf.enc_at0 <| And.intro Pf.enc_pt0 <| And.intro Pf.enc_at1 <| And.intro Pf.enc_pt1 <| And.intro Pf.enc_at2 <| And.intro Pf.enc_pt2 <| And.intro Pf.enc_at3 <| Pf.enc_pt3

structure Fc where
  rel : List UInt8
  args : List Tm
def Fc.enc (t : Fc) : List D := [.str t.rel] ++ [.sl (t.args.map Tm.enc)]
theorem Fc.enc_eq (t : Fc) : Fc.enc t = [.str t.rel, .sl (t.args.map Tm.enc)] := by
  simp only [Fc.enc, List.cons_append, List.nil_append, List.append_nil]
theorem Fc.enc_len (t : Fc) : (Fc.enc t).length = 2 := by simp only [Fc.enc_eq] <;> rfl
theorem Fc.enc_at0 (t : Fc) : (Fc.enc t)[0]? = some (.str t.rel) := by simp only [Fc.enc_eq] <;> rfl
theorem Fc.enc_pt0 (t : Fc) : ((Fc.enc t).drop 0).take 1 = [.str t.rel] := by simp only [Fc.enc_eq] <;> rfl
theorem Fc.enc_at1 (t : Fc) : (Fc.enc t)[1]? = some (.sl (t.args.map Tm.enc)) := by simp only [Fc.enc_eq] <;> rfl
theorem Fc.enc_pt1 (t : Fc) : ((Fc.enc t).drop 1).take 1 = [.sl (t.args.map Tm.enc)] := by simp only [Fc.enc_eq] <;> rfl
theorem Fc.enc_tk0 (t : Fc) : (Fc.enc t).take 1 = [.str t.rel] := by simp only [Fc.enc_eq] <;> rfl
theorem Fc.encS : type_of% (And.intro Fc.enc_len <| And.intro Fc.enc_at0 <| And.intro Fc.enc_pt0 <| And.intro Fc.enc_at1 <| Fc.enc_pt1) := And.intro Fc.enc_len <| And.intro Fc.enc_at0 <| And.intro Fc.enc_pt0 <| And.intro Fc.enc_at1 <| Fc.enc_pt1

structure Bd where
  var : Int
  to : Tm
def Bd.enc (t : Bd) : List D := [.int .i64 t.var] ++ Tm.enc t.to
theorem Bd.enc_eq (t : Bd) : Bd.enc t = [.int .i64 t.var, .int .i64 t.to.kind, .int .i64 t.to.int, .str t.to.name, .sl (t.to.args.map Tm.enc)] := by
  simp only [Bd.enc, List.cons_append, List.nil_append, List.append_nil, Tm.enc_eq]
theorem Bd.enc_len (t : Bd) : (Bd.enc t).length = 5 := by simp only [Bd.enc_eq] <;> rfl
theorem Bd.enc_at0 (t : Bd) : (Bd.enc t)[0]? = some (.int .i64 t.var) := by simp only [Bd.enc_eq] <;> rfl
theorem Bd.enc_pt0 (t : Bd) : ((Bd.enc t).drop 0).take 1 = [.int .i64 t.var] := by simp only [Bd.enc_eq] <;> rfl
theorem Bd.enc_at1 (t : Bd) : (Bd.enc t)[1]? = some (.int .i64 t.to.kind) := by simp only [Bd.enc_eq] <;> rfl
theorem Bd.enc_pt1 (t : Bd) : ((Bd.enc t).drop 1).take 1 = [.int .i64 t.to.kind] := by simp only [Bd.enc_eq] <;> rfl
theorem Bd.enc_at2 (t : Bd) : (Bd.enc t)[2]? = some (.int .i64 t.to.int) := by simp only [Bd.enc_eq] <;> rfl
theorem Bd.enc_pt2 (t : Bd) : ((Bd.enc t).drop 2).take 1 = [.int .i64 t.to.int] := by simp only [Bd.enc_eq] <;> rfl
theorem Bd.enc_at3 (t : Bd) : (Bd.enc t)[3]? = some (.str t.to.name) := by simp only [Bd.enc_eq] <;> rfl
theorem Bd.enc_pt3 (t : Bd) : ((Bd.enc t).drop 3).take 1 = [.str t.to.name] := by simp only [Bd.enc_eq] <;> rfl
theorem Bd.enc_at4 (t : Bd) : (Bd.enc t)[4]? = some (.sl (t.to.args.map Tm.enc)) := by simp only [Bd.enc_eq] <;> rfl
theorem Bd.enc_pt4 (t : Bd) : ((Bd.enc t).drop 4).take 1 = [.sl (t.to.args.map Tm.enc)] := by simp only [Bd.enc_eq] <;> rfl
theorem Bd.enc_tk0 (t : Bd) : (Bd.enc t).take 1 = [.int .i64 t.var] := by simp only [Bd.enc_eq] <;> rfl
theorem Bd.enc_st0 (t : Bd) : ((Bd.enc t).drop 1).take 4 = Tm.enc t.to := by simp only [Bd.enc_eq, Tm.enc_eq] <;> rfl
theorem Bd.encS : type_of% (And.intro Bd.enc_len <| And.intro Bd.enc_at0 <| And.intro Bd.enc_pt0 <| And.intro Bd.enc_at1 <| And.intro Bd.enc_pt1 <| And.intro Bd.enc_at2 <| And.intro Bd.enc_pt2 <| And.intro Bd.enc_at3 <| And.intro Bd.enc_pt3 <| And.intro Bd.enc_at4 <| And.intro Bd.enc_pt4 <| Bd.enc_st0) := And.intro Bd.enc_len <| And.intro Bd.enc_at0 <| And.intro Bd.enc_pt0 <| And.intro Bd.enc_at1 <| And.intro Bd.enc_pt1 <| And.intro Bd.enc_at2 <| And.intro Bd.enc_pt2 <| And.intro Bd.enc_at3 <| And.intro Bd.enc_pt3 <| And.intro Bd.enc_at4 <| And.intro Bd.enc_pt4 <| Bd.enc_st0

structure Vk where
  var : Int
  kind : Int
def Vk.enc (t : Vk) : List D := [.int .i64 t.var] ++ [.int .i64 t.kind]
theorem Vk.enc_eq (t : Vk) : Vk.enc t = [.int .i64 t.var, .int .i64 t.kind] := by
  simp only [Vk.enc, List.cons_append, List.nil_append, List.append_nil]
theorem Vk.enc_len (t : Vk) : (Vk.enc t).length = 2 := by simp only [Vk.enc_eq] <;> rfl
theorem Vk.enc_at0 (t : Vk) : (Vk.enc t)[0]? = some (.int .i64 t.var) := by simp only [Vk.enc_eq] <;> rfl
theorem Vk.enc_pt0 (t : Vk) : ((Vk.enc t).drop 0).take 1 = [.int .i64 t.var] := by simp only [Vk.enc_eq] <;> rfl
theorem Vk.enc_at1 (t : Vk) : (Vk.enc t)[1]? = some (.int .i64 t.kind) := by simp only [Vk.enc_eq] <;> rfl
theorem Vk.enc_pt1 (t : Vk) : ((Vk.enc t).drop 1).take 1 = [.int .i64 t.kind] := by simp only [Vk.enc_eq] <;> rfl
theorem Vk.enc_tk0 (t : Vk) : (Vk.enc t).take 1 = [.int .i64 t.var] := by simp only [Vk.enc_eq] <;> rfl
theorem Vk.encS : type_of% (And.intro Vk.enc_len <| And.intro Vk.enc_at0 <| And.intro Vk.enc_pt0 <| And.intro Vk.enc_at1 <| Vk.enc_pt1) := And.intro Vk.enc_len <| And.intro Vk.enc_at0 <| And.intro Vk.enc_pt0 <| And.intro Vk.enc_at1 <| Vk.enc_pt1

structure Mk where
  var : Int
  tag : List UInt8
def Mk.enc (t : Mk) : List D := [.int .i64 t.var] ++ [.str t.tag]
theorem Mk.enc_eq (t : Mk) : Mk.enc t = [.int .i64 t.var, .str t.tag] := by
  simp only [Mk.enc, List.cons_append, List.nil_append, List.append_nil]
theorem Mk.enc_len (t : Mk) : (Mk.enc t).length = 2 := by simp only [Mk.enc_eq] <;> rfl
theorem Mk.enc_at0 (t : Mk) : (Mk.enc t)[0]? = some (.int .i64 t.var) := by simp only [Mk.enc_eq] <;> rfl
theorem Mk.enc_pt0 (t : Mk) : ((Mk.enc t).drop 0).take 1 = [.int .i64 t.var] := by simp only [Mk.enc_eq] <;> rfl
theorem Mk.enc_at1 (t : Mk) : (Mk.enc t)[1]? = some (.str t.tag) := by simp only [Mk.enc_eq] <;> rfl
theorem Mk.enc_pt1 (t : Mk) : ((Mk.enc t).drop 1).take 1 = [.str t.tag] := by simp only [Mk.enc_eq] <;> rfl
theorem Mk.enc_tk0 (t : Mk) : (Mk.enc t).take 1 = [.int .i64 t.var] := by simp only [Mk.enc_eq] <;> rfl
theorem Mk.encS : type_of% (And.intro Mk.enc_len <| And.intro Mk.enc_at0 <| And.intro Mk.enc_pt0 <| And.intro Mk.enc_at1 <| Mk.enc_pt1) := And.intro Mk.enc_len <| And.intro Mk.enc_at0 <| And.intro Mk.enc_pt0 <| And.intro Mk.enc_at1 <| Mk.enc_pt1

structure Sta where
  next : Int
  bind : List Bd
  diseqs : List (List Bd)
  kinds : List Vk
  marks : List Mk
def Sta.enc (t : Sta) : List D := [.int .i64 t.next] ++ [.sl (t.bind.map Bd.enc)] ++ [.sl (t.diseqs.map (encL Bd.enc))] ++ [.sl (t.kinds.map Vk.enc)] ++ [.sl (t.marks.map Mk.enc)]
theorem Sta.enc_eq (t : Sta) : Sta.enc t = [.int .i64 t.next, .sl (t.bind.map Bd.enc), .sl (t.diseqs.map (encL Bd.enc)), .sl (t.kinds.map Vk.enc), .sl (t.marks.map Mk.enc)] := by
  simp only [Sta.enc, List.cons_append, List.nil_append, List.append_nil]
theorem Sta.enc_len (t : Sta) : (Sta.enc t).length = 5 := by simp only [Sta.enc_eq] <;> rfl
theorem Sta.enc_at0 (t : Sta) : (Sta.enc t)[0]? = some (.int .i64 t.next) := by simp only [Sta.enc_eq] <;> rfl
theorem Sta.enc_pt0 (t : Sta) : ((Sta.enc t).drop 0).take 1 = [.int .i64 t.next] := by simp only [Sta.enc_eq] <;> rfl
theorem Sta.enc_at1 (t : Sta) : (Sta.enc t)[1]? = some (.sl (t.bind.map Bd.enc)) := by simp only [Sta.enc_eq] <;> rfl
theorem Sta.enc_pt1 (t : Sta) : ((Sta.enc t).drop 1).take 1 = [.sl (t.bind.map Bd.enc)] := by simp only [Sta.enc_eq] <;> rfl
theorem Sta.enc_at2 (t : Sta) : (Sta.enc t)[2]? = some (.sl (t.diseqs.map (encL Bd.enc))) := by simp only [Sta.enc_eq] <;> rfl
theorem Sta.enc_pt2 (t : Sta) : ((Sta.enc t).drop 2).take 1 = [.sl (t.diseqs.map (encL Bd.enc))] := by simp only [Sta.enc_eq] <;> rfl
theorem Sta.enc_at3 (t : Sta) : (Sta.enc t)[3]? = some (.sl (t.kinds.map Vk.enc)) := by simp only [Sta.enc_eq] <;> rfl
theorem Sta.enc_pt3 (t : Sta) : ((Sta.enc t).drop 3).take 1 = [.sl (t.kinds.map Vk.enc)] := by simp only [Sta.enc_eq] <;> rfl
theorem Sta.enc_at4 (t : Sta) : (Sta.enc t)[4]? = some (.sl (t.marks.map Mk.enc)) := by simp only [Sta.enc_eq] <;> rfl
theorem Sta.enc_pt4 (t : Sta) : ((Sta.enc t).drop 4).take 1 = [.sl (t.marks.map Mk.enc)] := by simp only [Sta.enc_eq] <;> rfl
theorem Sta.enc_tk0 (t : Sta) : (Sta.enc t).take 1 = [.int .i64 t.next] := by simp only [Sta.enc_eq] <;> rfl
theorem Sta.encS : type_of% (And.intro Sta.enc_len <| And.intro Sta.enc_at0 <| And.intro Sta.enc_pt0 <| And.intro Sta.enc_at1 <| And.intro Sta.enc_pt1 <| And.intro Sta.enc_at2 <| And.intro Sta.enc_pt2 <| And.intro Sta.enc_at3 <| And.intro Sta.enc_pt3 <| And.intro Sta.enc_at4 <| Sta.enc_pt4) := And.intro Sta.enc_len <| And.intro Sta.enc_at0 <| And.intro Sta.enc_pt0 <| And.intro Sta.enc_at1 <| And.intro Sta.enc_pt1 <| And.intro Sta.enc_at2 <| And.intro Sta.enc_pt2 <| And.intro Sta.enc_at3 <| And.intro Sta.enc_pt3 <| And.intro Sta.enc_at4 <| Sta.enc_pt4

structure Bra where
  state : Sta
  choices : List Int
def Bra.enc (t : Bra) : List D := Sta.enc t.state ++ [.sl (t.choices.map encI)]
theorem Bra.enc_eq (t : Bra) : Bra.enc t = [.int .i64 t.state.next, .sl (t.state.bind.map Bd.enc), .sl (t.state.diseqs.map (encL Bd.enc)), .sl (t.state.kinds.map Vk.enc), .sl (t.state.marks.map Mk.enc), .sl (t.choices.map encI)] := by
  simp only [Bra.enc, List.cons_append, List.nil_append, List.append_nil, Sta.enc_eq]
theorem Bra.enc_len (t : Bra) : (Bra.enc t).length = 6 := by simp only [Bra.enc_eq] <;> rfl
theorem Bra.enc_at0 (t : Bra) : (Bra.enc t)[0]? = some (.int .i64 t.state.next) := by simp only [Bra.enc_eq] <;> rfl
theorem Bra.enc_pt0 (t : Bra) : ((Bra.enc t).drop 0).take 1 = [.int .i64 t.state.next] := by simp only [Bra.enc_eq] <;> rfl
theorem Bra.enc_at1 (t : Bra) : (Bra.enc t)[1]? = some (.sl (t.state.bind.map Bd.enc)) := by simp only [Bra.enc_eq] <;> rfl
theorem Bra.enc_pt1 (t : Bra) : ((Bra.enc t).drop 1).take 1 = [.sl (t.state.bind.map Bd.enc)] := by simp only [Bra.enc_eq] <;> rfl
theorem Bra.enc_at2 (t : Bra) : (Bra.enc t)[2]? = some (.sl (t.state.diseqs.map (encL Bd.enc))) := by simp only [Bra.enc_eq] <;> rfl
theorem Bra.enc_pt2 (t : Bra) : ((Bra.enc t).drop 2).take 1 = [.sl (t.state.diseqs.map (encL Bd.enc))] := by simp only [Bra.enc_eq] <;> rfl
theorem Bra.enc_at3 (t : Bra) : (Bra.enc t)[3]? = some (.sl (t.state.kinds.map Vk.enc)) := by simp only [Bra.enc_eq] <;> rfl
theorem Bra.enc_pt3 (t : Bra) : ((Bra.enc t).drop 3).take 1 = [.sl (t.state.kinds.map Vk.enc)] := by simp only [Bra.enc_eq] <;> rfl
theorem Bra.enc_at4 (t : Bra) : (Bra.enc t)[4]? = some (.sl (t.state.marks.map Mk.enc)) := by simp only [Bra.enc_eq] <;> rfl
theorem Bra.enc_pt4 (t : Bra) : ((Bra.enc t).drop 4).take 1 = [.sl (t.state.marks.map Mk.enc)] := by simp only [Bra.enc_eq] <;> rfl
theorem Bra.enc_at5 (t : Bra) : (Bra.enc t)[5]? = some (.sl (t.choices.map encI)) := by simp only [Bra.enc_eq] <;> rfl
theorem Bra.enc_pt5 (t : Bra) : ((Bra.enc t).drop 5).take 1 = [.sl (t.choices.map encI)] := by simp only [Bra.enc_eq] <;> rfl
theorem Bra.enc_tk0 (t : Bra) : (Bra.enc t).take 1 = [.int .i64 t.state.next] := by simp only [Bra.enc_eq] <;> rfl
theorem Bra.enc_tk5 (t : Bra) : (Bra.enc t).take 5 = Sta.enc t.state := by simp only [Bra.enc_eq, Sta.enc_eq] <;> rfl
theorem Bra.enc_st0 (t : Bra) : ((Bra.enc t).drop 0).take 5 = Sta.enc t.state := by simp only [Bra.enc_eq, Sta.enc_eq] <;> rfl
theorem Bra.encS : type_of% (And.intro Bra.enc_len <| And.intro Bra.enc_at0 <| And.intro Bra.enc_pt0 <| And.intro Bra.enc_at1 <| And.intro Bra.enc_pt1 <| And.intro Bra.enc_at2 <| And.intro Bra.enc_pt2 <| And.intro Bra.enc_at3 <| And.intro Bra.enc_pt3 <| And.intro Bra.enc_at4 <| And.intro Bra.enc_pt4 <| And.intro Bra.enc_at5 <| And.intro Bra.enc_pt5 <| Bra.enc_st0) := And.intro Bra.enc_len <| And.intro Bra.enc_at0 <| And.intro Bra.enc_pt0 <| And.intro Bra.enc_at1 <| And.intro Bra.enc_pt1 <| And.intro Bra.enc_at2 <| And.intro Bra.enc_pt2 <| And.intro Bra.enc_at3 <| And.intro Bra.enc_pt3 <| And.intro Bra.enc_at4 <| And.intro Bra.enc_pt4 <| And.intro Bra.enc_at5 <| And.intro Bra.enc_pt5 <| Bra.enc_st0

inductive Stm where
  | mk (kind : Int) (branch : Bra) (goal : Gl) (kids : List Stm)
def Stm.kind : Stm → Int | .mk x _ _ _ => x
def Stm.branch : Stm → Bra | .mk _ x _ _ => x
def Stm.goal : Stm → Gl | .mk _ _ x _ => x
def Stm.kids : Stm → List Stm | .mk _ _ _ x => x
mutual
def Stm.enc : Stm → List D
  | .mk a0 a1 a2 a3 => [.int .i64 a0] ++ Bra.enc a1 ++ Gl.enc a2 ++ [.sl (Stm.encs a3)]
def Stm.encs : List Stm → List (List D)
  | [] => []
  | t :: r => Stm.enc t :: Stm.encs r
end
theorem Stm.encs_eq : ∀ l : List Stm, Stm.encs l = l.map Stm.enc
  | [] => by simp only [Stm.encs, List.map_nil]
  | t :: r => by simp only [Stm.encs, List.map_cons, Stm.encs_eq r]
theorem Stm.enc_eq (t : Stm) : Stm.enc t = [.int .i64 t.kind, .int .i64 t.branch.state.next, .sl (t.branch.state.bind.map Bd.enc), .sl (t.branch.state.diseqs.map (encL Bd.enc)), .sl (t.branch.state.kinds.map Vk.enc), .sl (t.branch.state.marks.map Mk.enc), .sl (t.branch.choices.map encI), .int .i64 t.goal.kind, .str t.goal.name, .sl (t.goal.terms.map Tm.enc), .sl (t.goal.goals.map Gl.enc), .sl (t.kids.map Stm.enc)] := by
  cases t; simp only [Stm.enc, Stm.encs_eq, List.cons_append, List.nil_append, List.append_nil, Bra.enc_eq, Gl.enc_eq, Stm.kind, Stm.branch, Stm.goal, Stm.kids]
theorem Stm.ind {Q : Stm → Prop} (h : ∀ a0 a1 a2 a3, (∀ x, x ∈ a3 → Q x) → Q (.mk a0 a1 a2 a3)) : ∀ t, Q t
  | .mk a0 a1 a2 a3 => h a0 a1 a2 a3 (fun x hx => Stm.ind h x)
theorem Stm.enc_len (t : Stm) : (Stm.enc t).length = 12 := by simp only [Stm.enc_eq] <;> rfl
theorem Stm.enc_at0 (t : Stm) : (Stm.enc t)[0]? = some (.int .i64 t.kind) := by simp only [Stm.enc_eq] <;> rfl
theorem Stm.enc_pt0 (t : Stm) : ((Stm.enc t).drop 0).take 1 = [.int .i64 t.kind] := by simp only [Stm.enc_eq] <;> rfl
theorem Stm.enc_at1 (t : Stm) : (Stm.enc t)[1]? = some (.int .i64 t.branch.state.next) := by simp only [Stm.enc_eq] <;> rfl
theorem Stm.enc_pt1 (t : Stm) : ((Stm.enc t).drop 1).take 1 = [.int .i64 t.branch.state.next] := by simp only [Stm.enc_eq] <;> rfl
theorem Stm.enc_at2 (t : Stm) : (Stm.enc t)[2]? = some (.sl (t.branch.state.bind.map Bd.enc)) := by simp only [Stm.enc_eq] <;> rfl
theorem Stm.enc_pt2 (t : Stm) : ((Stm.enc t).drop 2).take 1 = [.sl (t.branch.state.bind.map Bd.enc)] := by simp only [Stm.enc_eq] <;> rfl
theorem Stm.enc_at3 (t : Stm) : (Stm.enc t)[3]? = some (.sl (t.branch.state.diseqs.map (encL Bd.enc))) := by simp only [Stm.enc_eq] <;> rfl
theorem Stm.enc_pt3 (t : Stm) : ((Stm.enc t).drop 3).take 1 = [.sl (t.branch.state.diseqs.map (encL Bd.enc))] := by simp only [Stm.enc_eq] <;> rfl
theorem Stm.enc_at4 (t : Stm) : (Stm.enc t)[4]? = some (.sl (t.branch.state.kinds.map Vk.enc)) := by simp only [Stm.enc_eq] <;> rfl
theorem Stm.enc_pt4 (t : Stm) : ((Stm.enc t).drop 4).take 1 = [.sl (t.branch.state.kinds.map Vk.enc)] := by simp only [Stm.enc_eq] <;> rfl
theorem Stm.enc_at5 (t : Stm) : (Stm.enc t)[5]? = some (.sl (t.branch.state.marks.map Mk.enc)) := by simp only [Stm.enc_eq] <;> rfl
theorem Stm.enc_pt5 (t : Stm) : ((Stm.enc t).drop 5).take 1 = [.sl (t.branch.state.marks.map Mk.enc)] := by simp only [Stm.enc_eq] <;> rfl
theorem Stm.enc_at6 (t : Stm) : (Stm.enc t)[6]? = some (.sl (t.branch.choices.map encI)) := by simp only [Stm.enc_eq] <;> rfl
theorem Stm.enc_pt6 (t : Stm) : ((Stm.enc t).drop 6).take 1 = [.sl (t.branch.choices.map encI)] := by simp only [Stm.enc_eq] <;> rfl
theorem Stm.enc_at7 (t : Stm) : (Stm.enc t)[7]? = some (.int .i64 t.goal.kind) := by simp only [Stm.enc_eq] <;> rfl
theorem Stm.enc_pt7 (t : Stm) : ((Stm.enc t).drop 7).take 1 = [.int .i64 t.goal.kind] := by simp only [Stm.enc_eq] <;> rfl
theorem Stm.enc_at8 (t : Stm) : (Stm.enc t)[8]? = some (.str t.goal.name) := by simp only [Stm.enc_eq] <;> rfl
theorem Stm.enc_pt8 (t : Stm) : ((Stm.enc t).drop 8).take 1 = [.str t.goal.name] := by simp only [Stm.enc_eq] <;> rfl
theorem Stm.enc_at9 (t : Stm) : (Stm.enc t)[9]? = some (.sl (t.goal.terms.map Tm.enc)) := by simp only [Stm.enc_eq] <;> rfl
theorem Stm.enc_pt9 (t : Stm) : ((Stm.enc t).drop 9).take 1 = [.sl (t.goal.terms.map Tm.enc)] := by simp only [Stm.enc_eq] <;> rfl
theorem Stm.enc_at10 (t : Stm) : (Stm.enc t)[10]? = some (.sl (t.goal.goals.map Gl.enc)) := by simp only [Stm.enc_eq] <;> rfl
theorem Stm.enc_pt10 (t : Stm) : ((Stm.enc t).drop 10).take 1 = [.sl (t.goal.goals.map Gl.enc)] := by simp only [Stm.enc_eq] <;> rfl
theorem Stm.enc_at11 (t : Stm) : (Stm.enc t)[11]? = some (.sl (t.kids.map Stm.enc)) := by simp only [Stm.enc_eq] <;> rfl
theorem Stm.enc_pt11 (t : Stm) : ((Stm.enc t).drop 11).take 1 = [.sl (t.kids.map Stm.enc)] := by simp only [Stm.enc_eq] <;> rfl
theorem Stm.enc_tk0 (t : Stm) : (Stm.enc t).take 1 = [.int .i64 t.kind] := by simp only [Stm.enc_eq] <;> rfl
theorem Stm.enc_st0 (t : Stm) : ((Stm.enc t).drop 1).take 6 = Bra.enc t.branch := by simp only [Stm.enc_eq, Bra.enc_eq] <;> rfl
theorem Stm.enc_st1 (t : Stm) : ((Stm.enc t).drop 1).take 5 = Sta.enc t.branch.state := by simp only [Stm.enc_eq, Sta.enc_eq] <;> rfl
theorem Stm.enc_st2 (t : Stm) : ((Stm.enc t).drop 7).take 4 = Gl.enc t.goal := by simp only [Stm.enc_eq, Gl.enc_eq] <;> rfl
theorem Stm.encS : type_of% (And.intro Stm.enc_len <| And.intro Stm.enc_at0 <| And.intro Stm.enc_pt0 <| And.intro Stm.enc_at1 <| And.intro Stm.enc_pt1 <| And.intro Stm.enc_at2 <| And.intro Stm.enc_pt2 <| And.intro Stm.enc_at3 <| And.intro Stm.enc_pt3 <| And.intro Stm.enc_at4 <| And.intro Stm.enc_pt4 <| And.intro Stm.enc_at5 <| And.intro Stm.enc_pt5 <| And.intro Stm.enc_at6 <| And.intro Stm.enc_pt6 <| And.intro Stm.enc_at7 <| And.intro Stm.enc_pt7 <| And.intro Stm.enc_at8 <| And.intro Stm.enc_pt8 <| And.intro Stm.enc_at9 <| And.intro Stm.enc_pt9 <| And.intro Stm.enc_at10 <| And.intro Stm.enc_pt10 <| And.intro Stm.enc_at11 <| And.intro Stm.enc_pt11 <| And.intro Stm.enc_st0 <| And.intro Stm.enc_st1 <| Stm.enc_st2) := And.intro Stm.enc_len <| And.intro Stm.enc_at0 <| And.intro Stm.enc_pt0 <| And.intro Stm.enc_at1 <| And.intro Stm.enc_pt1 <| And.intro Stm.enc_at2 <| And.intro Stm.enc_pt2 <| And.intro Stm.enc_at3 <| And.intro Stm.enc_pt3 <| And.intro Stm.enc_at4 <| And.intro Stm.enc_pt4 <| And.intro Stm.enc_at5 <| And.intro Stm.enc_pt5 <| And.intro Stm.enc_at6 <| And.intro Stm.enc_pt6 <| And.intro Stm.enc_at7 <| And.intro Stm.enc_pt7 <| And.intro Stm.enc_at8 <| And.intro Stm.enc_pt8 <| And.intro Stm.enc_at9 <| And.intro Stm.enc_pt9 <| And.intro Stm.enc_at10 <| And.intro Stm.enc_pt10 <| And.intro Stm.enc_at11 <| And.intro Stm.enc_pt11 <| And.intro Stm.enc_st0 <| And.intro Stm.enc_st1 <| Stm.enc_st2

structure Rl where
  name : List UInt8
  arity : Int
  locals : Int
  body : Gl
def Rl.enc (t : Rl) : List D := [.str t.name] ++ [.int .i64 t.arity] ++ [.int .i64 t.locals] ++ Gl.enc t.body
theorem Rl.enc_eq (t : Rl) : Rl.enc t = [.str t.name, .int .i64 t.arity, .int .i64 t.locals, .int .i64 t.body.kind, .str t.body.name, .sl (t.body.terms.map Tm.enc), .sl (t.body.goals.map Gl.enc)] := by
  simp only [Rl.enc, List.cons_append, List.nil_append, List.append_nil, Gl.enc_eq]
theorem Rl.enc_len (t : Rl) : (Rl.enc t).length = 7 := by simp only [Rl.enc_eq] <;> rfl
theorem Rl.enc_at0 (t : Rl) : (Rl.enc t)[0]? = some (.str t.name) := by simp only [Rl.enc_eq] <;> rfl
theorem Rl.enc_pt0 (t : Rl) : ((Rl.enc t).drop 0).take 1 = [.str t.name] := by simp only [Rl.enc_eq] <;> rfl
theorem Rl.enc_at1 (t : Rl) : (Rl.enc t)[1]? = some (.int .i64 t.arity) := by simp only [Rl.enc_eq] <;> rfl
theorem Rl.enc_pt1 (t : Rl) : ((Rl.enc t).drop 1).take 1 = [.int .i64 t.arity] := by simp only [Rl.enc_eq] <;> rfl
theorem Rl.enc_at2 (t : Rl) : (Rl.enc t)[2]? = some (.int .i64 t.locals) := by simp only [Rl.enc_eq] <;> rfl
theorem Rl.enc_pt2 (t : Rl) : ((Rl.enc t).drop 2).take 1 = [.int .i64 t.locals] := by simp only [Rl.enc_eq] <;> rfl
theorem Rl.enc_at3 (t : Rl) : (Rl.enc t)[3]? = some (.int .i64 t.body.kind) := by simp only [Rl.enc_eq] <;> rfl
theorem Rl.enc_pt3 (t : Rl) : ((Rl.enc t).drop 3).take 1 = [.int .i64 t.body.kind] := by simp only [Rl.enc_eq] <;> rfl
theorem Rl.enc_at4 (t : Rl) : (Rl.enc t)[4]? = some (.str t.body.name) := by simp only [Rl.enc_eq] <;> rfl
theorem Rl.enc_pt4 (t : Rl) : ((Rl.enc t).drop 4).take 1 = [.str t.body.name] := by simp only [Rl.enc_eq] <;> rfl
theorem Rl.enc_at5 (t : Rl) : (Rl.enc t)[5]? = some (.sl (t.body.terms.map Tm.enc)) := by simp only [Rl.enc_eq] <;> rfl
theorem Rl.enc_pt5 (t : Rl) : ((Rl.enc t).drop 5).take 1 = [.sl (t.body.terms.map Tm.enc)] := by simp only [Rl.enc_eq] <;> rfl
theorem Rl.enc_at6 (t : Rl) : (Rl.enc t)[6]? = some (.sl (t.body.goals.map Gl.enc)) := by simp only [Rl.enc_eq] <;> rfl
theorem Rl.enc_pt6 (t : Rl) : ((Rl.enc t).drop 6).take 1 = [.sl (t.body.goals.map Gl.enc)] := by simp only [Rl.enc_eq] <;> rfl
theorem Rl.enc_tk0 (t : Rl) : (Rl.enc t).take 1 = [.str t.name] := by simp only [Rl.enc_eq] <;> rfl
theorem Rl.enc_st0 (t : Rl) : ((Rl.enc t).drop 3).take 4 = Gl.enc t.body := by simp only [Rl.enc_eq, Gl.enc_eq] <;> rfl
theorem Rl.encS : type_of% (And.intro Rl.enc_len <| And.intro Rl.enc_at0 <| And.intro Rl.enc_pt0 <| And.intro Rl.enc_at1 <| And.intro Rl.enc_pt1 <| And.intro Rl.enc_at2 <| And.intro Rl.enc_pt2 <| And.intro Rl.enc_at3 <| And.intro Rl.enc_pt3 <| And.intro Rl.enc_at4 <| And.intro Rl.enc_pt4 <| And.intro Rl.enc_at5 <| And.intro Rl.enc_pt5 <| And.intro Rl.enc_at6 <| And.intro Rl.enc_pt6 <| Rl.enc_st0) := And.intro Rl.enc_len <| And.intro Rl.enc_at0 <| And.intro Rl.enc_pt0 <| And.intro Rl.enc_at1 <| And.intro Rl.enc_pt1 <| And.intro Rl.enc_at2 <| And.intro Rl.enc_pt2 <| And.intro Rl.enc_at3 <| And.intro Rl.enc_pt3 <| And.intro Rl.enc_at4 <| And.intro Rl.enc_pt4 <| And.intro Rl.enc_at5 <| And.intro Rl.enc_pt5 <| And.intro Rl.enc_at6 <| And.intro Rl.enc_pt6 <| Rl.enc_st0

structure Pg where
  rels : List Rl
def Pg.enc (t : Pg) : List D := [.sl (t.rels.map Rl.enc)]
theorem Pg.enc_eq (t : Pg) : Pg.enc t = [.sl (t.rels.map Rl.enc)] := by
  simp only [Pg.enc, List.cons_append, List.nil_append, List.append_nil]
theorem Pg.enc_len (t : Pg) : (Pg.enc t).length = 1 := by simp only [Pg.enc_eq] <;> rfl
theorem Pg.enc_at0 (t : Pg) : (Pg.enc t)[0]? = some (.sl (t.rels.map Rl.enc)) := by simp only [Pg.enc_eq] <;> rfl
theorem Pg.enc_pt0 (t : Pg) : ((Pg.enc t).drop 0).take 1 = [.sl (t.rels.map Rl.enc)] := by simp only [Pg.enc_eq] <;> rfl
theorem Pg.enc_tk0 (t : Pg) : (Pg.enc t).take 1 = [.sl (t.rels.map Rl.enc)] := by simp only [Pg.enc_eq] <;> rfl
theorem Pg.encS : type_of% (And.intro Pg.enc_len <| And.intro Pg.enc_at0 <| Pg.enc_pt0) := And.intro Pg.enc_len <| And.intro Pg.enc_at0 <| Pg.enc_pt0

structure Ru where
  head : Fc
  clause : Int
  values : List Tm
  pos : List Fc
  neg : List Fc
def Ru.enc (t : Ru) : List D := Fc.enc t.head ++ [.int .i64 t.clause] ++ [.sl (t.values.map Tm.enc)] ++ [.sl (t.pos.map Fc.enc)] ++ [.sl (t.neg.map Fc.enc)]
theorem Ru.enc_eq (t : Ru) : Ru.enc t = [.str t.head.rel, .sl (t.head.args.map Tm.enc), .int .i64 t.clause, .sl (t.values.map Tm.enc), .sl (t.pos.map Fc.enc), .sl (t.neg.map Fc.enc)] := by
  simp only [Ru.enc, List.cons_append, List.nil_append, List.append_nil, Fc.enc_eq]
theorem Ru.enc_len (t : Ru) : (Ru.enc t).length = 6 := by simp only [Ru.enc_eq] <;> rfl
theorem Ru.enc_at0 (t : Ru) : (Ru.enc t)[0]? = some (.str t.head.rel) := by simp only [Ru.enc_eq] <;> rfl
theorem Ru.enc_pt0 (t : Ru) : ((Ru.enc t).drop 0).take 1 = [.str t.head.rel] := by simp only [Ru.enc_eq] <;> rfl
theorem Ru.enc_at1 (t : Ru) : (Ru.enc t)[1]? = some (.sl (t.head.args.map Tm.enc)) := by simp only [Ru.enc_eq] <;> rfl
theorem Ru.enc_pt1 (t : Ru) : ((Ru.enc t).drop 1).take 1 = [.sl (t.head.args.map Tm.enc)] := by simp only [Ru.enc_eq] <;> rfl
theorem Ru.enc_at2 (t : Ru) : (Ru.enc t)[2]? = some (.int .i64 t.clause) := by simp only [Ru.enc_eq] <;> rfl
theorem Ru.enc_pt2 (t : Ru) : ((Ru.enc t).drop 2).take 1 = [.int .i64 t.clause] := by simp only [Ru.enc_eq] <;> rfl
theorem Ru.enc_at3 (t : Ru) : (Ru.enc t)[3]? = some (.sl (t.values.map Tm.enc)) := by simp only [Ru.enc_eq] <;> rfl
theorem Ru.enc_pt3 (t : Ru) : ((Ru.enc t).drop 3).take 1 = [.sl (t.values.map Tm.enc)] := by simp only [Ru.enc_eq] <;> rfl
theorem Ru.enc_at4 (t : Ru) : (Ru.enc t)[4]? = some (.sl (t.pos.map Fc.enc)) := by simp only [Ru.enc_eq] <;> rfl
theorem Ru.enc_pt4 (t : Ru) : ((Ru.enc t).drop 4).take 1 = [.sl (t.pos.map Fc.enc)] := by simp only [Ru.enc_eq] <;> rfl
theorem Ru.enc_at5 (t : Ru) : (Ru.enc t)[5]? = some (.sl (t.neg.map Fc.enc)) := by simp only [Ru.enc_eq] <;> rfl
theorem Ru.enc_pt5 (t : Ru) : ((Ru.enc t).drop 5).take 1 = [.sl (t.neg.map Fc.enc)] := by simp only [Ru.enc_eq] <;> rfl
theorem Ru.enc_tk0 (t : Ru) : (Ru.enc t).take 1 = [.str t.head.rel] := by simp only [Ru.enc_eq] <;> rfl
theorem Ru.enc_tk2 (t : Ru) : (Ru.enc t).take 2 = Fc.enc t.head := by simp only [Ru.enc_eq, Fc.enc_eq] <;> rfl
theorem Ru.enc_st0 (t : Ru) : ((Ru.enc t).drop 0).take 2 = Fc.enc t.head := by simp only [Ru.enc_eq, Fc.enc_eq] <;> rfl
theorem Ru.encS : type_of% (And.intro Ru.enc_len <| And.intro Ru.enc_at0 <| And.intro Ru.enc_pt0 <| And.intro Ru.enc_at1 <| And.intro Ru.enc_pt1 <| And.intro Ru.enc_at2 <| And.intro Ru.enc_pt2 <| And.intro Ru.enc_at3 <| And.intro Ru.enc_pt3 <| And.intro Ru.enc_at4 <| And.intro Ru.enc_pt4 <| And.intro Ru.enc_at5 <| And.intro Ru.enc_pt5 <| Ru.enc_st0) := And.intro Ru.enc_len <| And.intro Ru.enc_at0 <| And.intro Ru.enc_pt0 <| And.intro Ru.enc_at1 <| And.intro Ru.enc_pt1 <| And.intro Ru.enc_at2 <| And.intro Ru.enc_pt2 <| And.intro Ru.enc_at3 <| And.intro Ru.enc_pt3 <| And.intro Ru.enc_at4 <| And.intro Ru.enc_pt4 <| And.intro Ru.enc_at5 <| And.intro Ru.enc_pt5 <| Ru.enc_st0


/-! ### From shapes to the types -/

theorem encL_of {α : Type} {P : Program} {e : TypeId} {enc : α → List D} (h : ∀ x, Sh P e x → ∃ t, x = enc t) : ∀ xs : List (List D), (∀ x, x ∈ xs → Sh P e x) → ∃ l : List α, xs = l.map enc
  | [], _ => ⟨[], rfl⟩
  | x :: r, hx => by
    obtain ⟨t, rfl⟩ := h x (hx x (by simp))
    obtain ⟨l, rfl⟩ := encL_of h r (fun y hy => hx y (by simp [hy]))
    exact ⟨t :: l, rfl⟩
theorem encL_of_wt {α : Type} {P : Program} {e : TypeId} {enc : α → List D} : ∀ xs : List (List D), (∀ x, x ∈ xs → ∃ t, x = enc t) → ∃ l : List α, xs = l.map enc
  | [], _ => ⟨[], rfl⟩
  | x :: r, hx => by
    obtain ⟨t, rfl⟩ := hx x (by simp)
    obtain ⟨l, rfl⟩ := encL_of_wt (P := P) (e := e) r (fun y hy => hx y (by simp [hy]))
    exact ⟨t :: l, rfl⟩
theorem I_of {P : Program} {e : TypeId} (hl : leaves P 6 e = some [.int .i64]) (x : List D) (h : Sh P e x) : ∃ n, x = encI n := by
  obtain ⟨ls, h1, h2, h3⟩ := h
  rw [hl] at h1
  cases h1
  match x, h2, h3 with
  | [c0], _, h3 =>
    obtain ⟨b0, rfl, q0⟩ := (h3 0 _ _ rfl rfl).int_inv
    exact ⟨b0, rfl⟩
theorem S_of {P : Program} {e : TypeId} (hl : leaves P 6 e = some [.str]) (x : List D) (h : Sh P e x) : ∃ n, x = encS n := by
  obtain ⟨ls, h1, h2, h3⟩ := h
  rw [hl] at h1
  cases h1
  match x, h2, h3 with
  | [c0], _, h3 =>
    obtain ⟨b0, rfl, q0⟩ := (h3 0 _ _ rfl rfl).str_inv
    exact ⟨b0, rfl⟩
theorem L_of {α : Type} {P : Program} {e e' : TypeId} {enc : α → List D} (hl : leaves P 6 e = some [.sl e']) (h' : ∀ x, Sh P e' x → ∃ t, x = enc t) (x : List D) (h : Sh P e x) : ∃ n, x = encL enc n := by
  obtain ⟨ls, h1, h2, h3⟩ := h
  rw [hl] at h1
  cases h1
  match x, h2, h3 with
  | [c0], _, h3 =>
    obtain ⟨b0, rfl, q0⟩ := (h3 0 _ _ rfl rfl).elems
    obtain ⟨l, rfl⟩ := encL_of h' b0 q0.2
    exact ⟨l, rfl⟩
theorem Tm.of_wt {P : Program} {e : TypeId} (hl : leaves P 6 e = some [.int .i64, .int .i64, .str, .sl e]) : ∀ (m : Nat) (x : List D), wtL x < m → Sh P e x → ∃ t, x = Tm.enc t := by
  intro m
  induction m with
  | zero => intro x h; omega
  | succ m ih =>
  intro x hw h
  obtain ⟨ls, h1, h2, h3⟩ := h
  rw [hl] at h1
  cases h1
  match x, hw, h2, h3 with
  | [c0, c1, c2, c3], hw, _, h3 =>
    obtain ⟨b0, rfl, q0⟩ := (h3 0 _ _ rfl rfl).int_inv
    obtain ⟨b1, rfl, q1⟩ := (h3 1 _ _ rfl rfl).int_inv
    obtain ⟨b2, rfl, q2⟩ := (h3 2 _ _ rfl rfl).str_inv
    obtain ⟨b3, rfl, q3⟩ := (h3 3 _ _ rfl rfl).elems
    have hw' : wtL [D.int .i64 b0, D.int .i64 b1, D.str b2, D.sl b3] = b2.length + wtR b3 := by simp only [wtL, D.wt] <;> omega
    obtain ⟨l3, rfl⟩ := encL_of_wt (P := P) (e := e) (enc := Tm.enc) b3 (fun y hy => ih y (by have := wtL_lt b3 y hy; omega) (q3.2 y hy))
    exact ⟨(.mk b0 b1 b2 l3), by simp only [Tm.enc_eq] <;> rfl⟩
theorem Tm.of_sh {P : Program} {e : TypeId} (hl : leaves P 6 e = some [.int .i64, .int .i64, .str, .sl e]) (x : List D) (h : Sh P e x) : ∃ t, x = Tm.enc t := Tm.of_wt hl  _ x (Nat.lt_succ_self _) h
theorem Gl.of_wt {P : Program} {e e0 : TypeId} (hl : leaves P 6 e = some [.int .i64, .str, .sl e0, .sl e]) (h_e0 : ∀ x, Sh P e0 x → ∃ t, x = Tm.enc t) : ∀ (m : Nat) (x : List D), wtL x < m → Sh P e x → ∃ t, x = Gl.enc t := by
  intro m
  induction m with
  | zero => intro x h; omega
  | succ m ih =>
  intro x hw h
  obtain ⟨ls, h1, h2, h3⟩ := h
  rw [hl] at h1
  cases h1
  match x, hw, h2, h3 with
  | [c0, c1, c2, c3], hw, _, h3 =>
    obtain ⟨b0, rfl, q0⟩ := (h3 0 _ _ rfl rfl).int_inv
    obtain ⟨b1, rfl, q1⟩ := (h3 1 _ _ rfl rfl).str_inv
    obtain ⟨b2, rfl, q2⟩ := (h3 2 _ _ rfl rfl).elems
    obtain ⟨b3, rfl, q3⟩ := (h3 3 _ _ rfl rfl).elems
    have hw' : wtL [D.int .i64 b0, D.str b1, D.sl b2, D.sl b3] = b1.length + wtR b2 + wtR b3 := by simp only [wtL, D.wt] <;> omega
    obtain ⟨l2, rfl⟩ := encL_of h_e0 b2 q2.2
    obtain ⟨l3, rfl⟩ := encL_of_wt (P := P) (e := e) (enc := Gl.enc) b3 (fun y hy => ih y (by have := wtL_lt b3 y hy; omega) (q3.2 y hy))
    exact ⟨(.mk b0 b1 l2 l3), by simp only [Gl.enc_eq] <;> rfl⟩
theorem Gl.of_sh {P : Program} {e e0 : TypeId} (hl : leaves P 6 e = some [.int .i64, .str, .sl e0, .sl e]) (h_e0 : ∀ x, Sh P e0 x → ∃ t, x = Tm.enc t) (x : List D) (h : Sh P e x) : ∃ t, x = Gl.enc t := Gl.of_wt hl h_e0 _ x (Nat.lt_succ_self _) h
theorem Pf.of_wt {P : Program} {e e0 : TypeId} (hl : leaves P 6 e = some [.str, .int .i64, .sl e0, .sl e]) (h_e0 : ∀ x, Sh P e0 x → ∃ t, x = Tm.enc t) : ∀ (m : Nat) (x : List D), wtL x < m → Sh P e x → ∃ t, x = Pf.enc t := by
  intro m
  induction m with
  | zero => intro x h; omega
  | succ m ih =>
  intro x hw h
  obtain ⟨ls, h1, h2, h3⟩ := h
  rw [hl] at h1
  cases h1
  match x, hw, h2, h3 with
  | [c0, c1, c2, c3], hw, _, h3 =>
    obtain ⟨b0, rfl, q0⟩ := (h3 0 _ _ rfl rfl).str_inv
    obtain ⟨b1, rfl, q1⟩ := (h3 1 _ _ rfl rfl).int_inv
    obtain ⟨b2, rfl, q2⟩ := (h3 2 _ _ rfl rfl).elems
    obtain ⟨b3, rfl, q3⟩ := (h3 3 _ _ rfl rfl).elems
    have hw' : wtL [D.str b0, D.int .i64 b1, D.sl b2, D.sl b3] = b0.length + wtR b2 + wtR b3 := by simp only [wtL, D.wt] <;> omega
    obtain ⟨l2, rfl⟩ := encL_of h_e0 b2 q2.2
    obtain ⟨l3, rfl⟩ := encL_of_wt (P := P) (e := e) (enc := Pf.enc) b3 (fun y hy => ih y (by have := wtL_lt b3 y hy; omega) (q3.2 y hy))
    exact ⟨(.mk b0 b1 l2 l3), by simp only [Pf.enc_eq] <;> rfl⟩
theorem Pf.of_sh {P : Program} {e e0 : TypeId} (hl : leaves P 6 e = some [.str, .int .i64, .sl e0, .sl e]) (h_e0 : ∀ x, Sh P e0 x → ∃ t, x = Tm.enc t) (x : List D) (h : Sh P e x) : ∃ t, x = Pf.enc t := Pf.of_wt hl h_e0 _ x (Nat.lt_succ_self _) h
theorem Fc.of_sh {P : Program} {e e0 : TypeId} (hl : leaves P 6 e = some [.str, .sl e0]) (h_e0 : ∀ x, Sh P e0 x → ∃ t, x = Tm.enc t) (x : List D) (h : Sh P e x) : ∃ t, x = Fc.enc t := by
  obtain ⟨ls, h1, h2, h3⟩ := h
  rw [hl] at h1
  cases h1
  match x, h2, h3 with
  | [c0, c1], _, h3 =>
    obtain ⟨b0, rfl, q0⟩ := (h3 0 _ _ rfl rfl).str_inv
    obtain ⟨b1, rfl, q1⟩ := (h3 1 _ _ rfl rfl).elems
    obtain ⟨l1, rfl⟩ := encL_of h_e0 b1 q1.2
    exact ⟨(.mk b0 l1), by simp only [Fc.enc_eq] <;> rfl⟩
theorem Bd.of_sh {P : Program} {e e0 : TypeId} (hl : leaves P 6 e = some [.int .i64, .int .i64, .int .i64, .str, .sl e0]) (h_e0 : ∀ x, Sh P e0 x → ∃ t, x = Tm.enc t) (x : List D) (h : Sh P e x) : ∃ t, x = Bd.enc t := by
  obtain ⟨ls, h1, h2, h3⟩ := h
  rw [hl] at h1
  cases h1
  match x, h2, h3 with
  | [c0, c1, c2, c3, c4], _, h3 =>
    obtain ⟨b0, rfl, q0⟩ := (h3 0 _ _ rfl rfl).int_inv
    obtain ⟨b1, rfl, q1⟩ := (h3 1 _ _ rfl rfl).int_inv
    obtain ⟨b2, rfl, q2⟩ := (h3 2 _ _ rfl rfl).int_inv
    obtain ⟨b3, rfl, q3⟩ := (h3 3 _ _ rfl rfl).str_inv
    obtain ⟨b4, rfl, q4⟩ := (h3 4 _ _ rfl rfl).elems
    obtain ⟨l4, rfl⟩ := encL_of h_e0 b4 q4.2
    exact ⟨(.mk b0 (.mk b1 b2 b3 l4)), by simp only [Bd.enc_eq] <;> rfl⟩
theorem Vk.of_sh {P : Program} {e : TypeId} (hl : leaves P 6 e = some [.int .i64, .int .i64]) (x : List D) (h : Sh P e x) : ∃ t, x = Vk.enc t := by
  obtain ⟨ls, h1, h2, h3⟩ := h
  rw [hl] at h1
  cases h1
  match x, h2, h3 with
  | [c0, c1], _, h3 =>
    obtain ⟨b0, rfl, q0⟩ := (h3 0 _ _ rfl rfl).int_inv
    obtain ⟨b1, rfl, q1⟩ := (h3 1 _ _ rfl rfl).int_inv
    exact ⟨(.mk b0 b1), by simp only [Vk.enc_eq] <;> rfl⟩
theorem Mk.of_sh {P : Program} {e : TypeId} (hl : leaves P 6 e = some [.int .i64, .str]) (x : List D) (h : Sh P e x) : ∃ t, x = Mk.enc t := by
  obtain ⟨ls, h1, h2, h3⟩ := h
  rw [hl] at h1
  cases h1
  match x, h2, h3 with
  | [c0, c1], _, h3 =>
    obtain ⟨b0, rfl, q0⟩ := (h3 0 _ _ rfl rfl).int_inv
    obtain ⟨b1, rfl, q1⟩ := (h3 1 _ _ rfl rfl).str_inv
    exact ⟨(.mk b0 b1), by simp only [Mk.enc_eq] <;> rfl⟩
theorem Sta.of_sh {P : Program} {e e0 e1 e2 e3 : TypeId} (hl : leaves P 6 e = some [.int .i64, .sl e0, .sl e1, .sl e2, .sl e3]) (h_e0 : ∀ x, Sh P e0 x → ∃ t, x = Bd.enc t) (h_e1 : ∀ x, Sh P e1 x → ∃ t, x = (encL Bd.enc) t) (h_e2 : ∀ x, Sh P e2 x → ∃ t, x = Vk.enc t) (h_e3 : ∀ x, Sh P e3 x → ∃ t, x = Mk.enc t) (x : List D) (h : Sh P e x) : ∃ t, x = Sta.enc t := by
  obtain ⟨ls, h1, h2, h3⟩ := h
  rw [hl] at h1
  cases h1
  match x, h2, h3 with
  | [c0, c1, c2, c3, c4], _, h3 =>
    obtain ⟨b0, rfl, q0⟩ := (h3 0 _ _ rfl rfl).int_inv
    obtain ⟨b1, rfl, q1⟩ := (h3 1 _ _ rfl rfl).elems
    obtain ⟨b2, rfl, q2⟩ := (h3 2 _ _ rfl rfl).elems
    obtain ⟨b3, rfl, q3⟩ := (h3 3 _ _ rfl rfl).elems
    obtain ⟨b4, rfl, q4⟩ := (h3 4 _ _ rfl rfl).elems
    obtain ⟨l1, rfl⟩ := encL_of h_e0 b1 q1.2
    obtain ⟨l2, rfl⟩ := encL_of h_e1 b2 q2.2
    obtain ⟨l3, rfl⟩ := encL_of h_e2 b3 q3.2
    obtain ⟨l4, rfl⟩ := encL_of h_e3 b4 q4.2
    exact ⟨(.mk b0 l1 l2 l3 l4), by simp only [Sta.enc_eq] <;> rfl⟩
theorem Bra.of_sh {P : Program} {e e0 e1 e2 e3 e4 : TypeId} (hl : leaves P 6 e = some [.int .i64, .sl e0, .sl e1, .sl e2, .sl e3, .sl e4]) (h_e0 : ∀ x, Sh P e0 x → ∃ t, x = Bd.enc t) (h_e1 : ∀ x, Sh P e1 x → ∃ t, x = (encL Bd.enc) t) (h_e2 : ∀ x, Sh P e2 x → ∃ t, x = Vk.enc t) (h_e3 : ∀ x, Sh P e3 x → ∃ t, x = Mk.enc t) (h_e4 : ∀ x, Sh P e4 x → ∃ t, x = encI t) (x : List D) (h : Sh P e x) : ∃ t, x = Bra.enc t := by
  obtain ⟨ls, h1, h2, h3⟩ := h
  rw [hl] at h1
  cases h1
  match x, h2, h3 with
  | [c0, c1, c2, c3, c4, c5], _, h3 =>
    obtain ⟨b0, rfl, q0⟩ := (h3 0 _ _ rfl rfl).int_inv
    obtain ⟨b1, rfl, q1⟩ := (h3 1 _ _ rfl rfl).elems
    obtain ⟨b2, rfl, q2⟩ := (h3 2 _ _ rfl rfl).elems
    obtain ⟨b3, rfl, q3⟩ := (h3 3 _ _ rfl rfl).elems
    obtain ⟨b4, rfl, q4⟩ := (h3 4 _ _ rfl rfl).elems
    obtain ⟨b5, rfl, q5⟩ := (h3 5 _ _ rfl rfl).elems
    obtain ⟨l1, rfl⟩ := encL_of h_e0 b1 q1.2
    obtain ⟨l2, rfl⟩ := encL_of h_e1 b2 q2.2
    obtain ⟨l3, rfl⟩ := encL_of h_e2 b3 q3.2
    obtain ⟨l4, rfl⟩ := encL_of h_e3 b4 q4.2
    obtain ⟨l5, rfl⟩ := encL_of h_e4 b5 q5.2
    exact ⟨(.mk (.mk b0 l1 l2 l3 l4) l5), by simp only [Bra.enc_eq] <;> rfl⟩
theorem Stm.of_wt {P : Program} {e e0 e1 e2 e3 e4 e5 e6 : TypeId} (hl : leaves P 6 e = some [.int .i64, .int .i64, .sl e0, .sl e1, .sl e2, .sl e3, .sl e4, .int .i64, .str, .sl e5, .sl e6, .sl e]) (h_e0 : ∀ x, Sh P e0 x → ∃ t, x = Bd.enc t) (h_e1 : ∀ x, Sh P e1 x → ∃ t, x = (encL Bd.enc) t) (h_e2 : ∀ x, Sh P e2 x → ∃ t, x = Vk.enc t) (h_e3 : ∀ x, Sh P e3 x → ∃ t, x = Mk.enc t) (h_e4 : ∀ x, Sh P e4 x → ∃ t, x = encI t) (h_e5 : ∀ x, Sh P e5 x → ∃ t, x = Tm.enc t) (h_e6 : ∀ x, Sh P e6 x → ∃ t, x = Gl.enc t) : ∀ (m : Nat) (x : List D), wtL x < m → Sh P e x → ∃ t, x = Stm.enc t := by
  intro m
  induction m with
  | zero => intro x h; omega
  | succ m ih =>
  intro x hw h
  obtain ⟨ls, h1, h2, h3⟩ := h
  rw [hl] at h1
  cases h1
  match x, hw, h2, h3 with
  | [c0, c1, c2, c3, c4, c5, c6, c7, c8, c9, c10, c11], hw, _, h3 =>
    obtain ⟨b0, rfl, q0⟩ := (h3 0 _ _ rfl rfl).int_inv
    obtain ⟨b1, rfl, q1⟩ := (h3 1 _ _ rfl rfl).int_inv
    obtain ⟨b2, rfl, q2⟩ := (h3 2 _ _ rfl rfl).elems
    obtain ⟨b3, rfl, q3⟩ := (h3 3 _ _ rfl rfl).elems
    obtain ⟨b4, rfl, q4⟩ := (h3 4 _ _ rfl rfl).elems
    obtain ⟨b5, rfl, q5⟩ := (h3 5 _ _ rfl rfl).elems
    obtain ⟨b6, rfl, q6⟩ := (h3 6 _ _ rfl rfl).elems
    obtain ⟨b7, rfl, q7⟩ := (h3 7 _ _ rfl rfl).int_inv
    obtain ⟨b8, rfl, q8⟩ := (h3 8 _ _ rfl rfl).str_inv
    obtain ⟨b9, rfl, q9⟩ := (h3 9 _ _ rfl rfl).elems
    obtain ⟨b10, rfl, q10⟩ := (h3 10 _ _ rfl rfl).elems
    obtain ⟨b11, rfl, q11⟩ := (h3 11 _ _ rfl rfl).elems
    have hw' : wtL [D.int .i64 b0, D.int .i64 b1, D.sl b2, D.sl b3, D.sl b4, D.sl b5, D.sl b6, D.int .i64 b7, D.str b8, D.sl b9, D.sl b10, D.sl b11] = wtR b2 + wtR b3 + wtR b4 + wtR b5 + wtR b6 + b8.length + wtR b9 + wtR b10 + wtR b11 := by simp only [wtL, D.wt] <;> omega
    obtain ⟨l2, rfl⟩ := encL_of h_e0 b2 q2.2
    obtain ⟨l3, rfl⟩ := encL_of h_e1 b3 q3.2
    obtain ⟨l4, rfl⟩ := encL_of h_e2 b4 q4.2
    obtain ⟨l5, rfl⟩ := encL_of h_e3 b5 q5.2
    obtain ⟨l6, rfl⟩ := encL_of h_e4 b6 q6.2
    obtain ⟨l9, rfl⟩ := encL_of h_e5 b9 q9.2
    obtain ⟨l10, rfl⟩ := encL_of h_e6 b10 q10.2
    obtain ⟨l11, rfl⟩ := encL_of_wt (P := P) (e := e) (enc := Stm.enc) b11 (fun y hy => ih y (by have := wtL_lt b11 y hy; omega) (q11.2 y hy))
    exact ⟨(.mk b0 (.mk (.mk b1 l2 l3 l4 l5) l6) (.mk b7 b8 l9 l10) l11), by simp only [Stm.enc_eq] <;> rfl⟩
theorem Stm.of_sh {P : Program} {e e0 e1 e2 e3 e4 e5 e6 : TypeId} (hl : leaves P 6 e = some [.int .i64, .int .i64, .sl e0, .sl e1, .sl e2, .sl e3, .sl e4, .int .i64, .str, .sl e5, .sl e6, .sl e]) (h_e0 : ∀ x, Sh P e0 x → ∃ t, x = Bd.enc t) (h_e1 : ∀ x, Sh P e1 x → ∃ t, x = (encL Bd.enc) t) (h_e2 : ∀ x, Sh P e2 x → ∃ t, x = Vk.enc t) (h_e3 : ∀ x, Sh P e3 x → ∃ t, x = Mk.enc t) (h_e4 : ∀ x, Sh P e4 x → ∃ t, x = encI t) (h_e5 : ∀ x, Sh P e5 x → ∃ t, x = Tm.enc t) (h_e6 : ∀ x, Sh P e6 x → ∃ t, x = Gl.enc t) (x : List D) (h : Sh P e x) : ∃ t, x = Stm.enc t := Stm.of_wt hl h_e0 h_e1 h_e2 h_e3 h_e4 h_e5 h_e6 _ x (Nat.lt_succ_self _) h
theorem Rl.of_sh {P : Program} {e e0 e1 : TypeId} (hl : leaves P 6 e = some [.str, .int .i64, .int .i64, .int .i64, .str, .sl e0, .sl e1]) (h_e0 : ∀ x, Sh P e0 x → ∃ t, x = Tm.enc t) (h_e1 : ∀ x, Sh P e1 x → ∃ t, x = Gl.enc t) (x : List D) (h : Sh P e x) : ∃ t, x = Rl.enc t := by
  obtain ⟨ls, h1, h2, h3⟩ := h
  rw [hl] at h1
  cases h1
  match x, h2, h3 with
  | [c0, c1, c2, c3, c4, c5, c6], _, h3 =>
    obtain ⟨b0, rfl, q0⟩ := (h3 0 _ _ rfl rfl).str_inv
    obtain ⟨b1, rfl, q1⟩ := (h3 1 _ _ rfl rfl).int_inv
    obtain ⟨b2, rfl, q2⟩ := (h3 2 _ _ rfl rfl).int_inv
    obtain ⟨b3, rfl, q3⟩ := (h3 3 _ _ rfl rfl).int_inv
    obtain ⟨b4, rfl, q4⟩ := (h3 4 _ _ rfl rfl).str_inv
    obtain ⟨b5, rfl, q5⟩ := (h3 5 _ _ rfl rfl).elems
    obtain ⟨b6, rfl, q6⟩ := (h3 6 _ _ rfl rfl).elems
    obtain ⟨l5, rfl⟩ := encL_of h_e0 b5 q5.2
    obtain ⟨l6, rfl⟩ := encL_of h_e1 b6 q6.2
    exact ⟨(.mk b0 b1 b2 (.mk b3 b4 l5 l6)), by simp only [Rl.enc_eq] <;> rfl⟩
theorem Pg.of_sh {P : Program} {e e0 : TypeId} (hl : leaves P 6 e = some [.sl e0]) (h_e0 : ∀ x, Sh P e0 x → ∃ t, x = Rl.enc t) (x : List D) (h : Sh P e x) : ∃ t, x = Pg.enc t := by
  obtain ⟨ls, h1, h2, h3⟩ := h
  rw [hl] at h1
  cases h1
  match x, h2, h3 with
  | [c0], _, h3 =>
    obtain ⟨b0, rfl, q0⟩ := (h3 0 _ _ rfl rfl).elems
    obtain ⟨l0, rfl⟩ := encL_of h_e0 b0 q0.2
    exact ⟨(.mk l0), by simp only [Pg.enc_eq] <;> rfl⟩
theorem Ru.of_sh {P : Program} {e e0 e1 : TypeId} (hl : leaves P 6 e = some [.str, .sl e0, .int .i64, .sl e0, .sl e1, .sl e1]) (h_e0 : ∀ x, Sh P e0 x → ∃ t, x = Tm.enc t) (h_e1 : ∀ x, Sh P e1 x → ∃ t, x = Fc.enc t) (x : List D) (h : Sh P e x) : ∃ t, x = Ru.enc t := by
  obtain ⟨ls, h1, h2, h3⟩ := h
  rw [hl] at h1
  cases h1
  match x, h2, h3 with
  | [c0, c1, c2, c3, c4, c5], _, h3 =>
    obtain ⟨b0, rfl, q0⟩ := (h3 0 _ _ rfl rfl).str_inv
    obtain ⟨b1, rfl, q1⟩ := (h3 1 _ _ rfl rfl).elems
    obtain ⟨b2, rfl, q2⟩ := (h3 2 _ _ rfl rfl).int_inv
    obtain ⟨b3, rfl, q3⟩ := (h3 3 _ _ rfl rfl).elems
    obtain ⟨b4, rfl, q4⟩ := (h3 4 _ _ rfl rfl).elems
    obtain ⟨b5, rfl, q5⟩ := (h3 5 _ _ rfl rfl).elems
    obtain ⟨l1, rfl⟩ := encL_of h_e0 b1 q1.2
    obtain ⟨l3, rfl⟩ := encL_of h_e0 b3 q3.2
    obtain ⟨l4, rfl⟩ := encL_of h_e1 b4 q4.2
    obtain ⟨l5, rfl⟩ := encL_of h_e1 b5 q5.2
    exact ⟨(.mk (.mk b0 l1) b2 l3 l4 l5), by simp only [Ru.enc_eq] <;> rfl⟩

/-! The first cells: Tm.enc_tk0 Gl.enc_tk0 Pf.enc_tk0 Fc.enc_tk0 Bd.enc_tk0 Vk.enc_tk0 Mk.enc_tk0 Sta.enc_tk0 Bra.enc_tk0 Bra.enc_tk5 Stm.enc_tk0 Rl.enc_tk0 Pg.enc_tk0 Ru.enc_tk0 Ru.enc_tk2 -/
/-- The data types' cells, in one word. -/
theorem tyE : type_of% (And.intro Tm.encS <| And.intro Gl.encS <| And.intro Pf.encS <| And.intro Fc.encS <| And.intro Bd.encS <| And.intro Vk.encS <| And.intro Mk.encS <| And.intro Sta.encS <| And.intro Bra.encS <| And.intro Stm.encS <| And.intro Rl.encS <| And.intro Pg.encS <| And.intro Ru.encS <| And.intro @encI_len <| And.intro @encS_len <| And.intro @encB_len <| @encL_len) := And.intro Tm.encS <| And.intro Gl.encS <| And.intro Pf.encS <| And.intro Fc.encS <| And.intro Bd.encS <| And.intro Vk.encS <| And.intro Mk.encS <| And.intro Sta.encS <| And.intro Bra.encS <| And.intro Stm.encS <| And.intro Rl.encS <| And.intro Pg.encS <| And.intro Ru.encS <| And.intro @encI_len <| And.intro @encS_len <| And.intro @encB_len <| @encL_len
end Go.Abs

