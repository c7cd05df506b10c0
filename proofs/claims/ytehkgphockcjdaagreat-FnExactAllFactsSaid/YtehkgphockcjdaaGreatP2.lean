import Derived.Test.YtehkgphockcjdaaGreatP1
set_option linter.unusedVariables false
set_option linter.unusedSimpArgs false
namespace Go.Abs
def strD (l:List (List UInt8)):List (List D):=l.map encS
theorem strD_one (s:List UInt8):strD [s]=[[.str s]]:=rfl
theorem strD_nil:strD []=[]:=rfl
mutual
def Gl.callsI (neg:Bool):Gl→Bool→List (List UInt8)
 | .mk k n _ gs,ins=>(if k=9∧ins=neg then [n] else [])++Gl.callsIs neg gs (ins || decide (k=10))
def Gl.callsIs (neg:Bool):List Gl→Bool→List (List UInt8)
 | [],_=>[]
 | g :: r,ins=>Gl.callsI neg g ins++Gl.callsIs neg r ins
end
theorem Gl.callsI_eq (neg ins:Bool) (g:Gl):g.callsI neg ins=(if g.kind=9∧ins=neg then [g.name] else [])++Gl.callsIs neg g.goals (ins || decide (g.kind=10)):=by
 cases g;simp only [Gl.callsI,Gl.kind,Gl.name,Gl.goals];rfl
mutual
def Gl.callsS (neg:Bool):Gl→List (List UInt8)
 | .mk k n _ gs=>(if k=9∧neg=false then [n] else [])++(if k=10 then (if neg=true then ((gs.take 1).map Gl.name) else []) else Gl.callsSs neg gs)
def Gl.callsSs (neg:Bool):List Gl→List (List UInt8)
 | []=>[]
 | g :: r=>Gl.callsS neg g++Gl.callsSs neg r
end
theorem Gl.callsS_eq (neg:Bool) (g:Gl):g.callsS neg=(if g.kind=9∧neg=false then [g.name] else [])++(if g.kind=10 then (if neg=true then ((g.goals.take 1).map Gl.name) else []) else Gl.callsSs neg g.goals):=by
 cases g;simp only [Gl.callsS,Gl.kind,Gl.name,Gl.goals];rfl
theorem Gl.calls_same:∀(g:Gl) (neg:Bool),g.shape=true→g.callsI neg false=g.callsS neg:=by
 intro g
 induction g using Gl.ind' with
 | h t ih =>
  intro neg hs
  have hsh:=hs
  rw [Gl.shape_eq] at hs
  simp only [Bool.and_eq_true,List.all_eq_true] at hs
  obtain ⟨⟨hf,_⟩,hg⟩:=hs
  rw [Gl.callsI_eq,Gl.callsS_eq]
  have key:∀(l:List Gl),(∀x,x∈l→x∈t.goals)→Gl.callsIs neg l false=Gl.callsSs neg l:=by
   intro l
   induction l with
   | nil=>intro _;simp [Gl.callsIs,Gl.callsSs]
   | cons x r ihr =>
    intro hl
    have hx:=hl x (by simp)
    simp only [Gl.callsIs,Gl.callsSs,ih x hx neg (hg x hx),ihr (fun x hx=>hl x (by simp [hx]))]
  have e1:(if t.kind=9∧false=neg then [t.name] else [])=(if t.kind=9∧neg=false then [t.name] else []):=by cases neg<;>simp
  rw [e1]
  congr 1
  by_cases h10:t.kind=10
  ·rw [if_pos h10]
   simp only [h10,decide_true,Bool.or_true]
   obtain ⟨x,hx⟩:∃x,t.goals=[x]∧x.kind=9:=by
    rcases Gl.form_inv hf with h | h | h | h
    ·omega
    ·omega
    ·omega
    ·obtain ⟨_,_,_,h4,h5⟩:=h
     match he:t.goals,h4,h5 with
     | [x],_,h5=>exact ⟨x,rfl,by simpa [firstCall] using h5⟩
     | [],h4,_=>simp at h4
     | x :: y :: r,h4,_=>simp at h4;omega
   obtain ⟨hx,hk⟩:=hx
   have hxf:=hg x (by rw [hx];simp)
   rw [Gl.shape_eq] at hxf
   simp only [Bool.and_eq_true] at hxf
   have hxg:x.goals=[]:=by
    rcases Gl.form_inv hxf.1.1 with h | h | h | h
    ·exact List.length_eq_zero_iff.1 (by omega)
    ·omega
    ·omega
    ·omega
   rw [hx]
   simp only [Gl.callsIs,Gl.callsI_eq,hk,hxg,List.append_nil,true_and,List.take_succ_cons,List.take_zero,List.map_cons,List.map_nil]
   cases neg<;>simp
  ·rw [if_neg h10]
   simp only [h10,decide_false,Bool.or_false]
   exact key t.goals (fun x hx=>hx)
end Go.Abs
