import Derived.Test.YtjbidjeijodmnaaGreatP5
set_option linter.unusedVariables false
set_option linter.unusedSimpArgs false
namespace Go.Abs
mutual
def Gl.cn:Gl→Nat→List (List UInt8)
 | .mk k n _ gs,i=>if k=8 then Gl.cnOr gs i else if k=7 then Gl.cnAnd gs i else if k=9 then [n] else []
def Gl.cnOr:List Gl→Nat→List (List UInt8)
 | [],_=>[]
 | g :: r,i=>if i<g.clsS.length then Gl.cn g i else Gl.cnOr r (i - g.clsS.length)
def Gl.cnAnd:List Gl→Nat→List (List UInt8)
 | [],_=>[]
 | g :: r,i=>Gl.cn g (i / Gl.prd r % g.clsS.length)++Gl.cnAnd r i
end
end Go.Abs
