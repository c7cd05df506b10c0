import Derived.Test.YtehkgphockcjdaaGreatP5
import Derived.Test.YtehkgphockcjdaaGreatP2
import Derived.Test.YtehkgphockcjdaaGreatA9
import Derived.Lib.ItoaLen
set_option linter.unusedVariables false
set_option linter.unusedSimpArgs false
namespace Go.Abs
def dec (n:Int):List UInt8:=Lib.itoa n
theorem dec_pos {n:Int} (h:0≤n):dec n=Lib.decDigits n.toNat:=by unfold dec Lib.itoa;rw [if_neg (by omega)]
theorem dec_neg {n:Int} (h:n<0):dec n=45 :: Lib.decDigits n.natAbs:=by unfold dec Lib.itoa;rw [if_pos h]
def joinS (by_:List UInt8):List (List UInt8)→List UInt8
 | []=>[]
 | x :: r=>x++r.flatMap fun y=>by_++y
namespace V
def txs:V→List UInt8×List UInt8
 | nil=>([40,41],[41])
 | var n=>(63 :: dec n,[32,46,32]++(63 :: dec n)++[41])
 | sym s=>(s,[32,46,32]++s++[41])
 | num n=>(dec n,[32,46,32]++dec n++[41])
 | pair a b=>(40 :: (a.txs.1++b.txs.2),32 :: (a.txs.1++b.txs.2))
def txt (v:V):List UInt8:=v.txs.1
def tl (v:V):List UInt8:=v.txs.2
theorem txt_pair (a b:V):(pair a b).txt=40 :: (a.txt++b.tl):=rfl
theorem tl_pair (a b:V):(pair a b).tl=32 :: (a.txt++b.tl):=rfl
theorem tl_nil:nil.tl=[41]:=rfl
end V
def headT (k:Int):List UInt8:=
 if k=0 then [116,114,117,101] else if k=1 then [102,97,105,108] else if k=2 then [61] else if k=3 then [47,61] else if k=4 then [115,121,109,98,111,108] else
 if k=5 then [110,117,109,98,101,114] else if k=6 then [97,98,115,101,110,116] else if k=7 then [97,110,100] else if k=8 then [111,114] else if k=10 then [110,111,116] else []
mutual
def Gl.txt:Gl→List UInt8
 | .mk k n ts gs=>if k≤1 then headT k++n else 40 :: (joinS [32] ((headT k++n) :: (ts.map (fun t=>t.V.txt)++Gl.txts gs))++[41])
def Gl.txts:List Gl→List (List UInt8)
 | []=>[]
 | g :: r=>Gl.txt g :: Gl.txts r
end
def Fc.gl (f:Fc):Gl:=.mk 9 f.rel f.args []
def Fc.txt (f:Fc):List UInt8:=if glOk f.gl=true∧f.gl.vars=[] then f.gl.txt else []
def Rl.hdW (r:Rl) (i:Nat):List (List UInt8):=r.name :: (List.range i).map fun k:Nat=>63 :: dec k
def Rl.txt (r:Rl):List UInt8:=[40,100,101,102,105,110,101,32,40]++joinS [32] (r.hdW r.arity.toNat)++[41,32]++r.body.txt++[41,10]
def Pg.txt (p:Pg):List UInt8:=p.rels.flatMap Rl.txt
def grp (l:List (List UInt8)):List UInt8:=40 :: (joinS [32] l++[41])
mutual
def Pf.txt:Pf→List UInt8
 | .mk rel cl vals kids=>grp (rel :: dec cl :: grp (vals.map fun t=>t.V.txt) :: Pf.txts kids)
def Pf.txts:List Pf→List (List UInt8)
 | []=>[]
 | k :: r=>Pf.txt k :: Pf.txts r
end
def Pf.vals (t:Pf):List (List UInt8):=t.values.map fun t=>t.V.txt
end Go.Abs
