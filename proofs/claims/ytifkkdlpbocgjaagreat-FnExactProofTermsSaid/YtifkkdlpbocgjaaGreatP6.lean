import Derived.Test.YtifkkdlpbocgjaaGreatP1
import Derived.Test.YtifkkdlpbocgjaaGreatP5
set_option linter.unusedVariables false
set_option linter.unusedSimpArgs false
namespace Go.Abs
mutual
def Pf.mcnt:Pf→Nat
 | .mk _ _ ts gs=>2+Tm.mcnts ts+Pf.mcnts gs
def Pf.mcnts:List Pf→Nat
 | []=>0
 | t :: r=>Pf.mcnt t+Pf.mcnts r
end
theorem Pf.mcnt_eq (t:Pf):t.mcnt=2+Tm.mcnts t.values+Pf.mcnts t.kids:=by cases t;simp only [Pf.mcnt,Pf.values,Pf.kids]
mutual
def Pf.mrk (k:Int):Pf→Pf
 | .mk _ _ ts gs=>.mk (mText k) (k+1) (Tm.mrks (k+2) ts) (Pf.mrks (k+2+Tm.mcnts ts) gs)
def Pf.mrks (k:Int):List Pf→List Pf
 | []=>[]
 | t :: r=>Pf.mrk k t :: Pf.mrks (k+t.mcnt) r
end
theorem Pf.mrk_eq (k:Int) (t:Pf):t.mrk k=.mk (mText k) (k+1) (Tm.mrks (k+2) t.values) (Pf.mrks (k+2+Tm.mcnts t.values) t.kids):=by cases t;simp only [Pf.mrk,Pf.values,Pf.kids]
theorem Pf.mrks_len:∀(l:List Pf) (k:Int),(Pf.mrks k l).length=l.length
 | [],_=>rfl
 | t :: r,k=>by simp [Pf.mrks,Pf.mrks_len r]
theorem Pf.mrks_app:∀(a b:List Pf) (k:Int),Pf.mrks k (a++b)=Pf.mrks k a++Pf.mrks (k+Pf.mcnts a) b
 | [],b,k=>by simp [Pf.mrks,Pf.mcnts]
 | t :: a,b,k=>by
  simp only [List.cons_append,Pf.mrks,Pf.mcnts,Pf.mrks_app a b]
  rw [show k+(t.mcnt:Int)+(Pf.mcnts a:Int)=k+((t.mcnt+Pf.mcnts a:Nat):Int) by omega]
theorem Pf.mcnts_app:∀(a b:List Pf),Pf.mcnts (a++b)=Pf.mcnts a+Pf.mcnts b
 | [],b=>by simp [Pf.mcnts]
 | t :: a,b=>by simp only [List.cons_append,Pf.mcnts,Pf.mcnts_app a b];omega
theorem Pf.len_mcnts:∀l:List Pf,l.length≤Pf.mcnts l
 | []=>by simp
 | t :: r=>by have:=Pf.len_mcnts r;have:=Pf.mcnt_eq t;simp only [Pf.mcnts,List.length_cons];omega
theorem Pf.mcnt_wt:∀t:Pf,t.mcnt≤3+3 * wtL t.enc:=by
 intro t
 induction t using Pf.ind' with
 | h t ih =>
  have key:∀(l:List Pf),(∀x,x∈l→x∈t.kids)→Pf.mcnts l≤3 * wtR (l.map Pf.enc):=by
   intro l
   induction l with
   | nil=>intro _;simp [Pf.mcnts]
   | cons x r ihr =>
    intro hl
    have h1:=ih x (hl x (by simp))
    have h2:=ihr (fun x hx=>hl x (by simp [hx]))
    simp only [Pf.mcnts,List.map_cons,wtR]
    omega
  have h1:=key t.kids (fun x hx=>hx)
  have h2:=Tm.mcnts_wt t.values
  rw [Pf.mcnt_eq]
  simp only [Pf.enc_eq t,wtL,D.wt]
  omega
theorem Pf.mcnts_wt:∀l:List Pf,Pf.mcnts l≤3 * wtR (l.map Pf.enc)
 | []=>by simp [Pf.mcnts]
 | t :: r=>by
  have h1:=Pf.mcnts_wt r
  have h2:=Pf.mcnt_wt t
  simp only [Pf.mcnts,List.map_cons,wtR];omega
end Go.Abs
