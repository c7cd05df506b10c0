import Derived.Test.YtockpdkdnlkkfaaGreatW109
import Derived.Test.YtockpdkdnlkkfaaGreatW8
import Derived.Test.YtockpdkdnlkkfaaGreatW9
namespace Go.Proofs.YtockpdkdnlkkfaaGreat
open Go.Abs
set_option maxRecDepth 100000
set_option maxHeartbeats 8000000
set_option linter.unusedSimpArgs false
set_option linter.unusedVariables false
def vcOpL0 (P:Program) (s:St) (o:Oper) (K:C→List O→Prop):Prop:=
 match o.op with
 | .buildSlice _ 0 _=>vcOpT P s o K
 | _=>vcOpL P s o K
def vcRL0 (P:Program) (n:Nat) (K:St→Prop):List Oper→St→Prop
 | [],⟨σ,H⟩=>K ⟨σ,H⟩
 | o :: rest,⟨σ,H⟩=>okDst n o=true∧o.guard=none∧vcOpL0 P ⟨σ,H⟩ o (kR (vcRL0 P n K rest) ⟨σ,H⟩ o.dst)
attribute [go_sem] vcOpL0.eq_def vcRL0.eq_1 vcRL0.eq_2
def stgD (rs:List RV) (m:Nat):List (List D):=(List.range m).map fun i=>[.sl ((stg rs i).map fcE)]
theorem stgD_1 (rs:List RV):stgD rs 1=[[.sl []]]:=rfl
end Go.Proofs.YtockpdkdnlkkfaaGreat
